/- Parts of the proof of DecodeBytes: merged and given short names by a program of ours. -/
import Derived.Laws.Strings
import Derived.Test.YthohephggmkeeaaGreatDoorZpB
set_option linter.unusedVariables false
set_option linter.unusedSimpArgs false
open Array renaming length_toList → a4B, getElem?_eq_none → a6A, ext' → a6V
open Bool renaming false_eq_true → a2A, not_true → a3P
open Int renaming toNat_natCast → a1H, tdiv_eq_ediv_of_nonneg → a1R, tmod_eq_emod_of_nonneg → a2B, fdiv_eq_ediv_of_nonneg → a3A, le_refl → a6P
open List renaming getElem?_cons_zero → a1A, getElem?_cons_succ → a1B, take_succ_cons → a1C, set_cons_succ → a1D, set_cons_zero → a1E, drop_zero → a1F, take_zero → a1G, getElem?_eq_getElem → a1I, length_drop → a1L, length_map → a1M, length_take → a1N, length_append → a1O, getD_eq_getElem?_getD → a1P, take_of_length_le → a1T, length_cons → a1U, getElem?_append_left → a1V, getElem?_eq_none → a1X, length_replicate → a2C, mem_cons_of_mem → a2E, getElem?_map → a2F, map_append → a2I, drop_eq_getElem_cons → a2J, length_eq_zero_iff → a2K, getElem?_take_of_lt → a2L, getElem_mem → a2P, append_assoc → a2R, replicate_succ → a2S, mem_range → a2U, mem_append → a2X, map_congr_left → a2Y, mem_cons → a3C, mem_of_getElem? → a3E, take_add_one → a3F, getElem?_append_right → a3G, set_append_right → a3H, map_drop → a3M, drop_of_length_le → a3N, getElem_map → a3R, getElem?_range → a3S, getElem?_toArray → a3T, mem_singleton → a3W, ext_getElem → a3Y, getElem_cons_zero → a3Z, ext_getElem? → a4C, map_cons → a4D, nil_append → a4F, getElem?_drop → a4I, mem_map → a4J, getElem_of_mem → a4K, append_nil → a4M, cons_append → a4P, take_length → a4Q, map_take → a4R, set_append_left → a4S, count_append → a4U, toList_toArray → a4W, getElem_range → a5A, replicate_succ' → a5C, getElem?_replicate → a5F, length_pos_iff → a5G, mem_cons_self → a5L, getLast?_eq_getElem? → a5Q, map_replicate → a5X, range_succ → a5Y, getElem_set_self → a6D, map_set → a6E, drop_length → a6H, mem_of_mem_take → a6I, length_range → a6O, getElem_set → a6R, count_singleton → a6W, getLast?_concat → a6X
open Nat renaming le_refl → a1J, pow_le_pow_right → a1K, zero_add → a1Q, lt_or_ge → a1Y, two_pow_pos → a2G, mul_comm → a2N, pow_succ → a2O, min_eq_left → a2T, mul_le_mul_right → a2V, mul_one → a2Z, mod_eq_of_lt → a3B, add_mul → a3D, add_zero → a3I, eq_zero_or_pos → a3J, le_trans → a3K, div_le_self → a3Q, add_sub_cancel → a3X, pow_add → a4A, add_assoc → a4E, zero_le → a4G, and_two_pow_sub_one_eq_mod → a4O, mod_lt → a4X, div_div_eq_div_mul → a5I, lt_of_lt_of_le → a5M, sub_self → a5N, div_lt_iff_lt_mul → a5O, testBit_eq_decide_div_mod_eq → a5T, mul_assoc → a6J, sub_zero → a6M, mul_add → a6Q, pow_lt_pow_right → a6Z, succ_mul → a7A
open Option renaming map_some → a2Q
open Option.some renaming inj → a1Z
open Prod.mk renaming inj → a5K
open UInt8 renaming toNat_lt → a2D
namespace Go.Proofs.YthohephggmkeeaaGreatDoor
open Go Go.En Go.Pu
set_option maxRecDepth 4000
variable{log:Int}{ps:List Int}{sv:a7C}{w:a7B}
theorem aSf{i:Nat}(hi:i<ps.length):Gq (ps.take (i+1))=Gq (ps.take i)+bX ps[i]:=by
 rw[a3F,a1I hi,aeJ];simp[Gq]
theorem aRM(hs:Sl w sv (ps.map (Value.int .i64)))(hl:ps.length<=9223372036854775807):
 aL pg Ze #[.agg #[.int .i64 log,sv]] w (λr w'=>r= .bool (aaL log ps)/\aE w w' aP):=by
 refine aEn ?_;unfold aGo ajX ajW;obtain⟨a,c,rfl,hc⟩:=hs.lenI;refine bY λw1 o1 x1 s1=> ?_;have hs0:=hs.ext x1 (aR _);have c0:=o1.cell (off:=0);have c1:=o1.cell (off:=1);simp only[Value.cells,a1A,a1B]at c0 c1;have no:¬(5<=log/\log<=15/\1<=ps.length/\ps.length<=256/\ps.getLast?≠some 0)->aaL log ps=false:=λh=>by
  unfold aaL aF4;rw[decide_eq_false h]<;>rfl
 by_cases h1:log<5
 .have d1:decide (log<5)=true:=by simpa using h1
  simp(disch:=omega)only[SV,c0,c1,d1];exact⟨by rw[no (by omega)],x1⟩
 have d1:decide (log<5)=false:=by simpa using h1
 by_cases h2:15<log
 .have d2:decide (15<log)=true:=by simpa using h2
  simp(disch:=omega)only[SV,c0,c1,d1,d2];exact⟨by rw[no (by omega)],x1⟩
 have d2:decide (15<log)=false:=by simpa using h2
 by_cases h3:ps.length<1
 .have d3:((ps.length:Int)==0)=true:=by rw[beq_iff_eq];omega
  simp(disch:=omega)only[SV,c0,c1,d1,d2,d3];exact⟨by rw[no (by omega)],x1⟩
 have d3:((ps.length:Int)==0)=false:=by rw[beq_eq_false_iff_ne];omega
 by_cases h4:256<ps.length
 .have d4:decide ((256:Int)<(ps.length:Int))=true:=by simp;omega
  simp(disch:=omega)only[SV,c0,c1,d1,d2,d3,d4];exact⟨by rw[no (by omega)],x1⟩
 have d4:decide ((256:Int)<(ps.length:Int))=false:=by simp;omega
 obtain⟨b,off,c',e,hc',hcell⟩:=hs0.openI (by omega);cases e;have e1:((ps.length:Int)-1)=((ps.length-1:Nat):Int):=by omega
 have g1:=hcell (ps.length-1) (by omega);by_cases h5:ps[ps.length-1]'(by omega)=0
 .have d5:(ps[ps.length-1]'(by omega)==0)=true:=by simpa using h5
  simp(disch:=omega)only[SV,c0,c1,d1,d2,d3,d4,e1,g1,d5];exact⟨by rw[no (λh=>h.2.2.2.2 ((VF (by omega)).2 h5))],x1⟩
 have d5:(ps[ps.length-1]'(by omega)==0)=false:=by simpa using h5
 obtain⟨l,rfl⟩:∃l:Nat,log=l:=⟨log.toNat,by omega⟩;have hyes:aaL (l:Int) ps=fits (2^l) ps:=by
  unfold aaL aF4;rw[decide_eq_true ⟨by omega,by omega,by omega,by omega,λh=>h5 ((VF (by omega)).1 h)⟩,a1H]<;>rfl
 simp(disch:=omega)only[SV,c0,c1,d1,d2,d3,d4,e1,g1,d5];unfold Sw Sv ajV II;have hp15:=aJD (log:=l) (by omega);refine aN.rule (λm t w'=>∃(i:Nat),m=ps.length-i/\t=(.int .i64 (Gq (ps.take i)),.int .i64 i)/\i<=ps.length/\0<=Gq (ps.take i)/\Gq (ps.take i)<=32768*i/\(∀p∈ps.take i,-1<=p)/\aE w w' aP/\aE w1 w' aP) ps.length
  ⟨0,rfl,by simp[Gq],by omega,by simp[Gq],by simp[Gq],by simp,x1,aE.refl _ _⟩ ?_
 rintro m t w2 ⟨i,rfl,rfl,hi,hs0',hs1,hlo,x2,x12⟩;have o2:=o1.ext x12 (λh=>h);have c0:=o2.cell (off:=0);have c1:=o2.cell (off:=1);simp only[Value.cells,a1A,a1B]at c0 c1;by_cases hlt:i<ps.length
 .have d6:decide ((i:Int)<(ps.length:Int))=true:=by simp;omega
  obtain⟨b',off',c',e,_,hcell2⟩:=(hs.ext x2 (aR _)).openI (by omega);cases e;have g2:=hcell2 i hlt;have bad:¬(-1<=ps[i]/\ps[i]<=32768)->aaL (l:Int) ps=false:=λh=>by
   rw[hyes,<-Bool.not_eq_true,arD];rintro⟨k1,k2⟩;have:=aNG k1 (a2P hlt);have:=k1 _ (a2P hlt);unfold bX at*;split at* <;>omega
  by_cases h6:ps[i]< -1
  .have d7:decide (ps[i]< -1)=true:=by simpa using h6
   unfold uT uS uR uQ AG;simp(disch:=omega)only[SV,c0,c1,d6,g2,d7];exact⟨by rw[bad (by omega)],x2⟩
  have d7:decide (ps[i]< -1)=false:=by simpa using h6
  by_cases h7:32768<ps[i]
  .have d8:decide (32768<ps[i])=true:=by simpa using h7
   unfold uT uS uR uQ AG;simp(disch:=omega)only[SV,c0,c1,d6,g2,d7,d8];exact⟨by rw[bad (by omega)],x2⟩
  have d8:decide (32768<ps[i])=false:=by simpa using h7
  have hts:=aSf hlt;have hlow:∀p∈ps.take (i+1),-1<=p:=λp hp=>by
   rw[a3F,a1I hlt]at hp;rcases a2X.1 hp with hp|hp
   .exact hlo p hp
   .simp at hp;omega
  unfold uT uS uR uQ AG;by_cases h8:ps[i]<0
  .have d9:decide (ps[i]<0)=true:=by simpa using h8
   have e:bX ps[i]=1:=by unfold bX;rw[if_pos h8]
   simp(disch:=omega)only[Me,Mf,AG,uQ,uR,uS,uT,SV,c0,c1,d6,g2,d7,d8,d9];exact⟨ps.length-(i+1),by omega,i+1,rfl,by rw[hts,e]<;>rfl,by omega,by omega,by omega,hlow,x2,x12⟩
  .have d9:decide (ps[i]<0)=false:=by simpa using h8
   have e:bX ps[i]=ps[i]:=by unfold bX;rw[if_neg h8]
   simp(disch:=omega)only[Me,Mf,AG,uQ,uR,uS,uT,SV,c0,c1,d6,g2,d7,d8,d9];exact⟨ps.length-(i+1),by omega,i+1,rfl,by rw[hts,e]<;>rfl,by omega,by omega,by omega,hlow,x2,x12⟩
 .have d6:decide ((i:Int)<(ps.length:Int))=false:=by simp;omega
  unfold uT uS Wa;simp(disch:=omega)only[SV,c0,c1,d6];refine(IE l (by omega) _).mono ?_;rintro r w3 ⟨rfl,rfl⟩;rw[a1T (by omega)]at hlo⊢;simp(disch:=omega)only[SV];refine⟨?_,x2⟩;rw[hyes];congr 1;rw[Bool.eq_iff_iff,arD,beq_iff_eq];exact⟨λh=>⟨hlo,h⟩,λh=>h.2⟩
def Vu(log:Int)(ps:List Int)(most:Int):Int:=if aaL log ps=false then 1 else if most<log then 12 else 0
theorem aNi{most:Int}(hs:Sl w sv (ps.map (Value.int .i64)))(hl:ps.length<=9223372036854775807):
 aL pg Mw #[.agg #[.int .i64 log,sv],.int .i64 most] w (λr w'=>r= .int .i64 (Vu log ps most)/\aE w w' aP):=by
 refine asR ?_;unfold asQ Xn;refine bY λw1 o1 x1 s1=> ?_;have hs:=hs.ext x1 (aR _);rw[show cK 235=cK 235 from rfl];have l1:=fP o1 (off:=0) (by simp[Value.cells]);simp only[Value.cells,a1F,a1C,a1G]at l1;simp(disch:=omega)only[SV,l1];refine(aXG hs hl).mono ?_;rintro r w2 ⟨rfl,x2⟩;have o2:=o1.ext x2 (λh=>h);have c0:=o2.cell (off:=0);simp only[Value.cells,a1A]at c0;unfold Vu;cases hm:aaL log ps with
 |false=>
  simp(disch:=omega)only[SV];exact x1.seq x2
 |true=>
  by_cases h:most<log
  .have d:decide (most<log)=true:=by simpa using h
   simp(disch:=omega)only[SV,c0,d];exact⟨by simp[h],x1.seq x2⟩
  .have d:decide (most<log)=false:=by simpa using h
   simp(disch:=omega)only[SV,c0,d];exact⟨by simp[h],x1.seq x2⟩
theorem aLQ{most:Int}(hs:Sl w sv (ps.map (Value.int .i64)))(hl:ps.length<=9223372036854775807):
 aL pg Ru #[.agg #[.int .i64 log,sv],.int .i64 most] w (λr w'=>r= .int .i64 (Vu log ps most)/\aE w w' aP):=by
 refine azI ?_;unfold aA6 abM;refine bY λw1 o1 x1 s1=> ?_;have hs:=hs.ext x1 (aR _);have l1:=fM o1 (off:=0) (by simp[Value.cells]);simp only[Value.cells,a1F,a1C,a1G]at l1;simp(disch:=omega)only[SV,l1];refine(aRM hs hl).mono ?_;rintro r w2 ⟨rfl,x2⟩;have o2:=o1.ext x2 (λh=>h);have c0:=o2.cell (off:=0);simp only[Value.cells,a1A]at c0;unfold Vu;cases hm:aaL log ps with
 |false=>
  simp(disch:=omega)only[SV];exact x1.seq x2
 |true=>
  by_cases h:most<log
  .have d:decide (most<log)=true:=by simpa using h
   simp(disch:=omega)only[SV,c0,d];exact⟨by simp[h],x1.seq x2⟩
  .have d:decide (most<log)=false:=by simpa using h
   simp(disch:=omega)only[SV,c0,d];exact⟨by simp[h],x1.seq x2⟩
end Go.Proofs.YthohephggmkeeaaGreatDoor
namespace Go.Pu
open Go Go.En
def aFN(c:UInt8):List Bool:=(List.range 8).map c.toNat.testBit
def aG:List UInt8->List Bool
 |[]=>[]
 |c::l=>aFN c++aG l
def tX:List Bool->Nat
 |[]=>0
 |b::l=>b.toNat+2*tX l
theorem LX(c:UInt8):(aFN c).length=8:=by simp[aFN]
theorem cJ:∀l:List UInt8,(aG l).length=8*l.length
 |[]=>rfl
 |c::l=>by rw[aG,a1O,LX,cJ l,a1U];omega
theorem aqH:∀a b:List UInt8,aG (a++b)=aG a++aG b
 |[],b=>rfl
 |c::a,b=>by rw[a4P,aG,aG,aqH a b,a2R]
theorem aN7 (c:UInt8){k:Nat}(h:k<8):(aFN c)[k]?=some (c.toNat.testBit k):=by
 unfold aFN;rw[a2F,a3S h]<;>rfl
theorem afL:∀(l:List UInt8) (i:Nat) (h:i<8*l.length),(aG l)[i]?=some ((l[i/8]'(by omega)).toNat.testBit (i%8))
 |[],i,h=>by simp at h
 |c::l,i,h=>by
  rw[aG];rcases a1Y i 8 with h8|h8
  .rw [a1V (by rw[LX];exact h8),aN7 c h8];have e:i/8=0:=by omega
   have e2:i%8=i:=by omega
   simp[e,e2]
  .rw [a3G (by rw[LX];exact h8),LX,afL l (i-8) (by simp at h;omega)];have e:i/8=(i-8)/8+1:=by omega
   have e2:(i-8)%8=i%8:=by omega
   simp[e,e2]
theorem asX:∀l:List Bool,tX l<2^l.length
 |[]=>by simp[tX]
 |b::l=>by
  have:=asX l;rw[tX,a1U,a2O];have:b.toNat<=1:=Bool.toNat_le b;omega
theorem aaU:∀a b:List Bool,tX (a++b)=tX a+2^a.length*tX b
 |[],b=>by simp[tX]
 |x::a,b=>by
  rw[a4P,tX,tX,aaU a b,a1U,a2O,a6Q,<-a6J,<-a4E,a2N 2 (2^a.length)]
theorem aOD(a:List Bool)(x:Bool):tX (a++[x])=tX a+2^a.length*x.toNat:=by
 rw[aaU];simp[tX]
def aC3 (x:Nat)(n:Nat):List Bool:=(List.range n).map x.testBit
theorem aKW(x:Nat):aC3 x 0=[]:=rfl
theorem aKV(x n:Nat):aC3 x (n+1)=aC3 x n++[x.testBit n]:=by
 unfold aC3;rw[a5Y,a2I]<;>rfl
theorem aHz{x i:Nat}(h:x<2^i)(b:Nat):x|||(b*2^i)=x+2^i*b:=by
 rw[Nat.or_comm,a2N b,<-Nat.two_pow_add_eq_or_of_lt h b,Nat.add_comm]
theorem aNF{a b:Nat}(ha:a<2^64)(hb:b<2^64):orI .u64 (a:Int) (b:Int)=((a|||b:Nat):Int):=by
 have h:=Nat.or_lt_two_pow ha hb;unfold orI;have e:IntKind.u64.bits=64:=rfl;rw[e,BitVec.ofInt_natCast,BitVec.ofInt_natCast,BitVec.toNat_or,BitVec.toNat_ofNat,BitVec.toNat_ofNat,a3B ha,a3B hb]
 exact eL (by omega) (by have:((a|||b:Nat):Int)<((2^64:Nat):Int):=by exact_mod_cast h
                         omega)
theorem aS1 {a:Nat}(h:a<2^8):yK .u8 (a:Int) 1=((a%2:Nat):Int):=by
 have:∀k:Fin 256,yK .u8 (k.val:Int) 1=((k.val%2:Nat):Int):=by decide+kernel
 exact this ⟨a,h⟩
theorem aPm(x k:Nat):(x.testBit k).toNat=x/2^k%2:=by
 rw[a5T];have:x/2^k%2=0∨x/2^k%2=1:=by omega
 rcases this with h|h<;>simp[h]
def iI(L:List Bool)(n:Nat):Nat:=tX (L.drop (L.length-min n L.length))*2^(n-min n L.length)
theorem kY(L:List Bool)(n:Nat):iI L n<2^n:=by
 unfold iI;have h:=asX (L.drop (L.length-min n L.length));rw[a1L,show L.length-(L.length-min n L.length)=min n L.length from by omega]at h
 calc _<2^min n L.length*2^(n-min n L.length):=Nat.mul_lt_mul_of_pos_right h (a2G _)
  _=2^n:=by rw[<-a4A];congr 1;omega
theorem aFy{L:List Bool}{at' i:Nat}{b:Bool}(h:L[at'+i]?=some b):(L.drop at').take (i+1)=(L.drop at').take i++[b]:=by
 rw[a3F,a4I,h]<;>rfl
def YM(l:List UInt8):Option Nat:=match l.getLast? with
 |none=>none
 |some c=>if c.toNat=0 then none else some (8*(l.length-1)+bl c.toNat-1)
theorem TL{l:List UInt8}(h:0<l.length):YM l=if(l[l.length-1]'(by omega)).toNat=0 then none else some (8*(l.length-1)+bl (l[l.length-1]'(by omega)).toNat-1):=by
 unfold YM;rw[a5Q,a1I (by omega)]
theorem Dw{l:List UInt8}{k:Nat}(h:YM l=some k):0<l.length/\k<8*l.length/\8*(l.length-1)<=k/\(aG l)[k]?=some true/\∀j,k<j->j<8*l.length->(aG l)[j]?=some false:=by
 have h0:0<l.length:=by
  cases l with
  |nil=>simp[YM]at h
  |cons x l=>simp
 rw[TL h0]at h;generalize hc:l[l.length-1]'(by omega)=c at h;split at h
 .cases h
 .rename_i hne;have hk:=a1Z h;have h1:=M9 hne
  have h2:bl c.toNat<=8:=rH (by have:c.toNat<256:=a2D c
                                omega)
  have h3:=ahM hne;have h4:=Zz c.toNat;refine⟨h0,by omega,by omega, ?_, ?_⟩
  .rw [afL l k (by omega)];have e:k/8=l.length-1:=by omega
   have e2:k%8=bl c.toNat-1:=by omega
   simp only[e,hc,e2];rw[a5T];obtain⟨m,hm⟩:∃m,bl c.toNat=m+1:=⟨bl c.toNat-1,by omega⟩;rw[hm,a3X]at h3⊢;rw[hm,a2O]at h4;have:c.toNat/2^m=1:=by
    have hp:=a2G m;have:=(Nat.le_div_iff_mul_le hp).2 (show 1*2^m<=c.toNat by omega);have:=(a5O hp).2 (show c.toNat<2*2^m by omega);omega
   simp[this]
  .intro j h5 h6;rw[afL l j h6];have e:j/8=l.length-1:=by omega
   simp only[e,hc];rw[Nat.testBit_lt_two_pow];exact a5M h4 (a1K (by omega) (by omega))
structure aYO(B:List Bool)(l:List UInt8):Prop where
 len:l.length=(B.length+7)/8
 bits:aG l=B++List.replicate (8*l.length-B.length) false
end Go.Pu
namespace Go.Pu
theorem axN{log:Nat}{ps:List Int}{i:Nat}(h:i<2^log):(fL log ps)[i]?=some (Nu log ps (eE 0 log ps) i):=by
 unfold fL;rw[a2F,a3S h]<;>rfl
end Go.Pu
namespace Go.Pu
open Go Go.En
variable{k:Nat}
def vQ(k:Nat):List Nat:=if k=0 then[0,1,2,3,4,5,6,7,8,9,10,11,12,13,14,15,16,18,20,22,24,28,32,40,48,64,128,256,512,1024,2048,4096,8192,16384,32768,65536]
 else if k=1 then[1,2,4,8,16,32,64,128,256,512,1024,2048,4096,8192,16384,32768,65536,131072,262144,524288,1048576,2097152,4194304,8388608,16777216,33554432,67108864,134217728,268435456,536870912,1073741824,2147483648]
 else[3,4,5,6,7,8,9,10,11,12,13,14,15,16,17,18,19,20,21,22,23,24,25,26,27,28,29,30,31,32,33,34,35,37,39,41,43,47,51,59,67,83,99,131,259,515,1027,2051,4099,8195,16387,32771,65539]
def jU(k:Nat):List Nat:=if k=0 then[0,0,0,0,0,0,0,0,0,0,0,0,0,0,0,0,1,1,1,1,2,2,3,3,4,6,7,8,9,10,11,12,13,14,15,16]
 else if k=1 then List.range 32
 else[0,0,0,0,0,0,0,0,0,0,0,0,0,0,0,0,0,0,0,0,0,0,0,0,0,0,0,0,0,0,0,0,1,1,1,1,2,2,3,3,4,4,5,7,8,9,10,11,12,13,14,15,16]
abbrev oA(k:Nat):Nat:=(vQ k).length
theorem aQw(h:k<3):(jU k).length=oA k:=by
 rcases(show k=0∨k=1∨k=2 by omega)with rfl|rfl|rfl<;>rfl
theorem aFR(h:k<3)(c:Nat)(hc:c+1<oA k):(vQ k).getD (c+1) 0=(vQ k).getD c 0+2^(jU k).getD c 0:=by
 have h0:∀c,c<53->c+1<oA 0->(vQ 0).getD (c+1) 0=(vQ 0).getD c 0+2^(jU 0).getD c 0:=by decide+kernel
 have h1:∀c,c<53->c+1<oA 1->(vQ 1).getD (c+1) 0=(vQ 1).getD c 0+2^(jU 1).getD c 0:=by decide+kernel
 have h2:∀c,c<53->c+1<oA 2->(vQ 2).getD (c+1) 0=(vQ 2).getD c 0+2^(jU 2).getD c 0:=by decide+kernel
 have hl:oA k<=53:=by rcases(show k=0∨k=1∨k=2 by omega)with rfl|rfl|rfl<;>decide
 rcases(show k=0∨k=1∨k=2 by omega)with rfl|rfl|rfl
 .exact h0 c (by omega) hc
 .exact h1 c (by omega) hc
 .exact h2 c (by omega) hc
theorem aGW(h:k<3)(c:Nat):(jU k).getD c 0<=31:=by
 have:∀x∈jU k,x<=31:=by
  rcases(show k=0∨k=1∨k=2 by omega)with rfl|rfl|rfl<;>decide
 rw[a1P];cases hc:(jU k)[c]? with
 |none=>simp
 |some x=>simpa using this x (a3E hc)
theorem aS6 (h:k<3)(c:Nat)(hc:c<oA k):(vQ k).getD c 0+2^(jU k).getD c 0<=4294967296:=by
 have h0:∀c,c<53->c<oA 0->(vQ 0).getD c 0+2^(jU 0).getD c 0<=4294967296:=by decide+kernel
 have h1:∀c,c<53->c<oA 1->(vQ 1).getD c 0+2^(jU 1).getD c 0<=4294967296:=by decide+kernel
 have h2:∀c,c<53->c<oA 2->(vQ 2).getD c 0+2^(jU 2).getD c 0<=4294967296:=by decide+kernel
 have hl:oA k<=53:=by rcases(show k=0∨k=1∨k=2 by omega)with rfl|rfl|rfl<;>decide
 rcases(show k=0∨k=1∨k=2 by omega)with rfl|rfl|rfl
 .exact h0 c (by omega) hc
 .exact h1 c (by omega) hc
 .exact h2 c (by omega) hc
def aIe(k v c:Nat):Prop:=c<oA k/\(vQ k).getD c 0<=v/\v<(vQ k).getD c 0+2^(jU k).getD c 0
theorem axO(h:k<3):∀{c d:Nat},c<d->d<oA k->(vQ k).getD c 0+2^(jU k).getD c 0<=(vQ k).getD d 0
 |c,d+1,hcd,hd=>by
  have e:=aFR h d (by omega);rcases a1Y c d with h'|h'
  .have:=axO h h' (by omega);have:=a2G ((jU k).getD d 0);omega
  .have:c=d:=by omega
   subst this;omega
theorem aIe.one {v c d:Nat}(hk:k<3)(hc:aIe k v c)(hd:aIe k v d):c=d:=by
 rcases Nat.lt_trichotomy c d with h|h|h
 .have:=axO hk h hd.1;have:=hc.2.2;have:=hd.2.1;omega
 .exact h
 .have:=axO hk h hc.1;have:=hd.2.2;have:=hc.2.1;omega
theorem aIe.lt {v c:Nat}(hk:k<3)(hc:aIe k v c):v<4294967296:=by
 have:=aS6 hk c hc.1;have:=hc.2.2;omega
structure Sq where
 ll:Nat
 ml:Nat
 of:Nat
deriving DecidableEq
def sAt(L:List (Int×Int×Int))(s:Int):Nat:=if 0<=s then(match L[s.toNat]? with|some e=>e.1.toNat|none=>0)else 0
def bAt(L:List (Int×Int×Int))(s:Int):Nat:=if 0<=s then(match L[s.toNat]? with|some e=>e.2.1.toNat|none=>0)else 0
def nAt(L:List (Int×Int×Int))(s:Int)(x:Nat):Int:=if 0<=s then(match L[s.toNat]? with|some e=>e.2.2+x|none=>0)else 0
def B6 (B:List Bool)(left:Int)(n:Nat):Nat:=iI (B.take left.toNat) n
def vR(k:Nat)(L:List (Int×Int×Int))(s:Int)(B:List Bool)(left:Int):Nat×Int:=
 ((vQ k).getD (sAt L s) 0+B6 B left ((jU k).getD (sAt L s) 0),left-(jU k).getD (sAt L s) 0)
def nR(L:List (Int×Int×Int))(s:Int)(B:List Bool)(left:Int):Int×Int:=(nAt L s (B6 B left (bAt L s)),left-bAt L s)
def sqR(L0 L1 L2:List (Int×Int×Int))(B:List Bool):Nat->Int->Int->Int->Int->List Sq×Int
 |0,_,_,_,left=>([],left)
 |n+1,s0,s1,s2,left=>
  let o:=vR 1 L1 s1 B left
  let m:=vR 2 L2 s2 B o.2
  let l:=vR 0 L0 s0 B m.2
  if n=0 then([⟨l.1,m.1,o.1⟩],l.2)
  else
   let a:=nR L0 s0 B l.2
   let c:=nR L2 s2 B a.2
   let b:=nR L1 s1 B c.2
   let r:=sqR L0 L1 L2 B n a.1 b.1 c.1 b.2
   (⟨l.1,m.1,o.1⟩::r.1,r.2)
end Go.Pu
namespace Go.Pu
structure Rp where
 a:Nat
 b:Nat
 c:Nat
deriving DecidableEq
variable{r:Rp}
def agB(r:Rp):Prop:=r.a<4294967296/\r.b<4294967296/\r.c<4294967296
def kR(lit off:Nat):Nat:=if lit=0 then off else off-1
def xR(r:Rp)(k:Nat):Nat:=if k=0 then r.a else if k=1 then r.b else if k=2 then r.c else(r.a+4294967295)%4294967296
def rR(r:Rp)(k x:Nat):Rp:=if k=0 then⟨x,r.b,r.c⟩else if k=1 then⟨x,r.a,r.c⟩else⟨x,r.a,r.b⟩
def HL(r:Rp)(lit off:Nat):Except Int (Nat×Rp):=
 if off=0 then .error 11
 else if 3<off then .ok (off-3,⟨off-3,r.a,r.b⟩)
 else if xR r (kR lit off)=0 then .error 16 else .ok (xR r (kR lit off),rR r (kR lit off) (xR r (kR lit off)))
theorem aUY(h:agB r)(k:Nat):xR r k<4294967296:=by
 obtain⟨h1,h2,h3⟩:=h;unfold xR;split
 .exact h1
 .split
  .exact h2
  .split
   .exact h3
   .exact a4X _ (by decide)
theorem aXL(h:agB r){k x:Nat}(hx:x<4294967296):agB (rR r k x):=by
 obtain⟨h1,h2,h3⟩:=h;unfold rR;split
 .exact ⟨hx,h2,h3⟩
 .split
  .exact ⟨hx,h1,h3⟩
  .exact ⟨hx,h1,h2⟩
theorem aHx{lit off x:Nat}{r':Rp}(hr:agB r)(ho:off<4294967296)(h:HL r lit off= .ok (x,r')):agB r'/\0<x/\x<4294967296:=by
 unfold HL at h;split at h
 .cases h
 .split at h
  .cases h;exact⟨⟨show off-3<_ by omega,hr.1,hr.2.1⟩,by omega,by omega⟩
  .split at h
   .cases h
   .cases h;exact⟨aXL hr (aUY hr _),by omega,aUY hr _⟩
theorem aD0 {lit off:Nat}{e:Int}(h:HL r lit off= .error e):e≠0:=by
 unfold HL at h;split at h
 .cases h;decide
 .split at h
  .cases h
  .split at h
   .cases h;decide
   .cases h
def cpy(x:Nat):Nat->List UInt8->List UInt8
 |0,l=>l
 |n+1,l=>cpy x n (l++[l.getD (l.length-x) 0])
theorem Qv(x:Nat):∀(n:Nat) (l:List UInt8),(cpy x n l).length=l.length+n
 |0,l=>rfl
 |n+1,l=>by unfold cpy;rw[Qv x n,a1O];simp only[a1U,List.length_nil];omega
theorem aDg(x:Nat):∀(n:Nat) (l:List UInt8),cpy x (n+1) l=cpy x n l++[(cpy x n l).getD ((cpy x n l).length-x) 0]
 |0,l=>rfl
 |n+1,l=>by
  show cpy x (n+1) (l++[l.getD (l.length-x) 0])=_;rw[aDg x n]<;>rfl
def Jm(win bound base:Nat):List Sq->List UInt8->List UInt8->Rp->Except Int (List UInt8×Rp)
 |[],all,lits,r=>if bound<all.length-base+lits.length then .error 12 else .ok (all++lits,r)
 |s::q,all,lits,r=>
  if lits.length<s.ll then .error 11
  else match HL r s.ll s.of with
   | .error e=> .error e
   | .ok (x,r')=>
     if all.length+s.ll<x∨win<x then .error 16
     else if bound<all.length-base+s.ll+s.ml then .error 12
     else Jm win bound base q (cpy x s.ml (all++lits.take s.ll)) (lits.drop s.ll) r'
theorem aNo{win bound base:Nat}:∀{q:List Sq} {all lits:List UInt8} {r:Rp} {a:List UInt8} {r':Rp},agB r->(∀s∈q,s.of<4294967296)->base<=all.length→
 Jm win bound base q all lits r= .ok (a,r')->agB r'/\base<=a.length/\a.length<=base+bound
 |[],all,lits,r,a,r',hr,hq,hb,h=>by
  unfold Jm at h;split at h
  .cases h
  .cases h;rw[a1O];exact⟨hr,by omega,by omega⟩
 |s::q,all,lits,r,a,r',hr,hq,hb,h=>by
  unfold Jm at h;split at h
  .cases h
  .split at h
   .cases h
   .rename_i x r1 ho;split at h
    .cases h
    .split at h
     .cases h
     .exact aNo (aHx hr (hq s (a5L ..)) ho).1 (λs hs=>hq s (a2E _ hs)) (by rw[Qv,a1O];omega) h
theorem ZN{win bound base:Nat}:∀{q:List Sq} {all lits:List UInt8} {r:Rp} {e:Int},Jm win bound base q all lits r= .error e->e≠0
 |[],all,lits,r,e,h=>by
  unfold Jm at h;split at h
  .cases h;decide
  .cases h
 |s::q,all,lits,r,e,h=>by
  unfold Jm at h;split at h
  .cases h;decide
  .split at h
   .rename_i e' ho;injection h with h;subst h;unfold HL at ho;split at ho
    .cases ho;decide
    .split at ho
     .cases ho
     .split at ho
      .cases ho;decide
      .cases ho
   .split at h
    .cases h;decide
    .split at h
     .cases h;decide
     .exact ZN h
end Go.Pu
namespace Go.Proofs.YthohephggmkeeaaGreatDoor
open Go Go.En Go.Pu
set_option maxRecDepth 4000
variable{L:List Bool}{RR:a7C->a7B->Prop}{hi k lo m n p st:Nat}{l:List UInt8}{r:Rp}{v:a7C}{w:a7B}
abbrev P8 (r:Rp):List a7C:=[.int .u32 (r.a:Nat),.int .u32 (r.b:Nat),.int .u32 (r.c:Nat)]
abbrev Uw(r:Rp):a7C:= .agg #[.int .u32 (r.a:Nat),.int .u32 (r.b:Nat),.int .u32 (r.c:Nat)]
theorem aI0 {o:Nat}(hk:k<=2):
 aL pg rC #[Uw r,.int .u32 (o:Nat),.int .i64 (k:Nat)] w (λv w'=>v=Uw (rR r k o)/\aE w w' aP):=by
 obtain⟨a,b,c⟩:=r;refine TO ?_;obtain⟨RR,hRR⟩:∃RR:a7C->a7B->Prop,RR=λv w'=>v=Uw (rR ⟨a,b,c⟩ k o)/\aE w w' aP:=⟨_,rfl⟩;rw[<-hRR];unfold Nv Hb;refine bY λw1 o1 x1 s1=> ?_;have o1:aT w1 w.heap.size (P8 ⟨a,b,c⟩):=o1;obtain⟨p,hp⟩:∃p,p=w.heap.size:=⟨_,rfl⟩;rw[<-hp]at o1⊢;refine iN λw2 o2 x2 s2=> ?_;obtain⟨q,hq⟩:∃q,q=w1.heap.size:=⟨_,rfl⟩;rw[<-hq]at o2⊢;have o12:=o1.ext x2 (λh=>h);have l2:(cK 75 (.pointer (some ⟨p,0,none⟩))).run pg w2= .ok (.value (Uw ⟨a,b,c⟩)) w2:=fG (off:=0) o12 (by simp);simp(disch:=omega)only[SV,l2];refine iN λw3 o3 x3 s3=> ?_;obtain⟨u,hu⟩:∃u,u=w2.heap.size:=⟨_,rfl⟩;rw[<-hu]at o3⊢;refine dC o3 rfl (by simp[one]) (by simp) λw4 o4 x4 s4=> ?_;have o4:aT w4 u (P8 ⟨a,b,c⟩):=o4;have x24:aE w2 w4 aP:=x3.trans x4 λy hy h=>by omega
 have o14:=o12.ext x24 (λh=>h);have oq4:=o2.ext x24 (λh=>h);have e1:((k:Nat):Int)+1=((k+1:Nat):Int):=by omega
 have t1:(1:Int).toNat=1:=rfl;have sh1:lQ ⟨u,0,none⟩ 3 1 1=⟨u,0+1,none⟩:=sI (by omega);have sh0:lQ ⟨p,0,none⟩ 3 0 1=⟨p,0+0,none⟩:=sI (by omega);have k1:k+1-1=k:=rfl;simp(disch:=omega)only[SV,e1,t1,sh1,sh0,k1];have src:Sl (dr w4) (.slice (some ⟨p,0,none⟩) (k-0) (3-0)) ((P8 ⟨a,b,c⟩).take k):=by
  refine⟨_,_,_,rfl,by simp;omega,by omega,λ_=>⟨_,_,rfl,λi hi=> ?_⟩⟩;rw[a1Q,(aH o14).cell,a2L (by omega)]
 have one3:∀x∈(P8 ⟨a,b,c⟩).take k,one x=true:=λx hx=>by
  have:=a6I hx;simp at this;rcases this with rfl|rfl|rfl<;>rfl
 refine aGZ (off:=1) (aH o4) (by simp;omega) src one3 λw5 o5 x5 s5=> ?_;have hxy:aF (P8 ⟨a,b,c⟩) 1 (((P8 ⟨a,b,c⟩).take k).take (min ((P8 ⟨a,b,c⟩).take k).length k))=P8 (rR ⟨a,b,c⟩ k a):=by
  rcases(show k=0∨k=1∨k=2 by omega)with rfl|rfl|rfl<;>rfl
 rw[hxy]at o5;have t0:(0:Int).toNat=0:=rfl
 try simp(disch:=omega)only[SV,t0]
 refine H6 o5 rfl (by simp) λw6 o6 x6 s6=> ?_;have o6:aT w6 u (P8 (rR ⟨a,b,c⟩ k o)):=by
  have e:(P8 (rR ⟨a,b,c⟩ k a)).set 0 (.int .u32 (o:Nat))=P8 (rR ⟨a,b,c⟩ k o):=by
   rcases(show k=0∨k=1∨k=2 by omega)with rfl|rfl|rfl<;>rfl
  rw[<-e];exact o6
 have l6:(cK 75 (.pointer (some ⟨u,0,none⟩))).run pg w6= .ok (.value (Uw (rR ⟨a,b,c⟩ k o))) w6:=fG (off:=0) o6 (by simp);simp(disch:=omega)only[SV,l6];have x46:aE w4 w6 (λz=>z=u):=((aE.dr w4 _).seq x5).seq x6;refine dC (oq4.ext x46 (by omega)) rfl (by simp[one]) (by simp) λw7 o7 x7 s7=> ?_;refine jE o7 (by simp[aF]) ?_;rw[hRR];refine⟨rfl, ?_⟩;have z4:=x24.size;exact(((x1.seq x2).seq x24).trans x46 λz hz h=>by omega).trans x7 λz hz h=>by omega
theorem aUX(a:Nat)(h:a<4294967296):IntKind.u32.wrap ((a:Int)-1)=(((a+4294967295)%4294967296:Nat):Int):=by
 rw[show IntKind.u32.wrap ((a:Int)-1)=((a:Int)-1)%4294967296 from rfl];omega
def agO:Except Int (Nat×Rp)->a7C
 | .error e=> .tuple #[.int .u32 0,Uw ⟨0,0,0⟩,.int .i64 e]
 | .ok (x,r)=> .tuple #[.int .u32 (x:Nat),Uw r,.int .i64 0]
theorem aOE{u:Nat}{w3:a7B}(hRR:RR=λv w'=>v=agO (if xR r k=0 then .error 16 else .ok (xR r k,rR r k (xR r k)))/\aE w w' aP)(hk:k<=3)(hu:w.heap.size<=u)(oP:aT w3 p (P8 r))(o3:aT w3 u (P8 ⟨0,0,0⟩))(x03:aE w w3 aP):
 xN RR (.pointer (some ⟨p,0,none⟩)) (.pointer (some ⟨u,0,none⟩)) (.int .i64 2) (.int .i64 (k:Nat)) (.int .u32 (xR r k:Nat)) w3:=by
 unfold xN;obtain⟨n,hn0⟩:∃n,n=xR r k:=⟨_,rfl⟩;rw[<-hn0]at hRR⊢;cases hn:(((n:Nat):Int)==0)with
 |true=>
  have:n=0:=by simpa using hn
  simp(disch:=omega)only[SV,hn];refine dC o3 rfl (by simp[one]) (by simp) λw4 o4 x4 s4=> ?_;refine jE o4 (by simp[aF]) ?_;rw[hRR,if_pos this];exact⟨rfl,x03.trans x4 λz hz h=>by omega⟩
 |false=>
  have:¬n=0:=by simpa using hn
  have l3:(cK 75 (.pointer (some ⟨p,0,none⟩))).run pg w3= .ok (.value (Uw r)) w3:=fG (off:=0) oP (by simp);have mn:(if(2:Int)<((k:Nat):Int)then(2:Int)else((k:Nat):Int))=((min k 2:Nat):Int):=by split<;>omega
  simp(disch:=omega)only[SV,hn,l3,mn];refine(aI0 (k:=min k 2) (by omega)).mono ?_;rintro v w4 ⟨rfl,x4⟩;refine dC (o3.ext x4 (λh=>h)) rfl (by simp[one]) (by simp) λw5 o5 x5 s5=> ?_;refine jE o5 (by simp[aF]) ?_;rw[hRR,if_neg this];have e:rR r (min k 2) n=rR r k n:=by
   rcases(show k=0∨k=1∨k=2∨k=3 by omega)with rfl|rfl|rfl|rfl<;>rfl
  rw[e];exact⟨rfl,(x03.seq x4).trans x5 λz hz h=>by omega⟩
theorem aOF{lit off:Nat}(hr:agB r)(ho:off<4294967296):
 aL pg Hp #[Uw r,.agg #[.int .u32 (lit:Nat),.int .u32 (m:Nat),.int .u32 (off:Nat)]] w (λv w'=>v=agO (HL r lit off)/\aE w w' aP):=by
 refine agF ?_;obtain⟨RR,hRR⟩:∃RR:a7C->a7B->Prop,RR=λv w'=>v=agO (HL r lit off)/\aE w w' aP:=⟨_,rfl⟩;rw[<-hRR];unfold ZO QC QB;refine bY λw1 o1 x1 s1=> ?_;have o1:aT w1 w.heap.size (P8 r):=o1;obtain⟨p,hp⟩:∃p,p=w.heap.size:=⟨_,rfl⟩;rw[<-hp]at o1⊢;refine bY λw2 o2 x2 s2=> ?_;have o2:aT w2 w1.heap.size (P8 ⟨lit,m,off⟩):=o2;obtain⟨q,hq⟩:∃q,q=w1.heap.size:=⟨_,rfl⟩;rw[<-hq]at o2⊢;refine iN λw3 o3 x3 s3=> ?_;obtain⟨u,hu⟩:∃u,u=w2.heap.size:=⟨_,rfl⟩;rw[<-hu]at o3⊢;have o3:aT w3 u (P8 ⟨0,0,0⟩):=o3;have x03:aE w w3 aP:=(x1.seq x2).seq x3;have oP:=(o1.ext x2 (λh=>h)).ext x3 (λh=>h);have oS:=o2.ext x3 (λh=>h);have c2:=oS.cell (off:=2);have c0:=oS.cell (off:=0);simp only[a1A,a1B]at c2 c0;by_cases hz:off=0
 .subst hz;have d0:(((0:Nat):Int)==0)=true:=rfl;simp(disch:=omega)only[SV,c2,c0,d0];refine dC o3 rfl (by simp[one]) (by simp) λw4 o4 x4 s4=> ?_;refine jE o4 (by simp[aF]) ?_;rw[hRR];exact⟨rfl,x03.trans x4 λz hz h=>by omega⟩
 have d0:(((off:Nat):Int)==0)=false:=beq_eq_false_iff_ne.2 (by omega);by_cases h3:3<off
 .have d1:decide ((3:Int)<((off:Nat):Int))=true:=decide_eq_true (by omega);have l3:(cK 75 (.pointer (some ⟨p,0,none⟩))).run pg (dr w3)= .ok (.value (Uw r)) (dr w3):=fG (off:=0) (aH oP) (by simp);have cd:=(aH oS).cell (off:=2);simp only[a1A,a1B]at cd;have e3:((off:Nat):Int)-3=((off-3:Nat):Int):=by omega
  simp(disch:=omega)only[SV,c2,c0,d0,d1,cd,l3,e3];have fc:∀w,aL pg rC #[Uw r,.int .u32 ((off-3:Nat):Int),.int .i64 2] w (λv w'=>v=Uw (rR r 2 (off-3))/\aE w w' aP):=λw=>aI0 (k:=2) (by omega);refine(fc _).mono ?_;rintro v w4 ⟨rfl,x4⟩;have x4:aE w3 w4 aP:=(aE.dr w3 _).seq x4;have ce:=(oS.ext x4 (λh=>h)).cell (off:=2);simp only[a1A,a1B]at ce
  try simp(disch:=omega)only[SV,ce,e3]
  refine dC (o3.ext x4 (λh=>h)) rfl (by simp[one]) (by simp) λw5 o5 x5 s5=> ?_;refine jE o5 (by simp[aF]) ?_;rw[hRR];unfold HL;rw[if_neg hz,if_pos h3];exact⟨rfl,(x03.seq x4).trans x5 λz hz h=>by omega⟩
 have hRR2:RR=λv w'=>v=agO (if xR r (kR lit off)=0 then .error 16 else .ok (xR r (kR lit off),rR r (kR lit off) (xR r (kR lit off))))/\aE w w' aP:=by
  rw[hRR];unfold HL;rw[if_neg hz,if_neg h3]
 have tail:∀k:Nat,k<=3->k=kR lit off->xO RR (.pointer (some ⟨p,0,none⟩)) (.pointer (some ⟨u,0,none⟩)) (.int .i64 2) (.int .i64 (k:Nat)) w3:=by
  intro k hk hkr;rw[<-hkr]at hRR2;have fin:=aOE hRR2 (by omega) (by omega) oP o3 x03;unfold xO Qz;have t0:(0:Int).toNat=0:=rfl;have ca:=oP.cell (off:=0);simp only[a1A]at ca;have hn:=aUX r.a hr.1;by_cases h2:k<=2
  .have d1:decide (((k:Nat):Int)<=2)=true:=decide_eq_true (by omega);have hv:w3.cell? ⟨p,k,none⟩=some (.int .u32 (xR r k:Nat)):=by
    rcases(show k=0∨k=1∨k=2 by omega)with rfl|rfl|rfl<;>(rw[oP.cell]<;>rfl)
   simp(disch:=omega)only[SV,t0,ca,hn,d1,hv];exact fin
  .have d1:decide (((k:Nat):Int)<=2)=false:=decide_eq_false (by omega);have e:xR r k=(r.a+4294967295)%4294967296:=by
    unfold xR;rw[if_neg (by omega),if_neg (by omega),if_neg (by omega)]
   obtain⟨n,hnn⟩:∃n,n=(r.a+4294967295)%4294967296:=⟨_,rfl⟩;rw[<-hnn]at e hn;rw[e]at fin;simp(disch:=omega)only[SV,t0,ca,hn,d1];exact fin
 have d1:decide ((3:Int)<((off:Nat):Int))=false:=decide_eq_false (by omega);have e1:((off:Nat):Int)-1=((off-1:Nat):Int):=by omega
 have e2:((off-1:Nat):Int)+1=((off:Nat):Int):=by omega
 cases hl:(((lit:Nat):Int)==0)with
 |true=>
  have:lit=0:=by simpa using hl
  simp(disch:=omega)only[SV,c2,c0,d0,d1,e1,e2,hl];exact tail off (by omega) (by unfold kR;rw[if_pos this])
 |false=>
  have:¬lit=0:=by simpa using hl
  simp(disch:=omega)only[SV,c2,c0,d0,d1,e1,e2,hl];exact tail (off-1) (by omega) (by unfold kR;rw[if_neg this])
theorem B5 (o:aT w p (P8 r)):(cK 56 (.pointer (some ⟨p,0,none⟩))).run pg w= .ok (.value (Uw r)) w:=aaE (off:=0) o (by simp)
theorem asZ{t:Nat}{z:Rp}{x e:Int}(ot:aT w t (P8 z))(hR:∀w',aE w w' (λy=>y=t)->RR (.tuple #[.int .u32 x,Uw r,.int .i64 e]) w'):
 bF pg (dL 56 (.pointer (some ⟨t,0,none⟩)) (Uw r)) w λ_u w=>LdR pg 56 (.pointer (some ⟨t,0,none⟩)) w λr1=>RR (.tuple #[.int .u32 x,r1,.int .i64 e]) w:=by
 refine fB ot rfl (by simp[one]) (by simp) λw1 o1 x1 s1=> ?_;refine zO o1 (by simp[aF]) ?_;exact hR _ x1
theorem aRo{t:Nat}(h1:1<=k)(h3:k<=3)(oP:aT w p (P8 r))(oT:aT w t (P8 ⟨0,0,0⟩))(oN:aT w n (P8 ⟨0,0,0⟩))
 (hR:∀w',aE w w' (λy=>y=t)->RR (agO (if xR r k=0 then .error 16 else .ok (xR r k,rR r k (xR r k)))) w'):
 vV RR (.pointer (some ⟨p,0,none⟩)) (.pointer (some ⟨t,0,none⟩)) (.pointer (some ⟨n,0,none⟩)) (.int .u32 (k:Nat)) (.int .u32 (xR r k:Nat)) w:=by
 unfold vV;obtain⟨x,hx⟩:∃x,x=xR r k:=⟨_,rfl⟩;rw[<-hx]at hR⊢;have q0:=(aH oP).cell (off:=0);have q1:=(aH oP).cell (off:=1);have q2:=(aH oP).cell (off:=2);simp only[a1A,a1B]at q0 q1 q2;have ln:=B5 (aH oN);have t0:(0:Int).toNat=0:=rfl;have t1:(1:Int).toNat=1:=rfl;have t2:(2:Int).toNat=2:=rfl;cases hn:(((x:Nat):Int)==0)with
 |true=>
  have h0:x=0:=by simpa using hn
  rw[if_pos h0]at hR;simp(disch:=omega)only[SV,hn,ln];exact asZ (aH oT) λw' x'=>hR w' ((aE.dr w _).seq x')
 |false=>
  have h0:¬x=0:=by simpa using hn
  rw[if_neg h0]at hR;cases hk:(((k:Nat):Int)==1)with
  |true=>
   obtain rfl:k=1:=by have:(k:Int)=1:=by simpa using hk
                      omega
   simp(disch:=omega)only[SV,hn,hk,q0,q2,t0,t2];exact asZ (r:=⟨x,r.a,r.c⟩) (aH oT) λw' x'=>hR w' ((aE.dr w _).seq x')
  |false=>
   have hk1:k≠1:=by have:¬(k:Int)=1:=by simpa using hk
                    omega
   have e:rR r k x=⟨x,r.a,r.b⟩:=by unfold rR;rw[if_neg (by omega),if_neg hk1]
   rw[e]at hR;simp(disch:=omega)only[SV,hn,hk,q0,q1,t0,t1];exact asZ (r:=⟨x,r.a,r.b⟩) (aH oT) λw' x'=>hR w' ((aE.dr w _).seq x')
theorem alM{lit off:Nat}(hr:agB r)(ho:off<4294967296):
 aL pg MG #[Uw r,.agg #[.int .u32 (lit:Nat),.int .u32 (m:Nat),.int .u32 (off:Nat)]] w (λv w'=>v=agO (HL r lit off)/\aE w w' aP):=by
 refine avP ?_;obtain⟨RR,hRR⟩:∃RR:a7C->a7B->Prop,RR=λv w'=>v=agO (HL r lit off)/\aE w w' aP:=⟨_,rfl⟩;rw[<-hRR];unfold avO Yp Yo;refine bY λw1 o1 x1 s1=> ?_;have o1:aT w1 w.heap.size (P8 r):=o1;obtain⟨p,hp⟩:∃p,p=w.heap.size:=⟨_,rfl⟩;rw[<-hp]at o1⊢;refine bY λw2 o2 x2 s2=> ?_;have o2:aT w2 w1.heap.size (P8 ⟨lit,m,off⟩):=o2;obtain⟨q,hq⟩:∃q,q=w1.heap.size:=⟨_,rfl⟩;rw[<-hq]at o2⊢;refine lY λw3 o3 x3 s3=> ?_;obtain⟨t,ht⟩:∃t,t=w2.heap.size:=⟨_,rfl⟩;have o3:aT w3 t (P8 ⟨0,0,0⟩):=by rw[ht];exact o3
 rw[<-ht];refine lY λw4 o4 x4 s4=> ?_;obtain⟨n,hn⟩:∃n,n=w3.heap.size:=⟨_,rfl⟩;have o4:aT w4 n (P8 ⟨0,0,0⟩):=by rw[hn];exact o4
 rw[<-hn];have x04:aE w w4 aP:=((x1.seq x2).seq x3).seq x4;have z04:=x04.size;have x24:=x3.seq x4;have oP:=(o1.ext x2 (λh=>h)).ext x24 (λh=>h);have oS:=o2.ext x24 (λh=>h);have oT:=o3.ext x4 (λh=>h);have ltt:w.heap.size<=t:=by have:=(x1.seq x2).size;omega
 have c2:=oS.cell (off:=2);have c0:=oS.cell (off:=0);have d0:=(aH oS).cell (off:=2);have r0:=oP.cell (off:=0);have r1:=oP.cell (off:=1);have r2:=oP.cell (off:=2);have q0:=(aH oP).cell (off:=0);have q1:=(aH oP).cell (off:=1);have q2:=(aH oP).cell (off:=2);simp only[a1A,a1B]at c2 c0 d0 r0 r1 r2 q0 q1 q2;have ln:=B5 (aH o4);have lr:=B5 (aH oP);have fin:∀{x:Nat} {r':Rp} {e:Int},agO (HL r lit off)= .tuple #[.int .u32 (x:Nat),Uw r',.int .i64 e]->bF pg (dL 56 (.pointer (some ⟨t,0,none⟩)) (Uw r')) (dr w4) λ_u w=>LdR pg 56 (.pointer (some ⟨t,0,none⟩)) w λr1=>RR (.tuple #[.int .u32 (x:Nat),r1,.int .i64 e]) w:=by
  intro x r' e he;refine asZ (aH oT) λw' x'=> ?_;rw[hRR,he];exact⟨rfl,(x04.seq (aE.dr w4 aP)).trans x' λy hy h=>by omega⟩
 have t0:(0:Int).toNat=0:=rfl;have t1:(1:Int).toNat=1:=rfl;have t2:(2:Int).toNat=2:=rfl;by_cases hz:off=0
 .subst hz;have d0:(((0:Nat):Int)==0)=true:=rfl;simp(disch:=omega)only[SV,c2,c0,d0,ln];exact fin (x:=0) (r':=⟨0,0,0⟩) (e:=11) rfl
 have e0:(((off:Nat):Int)==0)=false:=beq_eq_false_iff_ne.2 (by omega);by_cases h3:3<off
 .have d1:decide ((3:Int)<((off:Nat):Int))=true:=decide_eq_true (by omega);have d2:decide (((off:Nat):Int)>(3:Int))=true:=decide_eq_true (by omega);have e3:((off:Nat):Int)-3=((off-3:Nat):Int):=by omega
  have w3:IntKind.u32.wrap ((off-3:Nat):Int)=((off-3:Nat):Int):=aGI (by omega) (by omega);simp(disch:=omega)only[SV,c2,c0,d0,e0,d1,d2,e3,w3,q0,q1,t0,t1];refine fin (x:=off-3) (r':=⟨off-3,r.a,r.b⟩) (e:=0) ?_;unfold HL;rw[if_neg hz,if_pos h3]<;>rfl
 obtain⟨k,hk⟩:∃k,k=kR lit off:=⟨_,rfl⟩;have hk3:k<=3:=by rw[hk];unfold kR;split<;>omega
 have ho:HL r lit off=if xR r k=0 then .error 16 else .ok (xR r k,rR r k (xR r k)):=by unfold HL;rw[if_neg hz,if_neg h3,<-hk]
 have main:Cr RR (.pointer (some ⟨p,0,none⟩)) (.pointer (some ⟨t,0,none⟩)) (.pointer (some ⟨n,0,none⟩)) (.int .u32 (k:Nat)) w4:=by
  unfold Cr Yn;have bad:xR r k=0->agO (HL r lit off)= .tuple #[.int .u32 ((0:Nat):Int),Uw ⟨0,0,0⟩,.int .i64 16]:=λh=>by rw[ho,if_pos h]<;>rfl
  have good:xR r k≠0->agO (HL r lit off)= .tuple #[.int .u32 (xR r k:Nat),Uw (rR r k (xR r k)),.int .i64 0]:=λh=>by rw[ho,if_neg h]<;>rfl
  have p1:1<=k->vV RR (.pointer (some ⟨p,0,none⟩)) (.pointer (some ⟨t,0,none⟩)) (.pointer (some ⟨n,0,none⟩)) (.int .u32 (k:Nat)) (.int .u32 (xR r k:Nat)) w4:=λh1=>
   aRo h1 hk3 oP oT o4 λw' x=>by rw[hRR,ho];exact⟨rfl,x04.trans x λy hy h=>by omega⟩
  rcases(show k=0∨k=1∨k=2∨k=3 by omega)with e|e|e|e
  .rw [e]at bad good⊢;have hx:xR r 0=r.a:=rfl;rw[hx]at bad good;have f0:(((0:Nat):Int)==0)=true:=rfl;cases hn:(((r.a:Nat):Int)==0)with
   |true=>
    have h0:r.a=0:=by simpa using hn
    simp(disch:=omega)only[SV,f0,r0,t0,hn,ln];exact fin (bad h0)
   |false=>
    have h0:¬r.a=0:=by simpa using hn
    simp(disch:=omega)only[SV,f0,r0,q0,t0,hn,lr];exact fin (good h0)
  .rw [e]at p1⊢;have f0:(((1:Nat):Int)==0)=false:=rfl;have f1:decide (((1:Nat):Int)<3)=true:=rfl;have t3:((1:Nat):Int).toNat=1:=rfl;simp(disch:=omega)only[SV,f0,f1,t0,t3,r0,r1];exact p1 (by omega)
  .rw [e]at p1⊢;have f0:(((2:Nat):Int)==0)=false:=rfl;have f1:decide (((2:Nat):Int)<3)=true:=rfl;have t3:((2:Nat):Int).toNat=2:=rfl;simp(disch:=omega)only[SV,f0,f1,t0,t3,r0,r2];exact p1 (by omega)
  .rw [e]at p1⊢;have f0:(((3:Nat):Int)==0)=false:=rfl;have f1:decide (((3:Nat):Int)<3)=false:=rfl;have wd:IntKind.u32.wrap ((r.a:Int)-1)=((xR r 3:Nat):Int):=by unfold xR;rw[if_neg (by decide),if_neg (by decide),if_neg (by decide)];exact aUX _ hr.1
   generalize xR r 3=x3 at wd p1;simp(disch:=omega)only[SV,f0,f1,t0,r0,wd];exact p1 (by omega)
 have d1:decide ((3:Int)<((off:Nat):Int))=false:=decide_eq_false (by omega);have d2:decide (((off:Nat):Int)>(3:Int))=false:=decide_eq_false (by omega);have e1:((off:Nat):Int)-1=((off-1:Nat):Int):=by omega
 have w1:IntKind.u32.wrap ((off-1:Nat):Int)=((off-1:Nat):Int):=aGI (by omega) (by omega);by_cases hl:lit=0
 .have e2:((off-1:Nat):Int)+1=((k:Nat):Int):=by rw[hk];unfold kR;rw[if_pos hl];omega
  have w2:IntKind.u32.wrap ((k:Nat):Int)=((k:Nat):Int):=aGI (by omega) (by omega);have f:(((lit:Nat):Int)==0)=true:=by rw[hl]<;>rfl
  simp(disch:=omega)only[SV,c2,c0,d0,e0,d1,d2,e1,w1,f,e2,w2];exact main
 .have e2:off-1=k:=by rw[hk];unfold kR;rw[if_neg hl]
  have f:(((lit:Nat):Int)==0)=false:=beq_eq_false_iff_ne.2 (by omega);rw[e2]at e1 w1;simp(disch:=omega)only[SV,c2,c0,d0,e0,d1,d2,e1,w1,f];exact main
theorem aSe(h:Bs w v l)(hn:n<=64)(hat:st+n<=8*l.length)(hl:l.length<=1000000000):
 aL pg Zb #[v,.int .i64 st,.int .i64 n] w (λr w'=>r= .int .u64 (tX (((aG l).drop st).take n))/\w'=w):=by
 refine aC4 ?_;unfold aFQ aqL aqK Vr Vq aqJ LY;refine aN.rule (λm (t:a7C×a7C) w'=>∃i:Nat,m=n-i/\t=(.int .u64 (tX (((aG l).drop st).take i):Nat),.int .i64 i)/\i<=n/\w'=w) n ⟨0,rfl,by simp[tX],by omega,rfl⟩ ?_;rintro m t w1 ⟨i,rfl,rfl,hi,rfl⟩;unfold aqI;by_cases hlt:i<n
 .have d1:decide ((i:Int)<(n:Int))=true:=by simp;omega
  obtain⟨b,off,c,rfl,hc,hcell⟩:=h.openV (by simp;omega);obtain⟨q,hq⟩:∃q,q=st+i:=⟨_,rfl⟩;have e0:(st:Int)+(i:Int)=(q:Int):=by omega
  have e1:(q:Int).tdiv 8=((q/8:Nat):Int):=by rw[a1R (by omega)];omega
  have e2:(q:Int).tmod 8=((q%8:Nat):Int):=by rw[a2B (by omega)];omega
  have hq8:q/8<l.length:=by omega
  have hb:(aG l)[st+i]?=some ((l[q/8]'hq8).toNat.testBit (q%8)):=by subst hq;exact afL l _ (by omega)
  have ht:=aFy hb;have g1:=hcell (q/8) (by simpa using hq8);simp only[a3R,kH]at g1;have hx:(l[q/8]'hq8).toNat<256:=a2D _;generalize(l[q/8]'hq8).toNat=x at*;have e3:(x:Int).fdiv (2^(min (q%8) IntKind.u8.bits))=((x/2^(q%8):Nat):Int):=by
   rw[show min (q%8) IntKind.u8.bits=q%8 from a2T (by have:IntKind.u8.bits=8:=rfl
                                                      omega),a3A _ (Int.pow_nonneg (by omega))]
   simp
  have hy:x/2^(q%8)<2^8:=by have:=a3Q x (2^(q%8));omega
  have e4:=aS1 hy;rw[<-aPm]at e4;have hbt:(x.testBit (q%8)).toNat<=1:=Bool.toNat_le _;have hlen:(((aG l).drop st).take i).length=i:=by rw[a1N,a1L,cJ];omega
  have hnb:=asX (((aG l).drop st).take i);have hsn:=aOD (((aG l).drop st).take i) (x.testBit (q%8));rw[<-ht,hlen]at hsn;rw[hlen]at hnb;have hp:2^i<2^64:=a6Z (by omega) (by omega);have hp2:2^i<=2^63:=a1K (by omega) (by omega);generalize(x.testBit (q%8)).toNat=bt at*;have hm:bt*2^i<=2^i:=by
   have:=a2V (2^i) hbt;omega
  have e5:IntKind.u64.wrap ((bt:Int)*2^(min i IntKind.u64.bits))=((bt*2^i:Nat):Int):=by
   rw[show min i IntKind.u64.bits=i from a2T (by have:IntKind.u64.bits=64:=rfl
                                                 omega)]
   have e:(bt:Int)*2^i=((bt*2^i:Nat):Int):=by simp
   rw[e];exact eL (by omega) (by omega)
  have e6:=aNF (a:=tX (((aG l).drop st).take i)) (b:=bt*2^i) (by omega) (by omega);rw[aHz hnb,<-hsn]at e6;simp(disch:=omega)only[SV,d1,e0,e1,g1,e2,e3,e4,e5,e6,a1M];exact⟨n-(i+1),by omega,i+1,rfl,rfl,by omega⟩
 .have d1:decide ((i:Int)<(n:Int))=false:=by simp;omega
  obtain rfl:i=n:=by omega
  unfold Vp;simp(disch:=omega)only[SV,d1]
def Fwd(w:a7B)(lo hi:Nat)(l:List UInt8)(st:Nat):Prop:=∃v,aT w hi [v,.int .i64 st]/\Bs w v l/\AtI v lo hi
theorem Fwd.ext {w':a7B}{M:Nat->Prop}(h:Fwd w lo hi l st)(hx:aE w w' M)(hM:∀b,lo<=b->b<=hi->¬M b)(hlh:lo<=hi):Fwd w' lo hi l st:=by
 obtain⟨v,h1,h2,h3⟩:=h;exact⟨v,h1.ext hx (hM _ hlh (a1J _)),h2.ext hx (h3 M λb hb hh=>hM b hb (by omega)),h3⟩
theorem aHt(h:Bs w v l)(hl:l.length<=1000000000):
 aL pg DK #[v] w (λr w'=>∃hi,r= .pointer (some ⟨hi,0,none⟩)/\w.heap.size<=hi/\hi<w'.heap.size/\Fwd w' w.heap.size hi l 0/\aE w w' aP):=by
 refine Zy ?_;unfold Wy M8;refine(LZ h hl).mono ?_;rintro r w1 ⟨o1,x1⟩;have hat:=mH.atI o1;have hs:=o1.sl;obtain⟨a,c,rfl⟩:=o1.len;simp(disch:=omega)only[SV];refine bY λw2 o2 x2 s2=> ?_;simp only[Value.cells]at o2;exact⟨_,rfl,x1.size,by omega,⟨_,o2,hs.ext x2 (aR _),hat⟩,x1.seq x2⟩
theorem afO(h:Fwd w lo hi l st)(hlh:lo<=hi)(hn:n<=32)(hst:st<=8*l.length)(hl:l.length<=1000000):
 aL pg A5 #[.pointer (some ⟨hi,0,none⟩),.int .i64 n] w (λr w'=>
  (8*l.length<st+n/\r= .tuple #[.int .u64 0,.int .i64 10]/\Fwd w' lo hi l st/\aE w w' aP)∨
  (st+n<=8*l.length/\r= .tuple #[.int .u64 (tX (((aG l).drop st).take n)),.int .i64 0]/\Fwd w' lo hi l (st+n)/\aE w w' (λy=>y=hi))):=by
 refine Vn ?_;obtain⟨v,o,hs,hat⟩:=h;unfold Qk Ja;have d1:decide ((n:Int)<0)=false:=by simp
 have d2:decide ((32:Int)<(n:Int))=false:=by simp;omega
 have c0:=o.cell (off:=0);have c1:=o.cell (off:=1);simp only[a1A,a1B]at c0 c1;obtain⟨a,n',c,hv,hn',hc,hh⟩:=id hs;rw[a1M]at hn';subst hn';by_cases hsh:8*l.length<st+n
 .have d3:decide (8*(l.length:Int)-(st:Int)<(n:Int))=true:=by simp;omega
  subst hv;have od:=aH o;have c0d:=od.cell (off:=0);have c1d:=od.cell (off:=1);simp only[a1A,a1B]at c0d c1d;simp(disch:=omega)only[SV,d1,d2,c0,c1,d3,c0d,c1d];exact .inl ⟨hsh,⟨_,aH o,hs.ext (aE.dr _ aP) (aR _),hat⟩,aE.dr _ _⟩
 .have d3:decide (8*(l.length:Int)-(st:Int)<(n:Int))=false:=by simp;omega
  subst hv;have c0e:=(aH o).cell (off:=0);have c1e:=(aH o).cell (off:=1);have od:=aH (aH o);have c0d:=od.cell (off:=0);have c1d:=od.cell (off:=1);simp only[a1A,a1B]at c0d c1d c0e c1e;simp(disch:=omega)only[SV,d1,d2,c0,c1,d3,c0d,c1d,c0e,c1e];refine(aSe (l:=l) (st:=st) (n:=n) ((hs.ext (aE.dr _ aP) (aR _)).ext (aE.dr _ aP) (aR _)) (by omega) (by omega) (by omega)).mono ?_;rintro r w1 ⟨rfl,rfl⟩;simp(disch:=omega)only[SV,c1d];refine eZ od rfl (by simp) λw2 o2 x2 s2=> ?_;simp only[a1E,a1D]at o2;have e1:(st:Int)+(n:Int)=((st+n:Nat):Int):=by omega
  rw[e1]at o2;have x02:aE w w2 (λy=>y=hi):=((aE.dr _ _).seq (aE.dr _ _)).seq x2;exact .inr ⟨by omega,⟨_,o2,hs.ext x02 (hat _ λb hb hh=>by omega),hat⟩,x02⟩
theorem aOp(h:Fwd w lo hi l st)(hst:st<=1000000000):
 aL pg A6 #[.pointer (some ⟨hi,0,none⟩)] w (λr w'=>r= .int .i64 (((st+7)/8:Nat))/\w'=w):=by
 refine Vo ?_;obtain⟨v,o,hs,hat⟩:=h;have c1:=o.cell (off:=1);simp only[a1A,a1B]at c1;have e1:((st:Int)+7).tdiv 8=(((st+7)/8:Nat):Int):=by rw[a1R (by omega)];omega
 unfold Ql Jb;simp(disch:=omega)only[SV,c1,e1]
theorem AtI.sub {a:Option Addr}{c c' sz:Nat}(h:AtI (.slice a n c) lo hi)(hm:m<=n):AtI (.slice (dI a c k sz) m c') lo hi:=by
 intro M hM hin;cases m with
 |zero=>unfold VH at hin;split at hin<;>simp_all
 |succ m=>
  obtain⟨n',rfl⟩:∃n',n=n'+1:=⟨n-1,by omega⟩;have h1:=h M hM;cases a with
  |none=>unfold dI at hin;split at hin<;>exact hin
  |some x=>
   unfold dI at hin;have h2:M x.block:=by
    split at hin
    .exact hin
    .rw [a2Q]at hin;have e:(x.add (k*sz)).block=x.block:=by unfold Addr.add;split<;>rfl
     have h3:M (x.add (k*sz)).block:=hin
     rwa [e]at h3
   exact h1 h2
abbrev Bl(w:a7B)(v:a7C)(L:List Bool):Prop:=Sl w v (L.map Value.bool)
theorem aQp(h:Bl w v L)(h0:0<L.length):∃b off c,v= .slice (some ⟨b,off,none⟩) L.length c/\L.length<=c/\∀i,(h:i<L.length)->w.cell? ⟨b,off+i,none⟩=some (.bool L[i]):=by
 obtain⟨b,off,c,rfl,hc,hcell⟩:=h.openV (by simpa using h0);refine⟨b,off,c,by rw[a1M],by simpa using hc,λi hi=> ?_⟩;have:=hcell i (by simpa using hi);simpa using this
theorem Dh(h:Bl w v L):∃a c,v= .slice a L.length c/\L.length<=c:=by
 obtain⟨a,n,c,rfl,hn,hc,_⟩:=h;rw[a1M]at hn;subst hn;exact⟨a,c,rfl,hc⟩
theorem aQo(c:UInt8):aFN c=aC3 c.toNat 8:=rfl
theorem aEF{x:ByteArray}(hl:x.size<=1000000):
 aL pg U4 #[.string x] w (λr w'=>mH w' w.heap.size 1 r (8*x.size) ((aG (aM x)).map Value.bool)/\aE w w' aP):=by
 refine aBV ?_;have hll:=aI x;unfold aEi abI abH OF OE abG FJ;refine aN.rule (λm (t:a7C×a7C) w'=>∃(i:Nat) (v:a7C),m=x.size-i/\t=(v,.int .i64 i)/\i<=x.size/\mH w' w.heap.size 1 v (8*i) ((aG ((aM x).take i)).map Value.bool)/\aE w w' (λy=>w.heap.size<=y)) x.size
  ⟨0,_,rfl,rfl,by omega,mH.nil _ _ _,aE.refl _ _⟩ ?_
 rintro m t w1 ⟨i,v,rfl,rfl,hi,o1,x1⟩;unfold abF abE;by_cases hlt:i<x.size
 .have d1:decide ((i:Int)<(x.size:Int))=true:=by simp;omega
  obtain⟨c,hc⟩:∃c,c=(aM x)[i]'(by omega):=⟨_,rfl⟩;have hg:(x[i]'hlt).toNat=c.toNat:=by rw[hc,Fq]
  have htk:aG ((aM x).take (i+1))=aG ((aM x).take i)++aC3 c.toNat 8:=by
   rw[a3F,a1I (by omega),aqH,<-hc,Option.toList,aG,aG,a4M,aQo]
  have hcl:c.toNat<256:=a2D c;generalize c.toNat=y at*;unfold Sr Sp ajO;simp(disch:=omega)only[SV,d1,hg];unfold IF;refine aN.rule (λm (t:a7C×a7C×a7C) w'=>∃(k:Nat) (v:a7C),m=8-k/\t=(v,.int .u8 (y/2^k:Nat),.int .i64 k)/\k<=8/\mH w' w.heap.size 1 v (8*i+k) ((aG ((aM x).take i)++aC3 y k).map Value.bool)/\aE w w' (λy=>w.heap.size<=y)) 8
   ⟨0,v,rfl,by simp,by omega,by simpa[aKW]using o1,x1⟩ ?_
  rintro m t w2 ⟨k,v2,rfl,rfl,hk,o2,x2⟩;unfold ajN;by_cases hk8:k<8
  .have d2:decide ((k:Int)<8)=true:=by simp;omega
   obtain⟨z,hz⟩:∃z,z=y/2^k:=⟨_,rfl⟩;have hz2:y/2^(k+1)=z/2:=by rw[hz,a2O,a5I]
   have hzl:z<256:=by have:=a3Q y (2^k);omega
   have e1:(z:Int).tmod 2=((z%2:Nat):Int):=by rw[a2B (by omega)];omega
   have e2:(z:Int).tdiv 2=((z/2:Nat):Int):=by rw[a1R (by omega)];omega
   have hbit:y.testBit k=decide (z%2=1):=by rw[a5T,hz]
   have e3:(((z%2:Nat):Int)==1)=y.testBit k:=by
    rw[hbit];have:z%2=0∨z%2=1:=by omega
    rcases this with h|h<;>simp[h]
   have hbs:=aKV y k;generalize y.testBit k=bt at*;rw[<-hz];simp(disch:=omega)only[SV,d2,e1,e2,e3];refine aKY (cells:= #[.bool bt]) (by decide) (by decide) (by kernel_rfl) λw3 o3 x3 s3=> ?_;refine amF (o2.ext x3 (λ_ _ h=>h)) (o3.cl (off:=0) (l:=[.bool bt]) (n:=1) rfl (λi hi=>by rw[a1Q])) (by simp[one]) (a3K x2.size x3.size) (by omega) λv4 w4 o4 x4=> ?_;refine⟨8-(k+1),by omega,k+1,v4,rfl, ?_,by omega, ?_, ?_⟩
   .rw [hz2]<;>rfl
   .rw [hbs,<-a2R,a2I];exact o4
   .exact (x2.seq (x3.mono λ_ _ h=>h.elim)).seq x4
  .have d2:decide ((k:Int)<8)=false:=by simp;omega
   obtain rfl:k=8:=by omega
   rw[<-htk]at o2;unfold So;simp(disch:=omega)only[SV,d2];exact⟨x.size-(i+1),by omega,i+1,_,rfl,rfl,by omega,o2,x2⟩
 .have d1:decide ((i:Int)<(x.size:Int))=false:=by simp;omega
  obtain rfl:i=x.size:=by omega
  rw[a1T (by omega)]at o1;unfold Sn;simp(disch:=omega)only[SV,d1];exact⟨o1,x1.mono λb hb h=>Nat.not_le_of_lt hb h⟩
theorem aBi(h:Bl w v L)(hl:L.length<=60):
 aL pg Mz #[v] w (λr w'=>r= .int .u64 (tX L:Nat)/\w'=w):=by
 refine atW ?_;obtain⟨a,c,hv,hc⟩:=Dh h;subst hv;unfold atV Ul Uk Kr Kq Xx;simp(disch:=omega)only[SV];unfold Ca;refine aN.rule (λm (t:a7C×a7C) w'=>t=(.int .u64 (tX (L.drop m):Nat),.int .i64 ((m:Int)-1))/\m<=L.length/\w'=w) L.length
  ⟨by rw[a6H]<;>rfl,by omega,rfl⟩ ?_
 rintro m t w1 ⟨rfl,hm,rfl⟩;unfold Xw Xv;cases m with
 |zero=>
  have d1:decide ((0:Int)<=((0:Nat):Int)-1)=false:=rfl;unfold Kp;simp(disch:=omega)only[SV,d1];simp
 |succ j=>
  have e0:((j+1:Nat):Int)-1=(j:Int):=by omega
  have d1:decide ((0:Int)<=(j:Int))=true:=by simp
  obtain⟨b,off,c',e,_,hcell⟩:=aQp h (by omega);cases e;have g:=hcell j (by omega);have hd:L.drop j=L[j]::L.drop (j+1):=a2J (by omega);have hlt:=asX (L.drop j);rw[a1L]at hlt;have hp:2^(L.length-j)<=2^60:=a1K (by omega) (by omega);generalize L[j]=bt at*;have hn:tX (L.drop j)=bt.toNat+2*tX (L.drop (j+1)):=by rw[hd,tX]
  generalize tX (L.drop (j+1))=x at*;cases bt with
  |true=>
   have hn:tX (L.drop j)=1+2*x:=hn;rw[e0];simp(disch:=omega)only[SV,d1,g];unfold B9;simp(disch:=omega)only[SV];exact⟨j,by omega,by rw[hn];simp;omega,by omega⟩
  |false=>
   have hn:tX (L.drop j)=2*x:=by rw[hn];simp
   rw[e0];simp(disch:=omega)only[SV,d1,g];unfold B9;simp(disch:=omega)only[SV];exact⟨j,by omega,by rw[hn];simp;omega,by omega⟩
end Go.Proofs.YthohephggmkeeaaGreatDoor
namespace Go.Pu
def cG:List UInt8->Nat
 |[]=>0
 |c::l=>c.toNat+256*cG l
theorem AE:∀l:List UInt8,cG l<256^l.length
 |[]=>by simp[cG]
 |c::l=>by
  have:=AE l;have hc:=c.toNat_lt;rw[cG,a1U,a2O];omega
theorem ayW(c:UInt8):∀l:List UInt8,cG (l++[c])=cG l+256^l.length*c.toNat
 |[]=>by simp[cG]
 |d::l=>by
  rw[a4P,cG,ayW c l,cG,a1U,a2O,a6Q,a4E,a2N (256^l.length) 256,a6J]
theorem aRA(i:Nat):256^i=2^(8*i):=by rw[Nat.pow_mul]
theorem aTx(l:List UInt8)(c:UInt8):cG l|||(c.toNat*2^(8*l.length))=cG (l++[c]):=by
 have:=AE l;rw[aRA]at this;rw[aHz this,ayW,aRA]
def aOB(f:Nat):List UInt8->Except Int (Nat×List UInt8)
 |[]=> .error 10
 |x::r=> .ok ((f-128)*256+x.toNat,r)
def aOC:List UInt8->Except Int (Nat×List UInt8)
 |x::y::r=> .ok (x.toNat+256*y.toNat+32512,r)
 |_=> .error 10
def ayX:List UInt8->Except Int (Nat×List UInt8)
 |[]=> .error 10
 |f::r=>if f.toNat<128 then .ok (f.toNat,r)else if f.toNat<255 then aOB f.toNat r else aOC r
end Go.Pu
namespace Go.Proofs.YthohephggmkeeaaGreatDoor
open Go Go.En Go.Pu
set_option maxRecDepth 4000
variable{L d dict hi lo n p ph pr pt x:Nat}{RR:a7C->a7B->Prop}{S:Nat->Prop}{e:Int}{l:List UInt8}{o:Bool}{s:List UInt8×Int}{v:a7C}{w:a7B}
def AtS(v:a7C)(S:Nat->Prop):Prop:=∀M:Nat->Prop,(∀b,S b->¬M b)->¬VH v M
theorem AtI.toS (h:AtI v lo hi)(hS:∀b,lo<=b->b<hi->S b):AtS v S:=λM hM=>h M λb h1 h2=>hM b (hS b h1 h2)
theorem AtS.mono {T:Nat->Prop}(h:AtS v S)(hT:∀b,S b->T b):AtS v T:=λM hM=>h M λb hb=>hM b (hT b hb)
theorem AtS.toI (h:AtS v S)(hS:∀b,S b->lo<=b/\b<hi):AtI v lo hi:=λM hM=>h M λb hb=>hM b (hS b hb).1 (hS b hb).2
theorem AtS.nil (S:Nat->Prop):AtS (.slice none 0 0) S:=λM _ h=>h
theorem AtS.sub {a:Option Addr}{c m c' k mx sz:Nat}(h:AtS (.slice a n c) S)(hm:m<=n):AtS (.slice (dI a mx k sz) m c') S:=by
 intro M hM hin;cases m with
 |zero=>unfold VH at hin;split at hin<;>simp_all
 |succ m=>
  obtain⟨n',rfl⟩:∃n',n=n'+1:=⟨n-1,by omega⟩;have h1:=h M hM;cases a with
  |none=>unfold dI at hin;split at hin<;>exact hin
  |some x=>
   unfold dI at hin;have h2:M x.block:=by
    split at hin
    .exact hin
    .rw [a2Q]at hin;have e:(x.add (k*sz)).block=x.block:=by unfold Addr.add;split<;>rfl
     have h3:M (x.add (k*sz)).block:=hin
     rwa [e]at h3
   exact h1 h2
theorem aXZ{a:Option Addr}{c:Nat}{l:List a7C}(h:Sl w (.slice a n c) l){k:Nat}(hk:k<=n):Sl w (.slice (dI a k 0 1) (k-0) (k-0)) (l.take k):=by
 obtain⟨a',n',c',e,hn,hc,h⟩:=h;cases e;refine⟨_,_,_,rfl,by rw[a1N];omega,a1J _,λh0=> ?_⟩;obtain⟨b,off,rfl,h2⟩:=h (by omega);have hs:dI (some ⟨b,off,none⟩) k 0 1=some ⟨b,off+0*1,none⟩:=by unfold dI;rw[if_neg (by omega)]<;>rfl
 refine⟨b,off,by rw[hs];simp,λi hi=> ?_⟩;rw[a2L (by omega)];exact h2 i (by omega)
def Is(w:a7B)(lo hi p:Nat)(l:List UInt8)(e:Int):Prop:=lo<=p/\p<hi/\∃v,aT w p [v,.int .i64 e]/\Bs w v l/\AtS v (λb=>lo<=b/\b<hi/\b≠p)
theorem Is.ext {w':a7B}{M:Nat->Prop}(h:Is w lo hi p l e)(x:aE w w' M)(hM:∀b,lo<=b->b<hi->¬M b):Is w' lo hi p l e:=by
 obtain⟨h0,h0',v,h1,h2,h3⟩:=h;exact⟨h0,h0',v,h1.ext x (hM _ h0 h0'),h2.ext x (h3 M λb hb=>hM b hb.1 hb.2.1),h3⟩
theorem Is.lt (h:Is w lo hi p l e):p<w.heap.size:=by
 obtain⟨_,_,v,h1,_⟩:=h;exact h1.lt
theorem Is.up {hi':Nat}(h:Is w lo hi p l e)(hh:hi<=hi'):Is w lo hi' p l e:=by
 obtain⟨h0,h0',v,h1,h2,h3⟩:=h;exact⟨h0,by omega,v,h1,h2,h3.mono λb hb=>⟨hb.1,by omega,hb.2.2⟩⟩
theorem rN(h:Bs w v l)(hl:l.length<=1000000000):
 aL pg CF #[v] w (λr w'=>∃p,r= .pointer (some ⟨p,0,none⟩)/\Is w' w.heap.size w'.heap.size p l 0/\aE w w' aP):=by
 refine YL ?_;unfold Tz Lz;refine(LZ h hl).mono ?_;rintro r w1 ⟨ho,x1⟩;have hat:=mH.atI ho;have hs:=ho.sl;obtain⟨va,vc,rfl⟩:=ho.len;simp(disch:=omega)only[SV];refine bY λw2 o2 x2 s2=> ?_;have o2:aT w2 w1.heap.size [.slice va l.length vc,.int .i64 0]:=o2;have hz:=o2.lt;exact⟨w1.heap.size,rfl,⟨x1.size,hz,_,o2,hs.ext x2 (aR _),hat.toS λb h1 h2=>⟨h1,by omega,by omega⟩⟩,x1.seq x2⟩
def gH(l:List UInt8)(e:Int)(n:Nat):List UInt8×List UInt8×Int:=if e≠0 then([],l,e)else if l.length<n then([],l,10)else(l.take n,l.drop n,0)
theorem aIM(h:Is w lo hi p l e)(hl:l.length<=1000000000)(hn:n<=1000000000):
 aL pg yP #[.pointer (some ⟨p,0,none⟩),.int .i64 n,.bool true] w (λr w'=>Bs w' r (gH l e n).1/\AtS r (λb=>lo<=b/\b<hi/\b≠p)/\Is w' lo hi p (gH l e n).2.1 (gH l e n).2.2/\aE w w' (λy=>y=p)):=by
 refine TB ?_;unfold Np G4;have h':=h;obtain⟨h0,h0',v,o,hb,hat⟩:=h';obtain⟨va,vc,rfl,hvc⟩:=hb.len;rw[a1M]at hb hat o hvc;have c0:=o.cell (off:=0);have c1:=o.cell (off:=1);simp only[a1A,a1B]at c0 c1;by_cases he:e=0;rotate_left
 .have n1:(e !=0)=true:=by simpa using he
  have ht:gH l e n=([],l,e):=by unfold gH;rw[if_pos he]
  rw[ht];simp(disch:=omega)only[SV,c1,n1];exact⟨Sl.nil _,AtS.nil _,h,aE.refl _ _⟩
 subst he;have n1:((0:Int) !=0)=false:=rfl;by_cases hsh:l.length<n
 .have d1:decide ((l.length:Int)<(n:Int))=true:=by simp;omega
  have ht:gH l 0 n=([],l,10):=by unfold gH;rw[if_neg (by decide),if_pos hsh]
  rw[ht];simp(disch:=omega)only[SV,c1,n1,c0,d1];refine awM o rfl (by simp) λw1 o1 x1 s1=> ?_;simp only[a1E,a1D]at o1;exact⟨Sl.nil _,AtS.nil _,⟨h0,h0',_,o1,hb.ext x1 (hat _ λb hb=>hb.2.2),hat⟩,x1⟩
 .have d1:decide ((l.length:Int)<(n:Int))=false:=by simp;omega
  have ht:gH l 0 n=(l.take n,l.drop n,0):=by unfold gH;rw[if_neg (by decide),if_neg hsh]
  rw[ht];simp(disch:=omega)only[SV,c1,n1,c0,d1];refine JH o rfl (by simp[one]) λw1 o1 x1 s1=> ?_;simp only[a1E,a1D]at o1;have hbn:Bs w (.slice (dI va n 0 1) (n-0) (n-0)) (l.take n):=by
   have:=aXZ hb (k:=n) (by omega)
   rwa [<-a4R]at this
  have hbd:Bs w (.slice (dI va vc n 1) (l.length-n) (vc-n)) (l.drop n):=by
   have:=hb.drop' (k:=n) (by omega)
   rwa [<-a3M]at this
  have hn1:=hat.sub (mx:=n) (k:=0) (sz:=1) (m:=n-0) (c':=n-0) (by omega);have hn2:=hat.sub (mx:=vc) (k:=n) (sz:=1) (m:=l.length-n) (c':=vc-n) (by omega);exact⟨hbn.ext x1 (hn1 _ λb hb=>hb.2.2),hn1,⟨h0,h0',_,o1,hbd.ext x1 (hn2 _ λb hb=>hb.2.2),hn2⟩,x1⟩
theorem EJ(h:Is w lo hi p l e):
 aL pg yO #[.pointer (some ⟨p,0,none⟩)] w (λr w'=>r= .int .i64 l.length/\w'=w):=by
 refine TA ?_;unfold Nm G3;obtain⟨h0,h0',v,o,hb,hat⟩:=h;obtain⟨va,vc,rfl,hvc⟩:=hb.len;rw[a1M]at hb hat o hvc;have c0:=o.cell (off:=0);simp only[a1A,a1B]at c0;simp(disch:=omega)only[SV,c0]
theorem qD(h:Is w lo hi p l e):
 aL pg A7 #[.pointer (some ⟨p,0,none⟩)] w (λr w'=>r= .int .i64 e/\w'=w):=by
 refine Vw ?_;unfold Qw Ji;obtain⟨h0,h0',v,o,hb,hat⟩:=h;have c1:=o.cell (off:=1);simp only[a1A,a1B]at c1;simp(disch:=omega)only[SV,c1]
theorem Mn(h:Is w lo hi p l e)(hl:l.length<=1000000000)(hn:n<=1000000000):
 aL pg wI #[.pointer (some ⟨p,0,none⟩),.int .i64 n] w (λr w'=>Bs w' r (gH l e n).1/\AtS r (λb=>lo<=b/\b<hi/\b≠p)/\Is w' lo hi p (gH l e n).2.1 (gH l e n).2.2/\aE w w' (λy=>y=p)):=by
 refine RX ?_;unfold LA EK;have d1:decide ((0:Int)<=(n:Int))=true:=by simp
 simp(disch:=omega)only[SV,d1];refine(aIM h hl hn).mono ?_;rintro r w1 hr;exact hr
theorem jV(h:Is w lo hi p l e)(hl:l.length<=1000000000)(hn:1<=n/\n<=8):
 aL pg nZ #[.pointer (some ⟨p,0,none⟩),.int .i64 n] w (λr w'=>r= .int .u64 (cG (gH l e n).1:Nat)/\Is w' lo hi p (gH l e n).2.1 (gH l e n).2.2/\aE w w' (λy=>y=p)):=by
 refine Qa ?_;unfold Jj Dv Du tG tF Dt;have d1:decide ((1:Int)<=(n:Int))=true:=by simp;omega
 have d2:decide ((n:Int)<=8)=true:=by simp;omega
 simp(disch:=omega)only[SV,d1,d2];refine(aIM h hl (by omega)).mono ?_;rintro r w1 ⟨hb,hat,hr,x1⟩;obtain⟨t,ht⟩:∃t,t=(gH l e n).1:=⟨_,rfl⟩;have htl:t.length<=8:=by
  rw[ht];unfold gH;split
  .simp
  .split
   .simp
   .simp;omega
 rw[<-ht]at hb⊢;obtain⟨va,vc,rfl,hvc⟩:=hb.len;rw[a1M]at hb hvc hat;simp(disch:=omega)only[SV,a1M];unfold nE;refine aN.rule (λm s w'=>∃i:Nat,m=t.length-i/\i<=t.length/\s=(.int .u64 (cG (t.take i):Nat),.int .i64 i)/\w'=w1) t.length ⟨0,rfl,by omega,rfl,rfl⟩ ?_;rintro m s w2 ⟨i,rfl,hi,rfl,hw⟩;rw[hw];clear hw w2;unfold Ds;by_cases hlt:i<t.length
 .have d3:decide ((i:Int)<(t.length:Int))=true:=by simp;omega
  obtain⟨c,hc⟩:∃c,c=t[i]'hlt:=⟨_,rfl⟩;have htk:t.take (i+1)=t.take i++[c]:=by rw[a3F,a1I hlt,<-hc]<;>rfl
  have hor:=aTx (t.take i) c;rw[<-htk,a1N,a2T (by omega)]at hor;have hcl:c.toNat<256:=a2D c;obtain⟨b,off,c',hv,hcc,hcell⟩:=hb.openV (by rw[a1M];omega);have g1:=hcell i (by rw[a1M];exact hlt);rw[a1M]at hv;cases hv;rw[a3R,<-hc]at g1;simp only[kH]at g1;generalize c.toNat=cx at*;have hp:2^(8*i)<=2^56:=a1K (by omega) (by omega);have hm:cx*2^(8*i)<=255*2^56:=Nat.mul_le_mul (by omega) hp;have hb0:=AE (t.take i);have hb1:=AE (t.take (i+1));rw[a1N,a2T (by omega)]at hb0 hb1;have hq:256^i<=256^7:=a1K (by omega) (by omega);have e0:((8:Int)*(i:Int))=((8*i:Nat):Int):=by omega
  have e5:IntKind.u64.wrap ((cx:Int)*2^(min (8*i) IntKind.u64.bits))=((cx*2^(8*i):Nat):Int):=by
   rw[show min (8*i) IntKind.u64.bits=8*i from a2T (by have:IntKind.u64.bits=64:=rfl
                                                       omega)]
   have e:(cx:Int)*2^(8*i)=((cx*2^(8*i):Nat):Int):=by simp
   rw[e];exact eL (by omega) (by omega)
  have e6:=aNF (a:=cG (t.take i)) (b:=cx*2^(8*i)) (by omega) (by omega);rw[hor]at e6;have e7:IntKind.u64.wrap (cx:Int)=(cx:Int):=eL (by omega) (by omega);simp(disch:=omega)only[SV,d3,g1,e0,e5,e6,e7,a1M,a1H];exact⟨t.length-(i+1),by omega,i+1,rfl,by omega,rfl⟩
 .have d3:decide ((i:Int)<(t.length:Int))=false:=by simp;omega
  obtain rfl:i=t.length:=by omega
  simp(disch:=omega)only[SV,d3];unfold tE;rw[a4Q];exact⟨rfl,hr,x1⟩
def nxS(s:List UInt8×Int)(n:Nat):List UInt8×Int:=((gH s.1 s.2 n).2.1,(gH s.1 s.2 n).2.2)
def nvS(s:List UInt8×Int)(n:Nat):Nat:=cG (gH s.1 s.2 n).1
structure FH where
 window:Nat
 size:Nat
 known:Bool
 sum:Bool
variable{h z:FH}
def aKD(w:Nat):Nat:=2^(10+w/8)+2^(10+w/8)/8*(w%8)
def L3 (d:Nat):Bool:=d/32%2==1
def fDn(d:Nat):Nat:=if d%4=3 then 4 else d%4
def R3 (d:Nat):Nat:=if d/64=0 then(if L3 d then 1 else 0)else 2^(d/64)
def opS(s:List UInt8×Int)(n:Nat):List UInt8×Int:=if 0<n then nxS s n else s
def opV(s:List UInt8×Int)(n:Nat):Nat:=if 0<n then nvS s n else 0
def fS2 (s1:List UInt8×Int)(d:Nat):List UInt8×Int:=if L3 d then s1 else nxS s1 1
def ZP(L:Nat)(s4:List UInt8×Int)(dict:Nat)(h:FH):Except Int (FH×Nat):=
 if s4.2≠0 then .error s4.2 else if dict≠0 then .error 14 else .ok (h,L-s4.1.length)
def fSz(d x:Nat):Nat:=if R3 d=2 then x+256 else x
def aAQ(L:Nat)(s1:List UInt8×Int)(d:Nat):Except Int (FH×Nat):=
 ZP L (opS (opS (fS2 s1 d) (fDn d)) (R3 d)) (opV (fS2 s1 d) (fDn d))
  ⟨if L3 d then fSz d (opV (opS (fS2 s1 d) (fDn d)) (R3 d))else aKD (nvS s1 1),fSz d (opV (opS (fS2 s1 d) (fDn d)) (R3 d)),decide (0<R3 d),d/4%2==1⟩
def QD(l:List UInt8):Except Int (FH×Nat):=
 if(nxS (l,0) 1).2≠0 then .error (nxS (l,0) 1).2 else if nvS (l,0) 1/8%2=1 then .error 11 else aAQ l.length (nxS (l,0) 1) (nvS (l,0) 1)
def fhV(h:FH):a7C:= .agg #[.int .u64 (h.window:Nat),.int .u64 (h.size:Nat),.bool h.known,.bool h.sum]
def fRV:Except Int (FH×Nat)->a7C
 | .error e=> .tuple #[fhV ⟨0,0,false,false⟩,.int .i64 0,.int .i64 e]
 | .ok (h,n)=> .tuple #[fhV h,.int .i64 (n:Nat),.int .i64 0]
def rZ(h:FH):List a7C:=[.int .u64 (h.window:Nat),.int .u64 (h.size:Nat),.bool h.known,.bool h.sum]
theorem aIW(hr:Is w lo hi pr l e)(hl:l.length<=1000000)(hv:∃a c,v= .slice a L c)(hL:l.length<=L)(hL2:L<=1000000)(oh:aT w ph (rZ h))(ot:aT w pt (rZ z))(hne:ph≠pt)(hpt:¬(lo<=pt/\pt<hi))
 (hk:∀w',aE w w' (λy=>y=pt)->RR (fRV (ZP L (l,e) dict h)) w'):
 Iv RR v (.pointer (some ⟨pt,0,none⟩)) (.pointer (some ⟨pr,0,none⟩)) (.pointer (some ⟨ph,0,none⟩)) (.int .u64 (dict:Nat)) w:=by
 unfold Iv;obtain⟨a,c,rfl⟩:=hv;refine(qD hr).mono ?_;rintro r w1 ⟨rfl,rfl⟩;unfold ZP at hk;by_cases he:e=0
 .subst he;have n0:((0:Int) !=0)=false:=rfl;simp only[ne_eq,not_true,if_false]at hk;by_cases hd:dict=0
  .subst hd;have n1:(((0:Nat):Int) !=0)=false:=rfl;simp only[ne_eq,not_true,if_false]at hk;have hq:=ayO (off:=0) (aH oh) (by simp[rZ]);simp only[rZ,a1F,a1C,a1G]at hq;simp(disch:=omega)only[SV,n0,n1,hq];refine(EJ (hr.ext (aE.dr w1 aP) (λ_ _ _ h=>h))).mono ?_;rintro r w2 ⟨rfl,rfl⟩;have e1:(L:Int)-(l.length:Int)=((L-l.length:Nat):Int):=by omega
   simp(disch:=omega)only[SV,hq,e1];refine jL (aH ot) rfl (by simp[one]) (by simp[rZ]) λw3 o3 x3 s3=> ?_
   try simp(disch:=omega)only[SV,e1]
   refine tK o3 (by simp[aF,rZ]) ?_;simp only[aF,rZ,a1E,a1D,a1F,a1C,a1G];exact hk w3 ((aE.dr w1 _).seq x3)
  .have n1:((dict:Int) !=0)=true:=by simp;omega
   rw[if_pos hd]at hk;simp(disch:=omega)only[SV,n0,n1];refine jL ot rfl (by simp[one]) (by simp[rZ]) λw3 o3 x3 s3=> ?_;refine tK o3 (by simp[aF,rZ]) ?_;simp only[aF,rZ,a1E,a1D,a1F,a1C,a1G];exact hk w3 x3
 .have n0:(e !=0)=true:=by simp[he]
  rw[if_pos he]at hk;simp(disch:=omega)only[SV,n0];refine(qD hr).mono ?_;rintro r w2 ⟨rfl,rfl⟩;refine jL ot rfl (by simp[one]) (by simp[rZ]) λw3 o3 x3 s3=> ?_;refine tK o3 (by simp[aF,rZ]) ?_;simp only[aF,rZ,a1E,a1D,a1F,a1C,a1G];exact hk w3 x3
theorem aIX(hr:Is w lo hi pr l e)(hl:l.length<=1000000)(hv:∃a c,v= .slice a L c)(hL:l.length<=L)(hL2:L<=1000000)(oh:aT w ph (rZ h))(ot:aT w pt (rZ z))(hne:ph≠pt)(hpt:¬(lo<=pt/\pt<hi))(hph:¬(lo<=ph/\ph<hi))
 (hk:∀w',aE w w' (λy=>y=pt∨y=ph)->RR (fRV (ZP L (l,e) dict ⟨if o then h.size else h.window,h.size,h.known,h.sum⟩)) w'):
 Iw RR v (.pointer (some ⟨pt,0,none⟩)) (.pointer (some ⟨pr,0,none⟩)) (.pointer (some ⟨ph,0,none⟩)) (.bool o) (.int .u64 (dict:Nat)) w:=by
 unfold Iw aiJ;cases o with
 |false=>
  simp(disch:=omega)only[SV];exact aIW hr hl hv hL hL2 oh ot hne hpt λw' x=>hk w' (x.mono λ_ _ h=> .inl h)
 |true=>
  have c1:=oh.cell (off:=1);simp only[rZ,a1A,a1B]at c1;simp(disch:=omega)only[SV,c1];refine jK oh rfl (by simp[rZ]) λw1 o1 x1 s1=> ?_;refine aIW (h:=⟨h.size,h.size,h.known,h.sum⟩) (hr.ext x1 λy h1 h2 h3=>hph (h3▸⟨h1,h2⟩)) hl hv hL hL2 o1 (ot.ext x1 (λe=>hne e.symm)) hne hpt λw' x=>hk w' ((x1.mono λ_ _ h=> .inr h).seq (x.mono λ_ _ h=> .inl h))
theorem aIY(hn:n=2->h.size<65536)(hr:Is w lo hi pr l e)(hl:l.length<=1000000)(hv:∃a c,v= .slice a L c)(hL:l.length<=L)(hL2:L<=1000000)(oh:aT w ph (rZ h))(ot:aT w pt (rZ z))(hne:ph≠pt)(hpt:¬(lo<=pt/\pt<hi))(hph:¬(lo<=ph/\ph<hi))
 (hk:∀w',aE w w' (λy=>y=pt∨y=ph)->RR (fRV (ZP L (l,e) dict ⟨if o then(if n=2 then h.size+256 else h.size)else h.window,if n=2 then h.size+256 else h.size,h.known,h.sum⟩)) w'):
 Ix RR v (.pointer (some ⟨pt,0,none⟩)) (.pointer (some ⟨pr,0,none⟩)) (.pointer (some ⟨ph,0,none⟩)) (.bool o) (.int .u64 (dict:Nat)) (.int .i64 (n:Nat)) w:=by
 unfold Ix aiK;by_cases h2:n=2
 .have n1:((n:Int)==2)=true:=by rw[h2]<;>rfl
  simp only[h2,if_true]at hk;have hs:=hn h2;have c1:=oh.cell (off:=1);simp only[rZ,a1A,a1B]at c1;have e1:(h.size:Int)+256=((h.size+256:Nat):Int):=by omega
  simp(disch:=omega)only[SV,n1,c1,e1];refine jK oh rfl (by simp[rZ]) λw1 o1 x1 s1=> ?_;refine aIX (h:=⟨h.window,h.size+256,h.known,h.sum⟩) (hr.ext x1 λy h1 h2 h3=>hph (h3▸⟨h1,h2⟩)) hl hv hL hL2 o1 (ot.ext x1 (λe=>hne e.symm)) hne hpt hph λw' x=>hk w' ((x1.mono λ_ _ h=> .inr h).seq x)
 .have n1:((n:Int)==2)=false:=by simp;omega
  simp only[if_neg h2]at hk;simp(disch:=omega)only[SV,n1];exact aIX hr hl hv hL hL2 oh ot hne hpt hph hk
theorem aQO(hn8:n<=8)(hn:n=2->h.size<65536)(hk0:h.known=false)(hs0:h.size=0)(hr:Is w lo hi pr s.1 s.2)(hl:s.1.length<=1000000)(hv:∃a c,v= .slice a L c)(hL:s.1.length<=L)(hL2:L<=1000000)(oh:aT w ph (rZ h))(ot:aT w pt (rZ z))(hne:ph≠pt)(hpt:¬(lo<=pt/\pt<hi))(hph:¬(lo<=ph/\ph<hi))(hpr:lo<=pr/\pr<hi)
 (hk:∀w',aE w w' (λy=>y=pt∨y=ph∨y=pr)->RR (fRV (ZP L (opS s n) dict ⟨if o then(if n=2 then opV s n+256 else opV s n)else h.window,if n=2 then opV s n+256 else opV s n,decide (0<n),h.sum⟩)) w'):
 By RR v (.pointer (some ⟨pt,0,none⟩)) (.pointer (some ⟨pr,0,none⟩)) (.pointer (some ⟨ph,0,none⟩)) (.bool o) (.int .u64 (dict:Nat)) (.int .i64 (n:Nat)) w:=by
 unfold By aiL;by_cases h0:0<n
 .have d1:decide ((n:Int)>0)=true:=decide_eq_true (by omega);have d2:decide ((0:Int)<(n:Int))=true:=decide_eq_true (by omega);unfold opS opV at hk;simp only[if_pos h0,decide_eq_true h0]at hk;have hlt:nvS s n<256^n:=by
   unfold nvS gH;split
   .simp [cG];exact Nat.pow_pos (by omega)
   .split
    .simp [cG];exact Nat.pow_pos (by omega)
    .have:=AE (s.1.take n);rw[a1N,a2T (by omega)]at this;exact this
  have hle:(nxS s n).1.length<=s.1.length:=by
   unfold nxS gH;split
   .exact a1J _
   .split
    .exact a1J _
    .simp only[a1L];omega
  simp(disch:=omega)only[SV,d1,d2];refine(jV hr (by omega) ⟨h0,hn8⟩).mono ?_;rintro r w1 ⟨rfl,hr1,x1⟩;have oh1:=oh.ext x1 (λe=>hph (e▸hpr));have ot1:=ot.ext x1 (λe=>hpt (e▸hpr));refine jK oh1 rfl (by simp[rZ]) λw2 o2 x2 s2=> ?_;refine aHQ (off:=2) o2 rfl (by simp[rZ]) λw3 o3 x3 s3=> ?_;have x23:=x2.seq x3;refine aIY (h:=⟨h.window,nvS s n,true,h.sum⟩) (l:=(nxS s n).1) (e:=(nxS s n).2) (λh2=>by rw[h2]at hlt;rw[h2];simpa using hlt) (hr1.ext x23 λy h1 h2 h3=>hph (h3▸⟨h1,h2⟩)) (by omega) hv (by omega) hL2 o3 (ot1.ext x23 (λe=>hne e.symm)) hne hpt hph λw' x=>hk w' (((x1.mono λ_ _ h=> .inr (.inr h)).seq (x23.mono λ_ _ h=> .inr (.inl h))).seq (x.mono λ_ _ h=>h.elim .inl λh=> .inr (.inl h)))
 .have d1:decide ((n:Int)>0)=false:=decide_eq_false (by omega);have d2:decide ((0:Int)<(n:Int))=false:=decide_eq_false (by omega);unfold opS opV at hk;simp only[if_neg h0,decide_eq_false h0]at hk;simp(disch:=omega)only[SV,d1,d2];refine aIY (h:=h) (l:=s.1) (e:=s.2) hn hr hl hv hL hL2 oh ot hne hpt hph λw' x=> ?_;have:=hk w' (x.mono λ_ _ h=>h.elim .inl λh=> .inr (.inl h));rw[hs0,hk0];exact this
theorem aIZ(hd:d<256)(hk0:h.known=false)(hs0:h.size=0)(hr:Is w lo hi pr s.1 s.2)(hl:s.1.length<=1000000)(hv:∃a c,v= .slice a L c)(hL:s.1.length<=L)(hL2:L<=1000000)(oh:aT w ph (rZ h))(ot:aT w pt (rZ z))(hne:ph≠pt)(hpt:¬(lo<=pt/\pt<hi))(hph:¬(lo<=ph/\ph<hi))(hpr:lo<=pr/\pr<hi)
 (hk:∀w',aE w w' (λy=>y=pt∨y=ph∨y=pr)->RR (fRV (ZP L (opS s (R3 d)) dict ⟨if L3 d then fSz d (opV s (R3 d))else h.window,fSz d (opV s (R3 d)),decide (0<R3 d),h.sum⟩)) w'):
 Bz RR v (.pointer (some ⟨pt,0,none⟩)) (.pointer (some ⟨pr,0,none⟩)) (.int .i64 (d:Nat)) (.pointer (some ⟨ph,0,none⟩)) (.bool (L3 d)) (.int .u64 (dict:Nat)) w:=by
 unfold Bz aiM;have main:∀n:Nat,n=R3 d->By RR v (.pointer (some ⟨pt,0,none⟩)) (.pointer (some ⟨pr,0,none⟩)) (.pointer (some ⟨ph,0,none⟩)) (.bool (L3 d)) (.int .u64 (dict:Nat)) (.int .i64 (n:Nat)) w:=by
  rintro n rfl;refine aQO (h:=h) (s:=s) ?_ (λ_=>by omega) hk0 hs0 hr hl hv hL hL2 oh ot hne hpt hph hpr λw' x=> ?_
  .unfold R3;have:d/64=0∨d/64=1∨d/64=2∨d/64=3:=by omega
   rcases this with h|h|h|h<;>rw[h]<;>simp;split<;>omega
  .have:=hk w' x;unfold fSz at this;exact this
 have h4:d/64=0∨d/64=1∨d/64=2∨d/64=3:=by omega
 have e6:(d:Int).fdiv (2^min (Int.toNat 6) IntKind.i64.bits)=((d/64:Nat):Int):=by
  have:(2:Int)^min (Int.toNat 6) IntKind.i64.bits=64:=by decide
  rw[this,a3A _ (by omega)];omega
 rcases h4 with h4|h4|h4|h4<;>rw[h4]at e6
 .cases ho:L3 d with
  |true=>
   have e:1=R3 d:=by unfold R3;rw[h4,ho]<;>rfl
   have:=main 1 e;rw[ho]at this;simp(disch:=omega)only[SV,e6,h4];exact this
  |false=>
   have e:0=R3 d:=by unfold R3;rw[h4,ho]<;>rfl
   have:=main 0 e;rw[ho]at this;simp(disch:=omega)only[SV,e6,h4];exact this
 .have e:2=R3 d:=by unfold R3;rw[h4]<;>rfl
  simp(disch:=omega)only[SV,e6,h4];cases ho:L3 d<;>(simp(disch:=omega)only[SV];rw[<-ho];exact main 2 e)
 .have e:4=R3 d:=by unfold R3;rw[h4]<;>rfl
  simp(disch:=omega)only[SV,e6,h4];cases ho:L3 d<;>(simp(disch:=omega)only[SV];rw[<-ho];exact main 4 e)
 .have e:8=R3 d:=by unfold R3;rw[h4]<;>rfl
  simp(disch:=omega)only[SV,e6,h4];cases ho:L3 d<;>(simp(disch:=omega)only[SV];rw[<-ho];exact main 8 e)
theorem aUi(h:d<256):yK .i64 (d:Int) 3=((d%4:Nat):Int)/\(yK .i64 (d:Int) 4 !=0)=(d/4%2==1)/\(yK .i64 (d:Int) 8 !=0)=(d/8%2==1)/\(yK .i64 (d:Int) 32 !=0)=(d/32%2==1):=by
 have:∀k:Fin 256,yK .i64 (k.val:Int) 3=((k.val%4:Nat):Int)/\(yK .i64 (k.val:Int) 4 !=0)=(k.val/4%2==1)/\(yK .i64 (k.val:Int) 8 !=0)=(k.val/8%2==1)/\(yK .i64 (k.val:Int) 32 !=0)=(k.val/32%2==1):=by decide+kernel
 exact this ⟨d,h⟩
theorem aZd(x:Nat)(h:x<256):IntKind.u64.wrap (IntKind.u64.wrap (1*2^min (10+((x/8:Nat):Int)).toNat IntKind.u64.bits)+IntKind.u64.wrap (IntKind.u64.wrap ((IntKind.u64.wrap (1*2^min (10+((x/8:Nat):Int)).toNat IntKind.u64.bits)).tdiv 8)*yK IntKind.u64 (x:Int) 7))=((aKD x:Nat):Int):=by
 have:∀k:Fin 256,IntKind.u64.wrap (IntKind.u64.wrap (1*2^min (10+((k.val/8:Nat):Int)).toNat IntKind.u64.bits)+IntKind.u64.wrap (IntKind.u64.wrap ((IntKind.u64.wrap (1*2^min (10+((k.val/8:Nat):Int)).toNat IntKind.u64.bits)).tdiv 8)*yK IntKind.u64 (k.val:Int) 7))=((aKD k.val:Nat):Int):=by decide+kernel
 exact this ⟨x,h⟩
theorem aSl(h:x<256):aL pg Mu #[.int .u64 (x:Nat)] w (λr w'=>r= .int .u64 (aKD x:Nat)/\w'=w):=by
 refine arF ?_;unfold arE W1;have e0:(x:Int).fdiv (2^min (Int.toNat 3) IntKind.u64.bits)=((x/8:Nat):Int):=by
  have:(2:Int)^min (Int.toNat 3) IntKind.u64.bits=8:=by decide
  rw[this,a3A _ (by omega)];omega
 simp(disch:=omega)only[SV,e0];rw[aZd x h]
theorem aF1 (hd:d<256)(hk0:h.known=false)(hs0:h.size=0)(hr:Is w lo hi pr s.1 s.2)(hl:s.1.length<=1000000)(hv:∃a c,v= .slice a L c)(hL:s.1.length<=L)(hL2:L<=1000000)(oh:aT w ph (rZ h))(ot:aT w pt (rZ z))(hne:ph≠pt)(hpt:¬(lo<=pt/\pt<hi))(hph:¬(lo<=ph/\ph<hi))(hpr:lo<=pr/\pr<hi)
 (hk:∀w',aE w w' (λy=>y=pt∨y=ph∨y=pr)->RR (fRV (ZP L (opS (opS s (fDn d)) (R3 d)) (opV s (fDn d)) ⟨if L3 d then fSz d (opV (opS s (fDn d)) (R3 d))else h.window,fSz d (opV (opS s (fDn d)) (R3 d)),decide (0<R3 d),h.sum⟩)) w'):
 Fh RR v (.pointer (some ⟨pt,0,none⟩)) (.pointer (some ⟨pr,0,none⟩)) (.int .i64 (d:Nat)) (.pointer (some ⟨ph,0,none⟩)) (.bool (L3 d)) w:=by
 unfold Fh ZS;obtain⟨b3,_⟩:=aUi hd;have main:∀n:Nat,n<=8->0<n->fDn d=n->aL pg nZ #[.pointer (some ⟨pr,0,none⟩),.int .i64 n] w (λt50 w1=>Bz RR v (.pointer (some ⟨pt,0,none⟩)) (.pointer (some ⟨pr,0,none⟩)) (.int .i64 (d:Nat)) (.pointer (some ⟨ph,0,none⟩)) (.bool (L3 d)) t50 w1):=by
  intro n hn h0 e;rw[e]at hk;unfold opS at hk;unfold opV at hk;rw[if_pos h0,if_pos h0]at hk;have hle:(nxS s n).1.length<=s.1.length:=by
   unfold nxS gH;split
   .exact a1J _
   .split
    .exact a1J _
    .simp only[a1L];omega
  refine(jV hr (by omega) ⟨h0,hn⟩).mono ?_;rintro r w1 ⟨rfl,hr1,x1⟩;exact aIZ (s:=nxS s n) (dict:=nvS s n) hd hk0 hs0 hr1 (by omega) hv (by omega) hL2 (oh.ext x1 (λe=>hph (e▸hpr))) (ot.ext x1 (λe=>hpt (e▸hpr))) hne hpt hph hpr λw' x=>hk w' ((x1.mono λ_ _ h=> .inr (.inr h)).seq x)
 have h4:d%4=0∨d%4=1∨d%4=2∨d%4=3:=by omega
 rcases h4 with h4|h4|h4|h4<;>rw[h4]at b3
 .have e:fDn d=0:=by unfold fDn;rw[h4]<;>rfl
  have n1:decide ((0:Int)>0)=false:=rfl;simp(disch:=omega)only[SV,b3,n1];refine aIZ (s:=s) (dict:=0) hd hk0 hs0 hr hl hv hL hL2 oh ot hne hpt hph hpr λw' x=> ?_;have:=hk w' x;rw[e]at this;exact this
 .have n1:decide ((1:Int)>0)=true:=rfl;have n2:decide ((0:Int)<1)=true:=rfl;simp(disch:=omega)only[SV,b3,n1,n2];exact main 1 (by omega) (by omega) (by unfold fDn;rw[h4]<;>rfl)
 .have n1:decide ((2:Int)>0)=true:=rfl;have n2:decide ((0:Int)<2)=true:=rfl;simp(disch:=omega)only[SV,b3,n1,n2];exact main 2 (by omega) (by omega) (by unfold fDn;rw[h4]<;>rfl)
 .have n1:decide ((4:Int)>0)=true:=rfl;have n2:decide ((0:Int)<4)=true:=rfl;simp(disch:=omega)only[SV,b3,n1,n2];exact main 4 (by omega) (by omega) (by unfold fDn;rw[h4]<;>rfl)
theorem aLG(s:List UInt8×Int)(n:Nat):(nxS s n).1.length<=s.1.length:=by
 unfold nxS gH;split
 .exact a1J _
 .split
  .exact a1J _
  .simp only[a1L];omega
theorem VO(s:List UInt8×Int)(n:Nat):nvS s n<256^n:=by
 unfold nvS gH;split
 .simp [cG];exact Nat.pow_pos (by omega)
 .split
  .simp [cG];exact Nat.pow_pos (by omega)
  .have:=AE (s.1.take n);rw[a1N,a2T (by omega)]at this;exact this
theorem aIV(hb:Bs w v l)(hl:l.length<=1000000):aL pg UX #[v] w (λr w'=>r=fRV (QD l)/\aE w w' aP):=by
 refine aBE ?_;unfold aDp ZU ZT;refine BS λw1 o1 x1 s1=> ?_;obtain⟨pt,hpt⟩:∃p,p=w.heap.size:=⟨_,rfl⟩;rw[<-hpt]at o1⊢;have hz1:=o1.lt;have hb1:=hb.ext x1 (aR _);obtain⟨va,vc,hv,_⟩:=hb.len;rw[a1M]at hv;refine(rN hb1 (by omega)).mono ?_;rintro r w2 ⟨pr,rfl,hr,x2⟩;have o2:=o1.ext x2 (λh=>h);have hpr:w1.heap.size<=pr/\pr<w2.heap.size:=⟨hr.1,hr.2.1⟩;refine(jV (n:=1) hr (by omega) ⟨by omega,by omega⟩).mono ?_;rintro r w3 ⟨rfl,hr3,x3⟩;have e1:(cG (gH l 0 1).1)=nvS (l,0) 1:=rfl;have e2:(gH l 0 1).2.1=(nxS (l,0) 1).1:=rfl;have e3:(gH l 0 1).2.2=(nxS (l,0) 1).2:=rfl;rw[e2,e3]at hr3;rw[e1];have o3:=o2.ext x3 (by intro h;omega);obtain⟨d,hd⟩:∃d,d=nvS (l,0) 1:=⟨_,rfl⟩;obtain⟨s,hs⟩:∃s,s=nxS (l,0) 1:=⟨_,rfl⟩;have hdl:d<256:=by have:=VO (l,0) 1;omega
 have hsl:s.1.length<=l.length:=by have:=aLG (l,0) 1;rw[hs];exact this
 rw[<-hd];rw[<-hs]at hr3;have hfr:QD l=if s.2≠0 then .error s.2 else if d/8%2=1 then .error 11 else aAQ l.length s d:=by unfold QD;rw[<-hd,<-hs]
 rw[hfr];obtain⟨b3,b4,b8,b32⟩:=aUi hdl;have wd:IntKind.i64.wrap (d:Int)=d:=dM (by omega) (by omega);simp(disch:=omega)only[SV,wd];refine(qD hr3).mono ?_;rintro r w4 ⟨rfl,h4⟩;rw[h4];clear h4 w4;have x03:aE w w3 aP:=x1.trans (x2.trans x3 λy hy h=>by have:=x2.size;omega) λy hy h=>h;by_cases he:s.2=0;rotate_left
 .have n0:(s.2 !=0)=true:=by simp[he]
  rw[if_pos he];simp(disch:=omega)only[SV,n0];refine(qD hr3).mono ?_;rintro r w4 ⟨rfl,h4⟩;rw[h4];clear h4 w4;refine jL o3 rfl (by simp[one]) (by simp) λw5 o5 x5 s5=> ?_;refine tK o5 (by simp[aF]) ?_;simp only[aF,a1E,a1D,a1F,a1C,a1G];exact⟨rfl,x03.trans x5 λy hy h=>by omega⟩
 have n0:(s.2 !=0)=false:=by simp[he]
 rw[if_neg (by simpa using he)];by_cases h8:d/8%2=1
 .have n8:(d/8%2==1)=true:=by simp[h8]
  rw[if_pos h8];rw[n8]at b8;simp(disch:=omega)only[SV,n0,b8];refine jL o3 rfl (by simp[one]) (by simp) λw5 o5 x5 s5=> ?_;refine tK o5 (by simp[aF]) ?_;simp only[aF,a1E,a1D,a1F,a1C,a1G];exact⟨rfl,x03.trans x5 λy hy h=>by omega⟩
 have n8:(d/8%2==1)=false:=by simp[h8]
 rw[if_neg h8];rw[n8]at b8;obtain⟨RR,hRR⟩:∃RR:a7C->a7B->Prop,RR=λr w'=>r=fRV (aAQ l.length s d)/\aE w w' aP:=⟨_,rfl⟩;rw[<-hRR];have e32:(d/32%2==1)=L3 d:=rfl;rw[e32]at b32;simp(disch:=omega)only[SV,n0,b8,b4];refine BS λw5 o5 x5 s5=> ?_;obtain⟨ph,hph⟩:∃p,p=w3.heap.size:=⟨_,rfl⟩;rw[<-hph]at o5⊢;have hz3:=x2.size;have hz4:=x3.size;refine jL o5 rfl (by simp[one]) (by simp) λw6 o6 x6 s6=> ?_;simp only[aF,a1E,a1D]at o6;have x36:aE w3 w6 aP:=x5.new x6 (by omega);have x06:aE w w6 aP:=x03.trans x36 λy hy h=>h;have hr6:=hr3.ext x36 (λ_ _ _ h=>h);have o36:=o3.ext x36 (λh=>h);have oh6:aT w6 ph (rZ ⟨0,0,false,d/4%2==1⟩):=o6;have ot6:aT w6 pt (rZ ⟨0,0,false,false⟩):=o36;rw[b32];cases ho:L3 d with
 |true=>
  simp(disch:=omega)only[SV];rw[<-ho];refine aF1 (L:=l.length) (s:=s) hdl rfl rfl hr6 (by omega) ⟨_,_,hv⟩ hsl (by omega) oh6 ot6 (by omega) (by omega) (by omega) hpr λw' x=> ?_;rw[hRR];refine⟨?_,x06.trans x λy hy h=>by omega⟩;unfold aAQ fS2;rw[ho];rfl
 |false=>
  simp(disch:=omega)only[SV];refine(jV (n:=1) hr6 (by omega) ⟨by omega,by omega⟩).mono ?_;rintro r w7 ⟨rfl,hr7,x7⟩;have e1:(cG (gH s.1 s.2 1).1)=nvS s 1:=rfl;have e2:(gH s.1 s.2 1).2.1=(nxS s 1).1:=rfl;have e3:(gH s.1 s.2 1).2.2=(nxS s 1).2:=rfl;rw[e2,e3]at hr7;rw[e1];refine(aSl (by have:=VO s 1;omega)).mono ?_;rintro r w8 ⟨rfl,h4⟩;rw[h4];clear h4 w8;have oh7:=oh6.ext x7 (by intro h;omega);have ot7:=ot6.ext x7 (by intro h;omega);refine jK (off:=0) oh7 rfl (by simp[rZ]) λw9 o9 x9 s9=> ?_;simp only[rZ,a1E,a1D]at o9;have oh9:aT w9 ph (rZ ⟨aKD (nvS s 1),0,false,d/4%2==1⟩):=o9;have x69:aE w6 w9 (λy=>y=pr∨y=ph):=(x7.mono λ_ _ h=> .inl h).seq (x9.mono λ_ _ h=> .inr h);have hle:=aLG s 1;rw[<-ho];refine aF1 (L:=l.length) (s:=nxS s 1) hdl rfl rfl (hr7.ext x9 λy h1 h2 h=>by omega) (by omega) ⟨_,_,hv⟩ (by omega) (by omega) oh9 (ot7.ext x9 (by omega)) (by omega) (by omega) (by omega) hpr λw' x=> ?_;rw[hRR];refine⟨?_,(x06.trans x69 λy hy h=>by omega).trans x λy hy h=>by omega⟩;unfold aAQ fS2;rw[ho];rfl
theorem aXr(n:Nat):n&&&3=n%4:=a4O n 2
theorem aXp(n:Nat):n&&&1=n%2:=a4O n 1
theorem aVc(h:x<2^62):yK .i64 (x:Int) 3=((x%4:Nat):Int):=by
 unfold yK;have e1:(BitVec.ofInt IntKind.i64.bits (x:Int)&&&BitVec.ofInt IntKind.i64.bits 3).toNat=x%4:=by
  rw[BitVec.toNat_and];simp only[IntKind.bits,BitVec.toNat_ofInt];have h1:((x:Int)%((2^64:Nat):Int)).toNat=x:=by omega
  have h2:((3:Int)%((2^64:Nat):Int)).toNat=3:=by decide
  rw[h1,h2,aXr]
 rw[e1];exact dM (by omega) (by omega)
theorem aVb(h:x<2^62):yK .i64 (x:Int) 1=((x%2:Nat):Int):=by
 unfold yK;have e1:(BitVec.ofInt IntKind.i64.bits (x:Int)&&&BitVec.ofInt IntKind.i64.bits 1).toNat=x%2:=by
  rw[BitVec.toNat_and];simp only[IntKind.bits,BitVec.toNat_ofInt];have h1:((x:Int)%((2^64:Nat):Int)).toNat=x:=by omega
  have h2:((1:Int)%((2^64:Nat):Int)).toNat=1:=by decide
  rw[h1,h2,aXp]
 rw[e1];exact dM (by omega) (by omega)
def rbA(x:Nat):a7C:= .agg #[.bool (x%2==1),.int .i64 (x/2%4:Nat),.int .i64 (x/8:Nat)]
def rbV(l:List UInt8):a7C:=if cG l/2%4=3 then .tuple #[.agg #[.bool false,.int .i64 0,.int .i64 0],.int .i64 11]else .tuple #[rbA (cG l),.int .i64 0]
theorem aJM(hb:Bs w v l)(hl:l.length=3):aL pg DL #[v] w (λr w'=>r=rbV l/\aE w w' aP):=by
 refine ZR ?_;unfold W0 NG;refine MN λw1 o1 x1 s1=> ?_;obtain⟨pt,hpt⟩:∃p,p=w.heap.size:=⟨_,rfl⟩;rw[<-hpt]at o1⊢;have hz1:=o1.lt;have hb1:=hb.ext x1 (aR _);refine(rN hb1 (by omega)).mono ?_;rintro r w2 ⟨pr,rfl,hr,x2⟩;have o2:=o1.ext x2 (λh=>h);have hpr:w1.heap.size<=pr/\pr<w2.heap.size:=⟨hr.1,hr.2.1⟩;refine(jV (n:=3) hr (by omega) ⟨by omega,by omega⟩).mono ?_;rintro r w3 ⟨rfl,hr3,x3⟩;have o3:=o2.ext x3 (by intro h;omega);have e1:gH l 0 3=(l,[],0):=by
  unfold gH;rw[if_neg (by decide),if_neg (by omega),a1T (by omega),a3N (by omega)]
 rw[e1]at hr3⊢;have hlt:cG l<2^24:=by have:=AE l;rw[hl]at this;omega
 unfold rbV;obtain⟨x,hx⟩:∃x,x=cG l:=⟨_,rfl⟩;rw[<-hx]at hlt⊢;have wd:IntKind.i64.wrap (x:Int)=x:=dM (by omega) (by omega);have s1:(x:Int).fdiv (2^min (Int.toNat 1) IntKind.i64.bits)=((x/2:Nat):Int):=by
  have:(2:Int)^min (Int.toNat 1) IntKind.i64.bits=2:=by decide
  rw[this,a3A _ (by omega)];omega
 have s3:(x:Int).fdiv (2^min (Int.toNat 3) IntKind.i64.bits)=((x/8:Nat):Int):=by
  have:(2:Int)^min (Int.toNat 3) IntKind.i64.bits=8:=by decide
  rw[this,a3A _ (by omega)];omega
 have a3:=aVc (x:=x/2) (by omega);have a1:=aVb (x:=x) (by omega);have n0:((0:Int) !=0)=false:=rfl;have x03:aE w w3 aP:=x1.trans (x2.trans x3 λy hy h=>by have:=x2.size;omega) λy hy h=>h;simp(disch:=omega)only[SV,wd];refine(qD hr3).mono ?_;rintro r w4 ⟨rfl,h4⟩;rw[h4];clear h4 w4;by_cases h3:x/2%4=3
 .have d1:decide (((x/2%4:Nat):Int)>2)=true:=decide_eq_true (by omega);have d2:decide ((2:Int)<((x/2%4:Nat):Int))=true:=decide_eq_true (by omega);rw[if_pos h3];simp(disch:=omega)only[SV,n0,s1,a3,d1,d2];refine CB o3 rfl (by simp[one]) (by simp) λw5 o5 x5 s5=> ?_;refine Xi o5 (by simp[aF]) ?_;simp only[aF,a1E,a1D,a1F,a1C,a1G];exact⟨trivial,x03.trans x5 λy hy h=>by omega⟩
 .have d1:decide (((x/2%4:Nat):Int)>2)=false:=decide_eq_false (by omega);have d2:decide ((2:Int)<((x/2%4:Nat):Int))=false:=decide_eq_false (by omega);have e5:(((x%2:Nat):Int)==1)=(x%2==1):=by
   have:x%2=0∨x%2=1:=by omega
   rcases this with h|h<;>rw[h]<;>rfl
  rw[if_neg h3];simp(disch:=omega)only[SV,n0,s1,a3,d1,d2,a1,s3,e5];refine CB o3 rfl (by simp[one]) (by simp) λw5 o5 x5 s5=> ?_;refine Xi o5 (by simp[aF]) ?_;simp only[aF,a1E,a1D,a1F,a1C,a1G];exact⟨rfl,x03.trans x5 λy hy h=>by omega⟩
end Go.Proofs.YthohephggmkeeaaGreatDoor
namespace Go.Proofs.YthohephggmkeeaaGreatDoor
open Go Go.En Go.Pu
variable{n x:Nat}
theorem aIU{m:Nat}(h:m=n):(x:Int).fdiv (2^m)=((x/2^n:Nat):Int):=by
 subst h;rw[a3A _ (by exact_mod_cast a4G _)]
 push_cast
 rfl
theorem aHO(h:n<=64):(x:Int).fdiv (2^min n IntKind.u64.bits)=((x/2^n:Nat):Int):=aIU (by have:IntKind.u64.bits=64:=rfl;omega)
theorem aXX(h:n<=8):(x:Int).fdiv (2^min n IntKind.u8.bits)=((x/2^n:Nat):Int):=aIU (by have:IntKind.u8.bits=8:=rfl;omega)
theorem aCZ(hx:x<2^63)(hn:n<=62):yK .u64 (x:Int) ((2^n-1:Nat):Int)=((x%2^n:Nat):Int):=by
 have hp:2^n<=2^62:=a1K (by omega) hn;unfold yK;have e:IntKind.u64.bits=64:=rfl;rw[e,BitVec.ofInt_natCast,BitVec.ofInt_natCast,BitVec.toNat_and,BitVec.toNat_ofNat,BitVec.toNat_ofNat,a3B (by omega),a3B (by omega),a4O];have:=Nat.mod_le x (2^n);exact eL (by omega) (by omega)
end Go.Proofs.YthohephggmkeeaaGreatDoor
namespace Go.Proofs.YthohephggmkeeaaGreatDoor
open Go Go.En Go.Pu
set_option maxRecDepth 4000
variable{M S:Nat->Prop}{n p:Nat}{v:a7C}{w w':a7B}
theorem aTv(hn:n<=131072):
 aL pg DP #[.int .u64 1,.int .u64 n] w (λr w'=>r= .tuple #[.int .u64 0,.int .u64 n]/\aE w w' aP):=by
 refine aaK ?_;unfold Xm Ot;have a1:yK .u64 1 4294967295=1:=by decide
 have a2:yK .u64 (n:Int) 4294967295=n:=by
  have:=aCZ (x:=n) (n:=32) (by omega) (by omega);rw[a3B (by omega)]at this;exact this
 have a0:yK .u64 0 4294967295=0:=by decide
 have s1:(1:Int).fdiv (2^min 32 IntKind.u64.bits)=0:=by decide
 have s0:(0:Int).fdiv (2^min 32 IntKind.u64.bits)=0:=by decide
 have s2:(n:Int).fdiv (2^min 32 IntKind.u64.bits)=0:=by
  rw[aHO (by omega),Nat.div_eq_of_lt (by omega)]<;>rfl
 have t32:(32:Int).toNat=32:=rfl;have w0:IntKind.u64.wrap 0=0:=rfl;have w1:IntKind.u64.wrap (n:Int)=n:=eL (by omega) (by omega);simp(disch:=omega)only[SV,a1,a2,a0,s1,s2,s0,t32,w0,w1,Int.one_mul,Int.zero_mul,Int.mul_zero,Int.add_zero,Int.zero_add];exact aE.refl _ _
theorem aXH(hn:n<=131072):
 aL pg JP #[.int .u64 1,.int .u64 n] w (λr w'=>r= .tuple #[.int .u64 0,.int .u64 n]/\aE w w' aP):=by
 refine anI ?_;unfold ajF Ud;simp(disch:=omega)only[SV];refine(aTv hn).mono ?_;rintro r w1 ⟨rfl,x1⟩;simp(disch:=omega)only[SV];exact x1
theorem aV5 {z:a7C}{i:Nat}(hi:i<=n):aF (List.replicate i v++List.replicate (n-i) z) i ((List.replicate i v).take (min i (n-i)))=List.replicate (i+min i (n-i)) v++List.replicate (n-(i+min i (n-i))) z:=by
 have e:(List.replicate i v).take (min i (n-i))=List.replicate (min i (n-i)) v:=by
  rw[List.take_replicate];congr 1;omega
 rw[e];generalize hm:min i (n-i)=m;have hm2:i+m<=n:=by omega
 clear hm e
 induction m generalizing i with
 |zero=>simp[aF]
 |succ m ih=>
  rw[a2S];simp only[aF];rw[show(List.replicate i v++List.replicate (n-i) z).set i v=List.replicate (i+1) v++List.replicate (n-(i+1)) z from ?_]
  .rw [ih (i:=i+1) (by omega) (by omega),show i+1+m=i+(m+1)from by omega]
  .rw [a3H _ _ (by simp),a2C,a5N,show n-i=(n-(i+1))+1 from by omega,a2S,a1E,a5C,a2R];rfl
theorem aO6 {c:UInt8}{w3:a7B}{RR:a7C->a7B->Prop}(hn:n<=131072)(o3:aT w3 p (List.replicate (min 1 n) (kH c)++List.replicate (n-min 1 n) (.int .u8 0)))
 (hk:∀w4,aT w4 p (List.replicate n (kH c))->aE w3 w4 (λy=>y=p)->RR (.slice (some ⟨p,0,none⟩) n n) w4):
 qK RR (.slice (some ⟨p,0,none⟩) n n) (.int .i64 (min 1 n:Nat)) w3:=by
 unfold qK qJ;refine aN.rule (λm (t:a7C) w'=>∃i:Nat,m=n-i/\t= .int .i64 i/\i<=n/\(1<=i∨n=0)/\aT w' p (List.replicate i (kH c)++List.replicate (n-i) (.int .u8 0))/\aE w3 w' (λy=>y=p)) (n-min 1 n)
  ⟨min 1 n,rfl,rfl,by omega,by omega,o3,aE.refl _ _⟩ ?_
 rintro m t w4 ⟨i,rfl,rfl,hi,h0,o4,x4⟩;unfold Hl;by_cases hlt:i<n
 .have d5:decide ((i:Int)<(n:Int))=true:=by simp;omega
  have q1:(i:Int).toNat=i:=a1H _;have s1:dI (some (⟨p,0,none⟩:Addr)) n i 1=some ⟨p,0+i,none⟩:=aER (by omega);have s2:dI (some (⟨p,0,none⟩:Addr)) n 0 1=some ⟨p,0+0,none⟩:=aER (by omega);simp(disch:=omega)only[SV,d5,q1,s1,s2,a6M];have hs:Bs (dr w4) (.slice (some ⟨p,0,none⟩) i n) (List.replicate i c):=by
   have:=(aH o4).bs (off:=0) (c:=n) (l:=List.replicate i c) (by simp;omega) (λj hj=>by
    rw[a2C]at hj;rw[a1Q,a1V (by simp;omega)];simp[a5F,hj])
   rw[a2C]at this;exact this
  refine ZH (off:=i) (dl:=n-i) (aH o4) (by simp) hs (by simp[one,kH]) λw5 o5 x5 s5=> ?_;have hm5:(List.map kH (List.replicate i c)).length=i:=by simp
  rw[hm5,a5X,aV5 hi]at o5;rw[hm5];have e5:(i:Int)+((min i (n-i):Nat):Int)=((i+min i (n-i):Nat):Int):=by omega
  have wi5:IntKind.i64.wrap ((i+min i (n-i):Nat):Int)=((i+min i (n-i):Nat):Int):=dM (by omega) (by omega);simp(disch:=omega)only[SV,e5,wi5];exact⟨n-(i+min i (n-i)),by omega,i+min i (n-i),rfl,rfl,by omega,by omega,o5,x4.seq ((aE.dr w4 _).seq x5)⟩
 .have d5:decide ((i:Int)<(n:Int))=false:=by simp;omega
  have hin:i=n:=by omega
  rw[hin,a5N,List.replicate_zero,a4M]at o4;simp(disch:=omega)only[SV,d5];unfold xA;exact hk w4 o4 x4
theorem aJ0 {c:UInt8}(h:Bs w v [c])(hn:n<=131072):
 aL pg yT #[v,.int .i64 n] w (λr w'=>mH w' w.heap.size 1 r n (List.replicate n (kH c))/\aE w w' aP):=by
 refine UB ?_;obtain⟨RR,hRR⟩:∃RR:a7C->a7B->Prop,RR=λr w'=>mH w' w.heap.size 1 r n (List.replicate n (kH c))/\aE w w' aP:=⟨_,rfl⟩;rw[<-hRR];obtain⟨b,off,cap,rfl,hc,hcell⟩:=Vs h (by simp);have hl1:([c]:List UInt8).length=1:=rfl;rw[hl1]at*;have d0:decide ((n:Int)<0)=false:=decide_eq_false (by omega);have e1:((1:Nat):Int)=1:=rfl;have wn:IntKind.u64.wrap (n:Int)=n:=eL (by omega) (by omega);have w1:IntKind.u64.wrap 1=1:=rfl;unfold PM Gn Gm;simp(disch:=omega)only[SV,d0];unfold xC Hn;simp(disch:=omega)only[SV,e1,wn,w1];refine(aXH hn).mono ?_;rintro r w1 ⟨rfl,x1⟩;have d1:decide ((0:Int)>0)=false:=rfl;have d2:decide ((n:Int)>9223372036854775807)=false:=decide_eq_false (by omega);have d3:decide ((9223372036854775807:Int)<(n:Int))=false:=decide_eq_false (by omega);have d4:decide ((0:Int)<0)=false:=rfl;simp(disch:=omega)only[SV,d1,d2,d3,d4];unfold xB Hm;have wi:IntKind.i64.wrap (n:Int)=n:=dM (by omega) (by omega);simp(disch:=omega)only[SV,wi];refine aaM (by omega) (by omega) λw2 o2 x2 s2=> ?_;simp only[a1H]at o2⊢;have z1:=x1.size;have z2:=x2.size;have x02:=x1.seq x2;have h2:=h.ext x02 (aR _);obtain⟨p,hp⟩:∃p,p=w1.heap.size:=⟨_,rfl⟩;rw[<-hp]at o2⊢;refine ZH (off:=0) o2 (by simp) h2 (by simp[one,kH]) λw3 o3 x3 s3=> ?_;have hmn:min (List.map kH [c]).length n=min 1 n:=rfl;rw[hmn]at o3⊢;have hs3:aF (List.replicate n (Value.int .u8 0)) 0 ((List.map kH [c]).take (min 1 n))=List.replicate (min 1 n) (kH c)++List.replicate (n-min 1 n) (.int .u8 0):=by
  rcases a3J n with rfl|hp
  .rfl
  .rw [show min 1 n=1 from by omega];obtain⟨m,rfl⟩:∃m,n=m+1:=⟨n-1,by omega⟩;rfl
 rw[hs3]at o3;have x13:aE w1 w3 aP:=x2.new x3 (by omega);have x03:=x1.seq x13;refine aO6 hn o3 λw4 o4 x4=> ?_;have z4:=x4.size;have x04:aE w w4 aP:=x03.trans x4 λy hy h=>by omega
 rw[hRR];exact⟨⟨by rw[a2C,a2Z],.inr ⟨p,n,[],rfl,by omega,by rw[a4M];exact o4,by rw[a4M,a2C,a2Z],a1J _⟩⟩,x04⟩
theorem aRw{sz:Nat}{l:List a7C}(h:BR w S sz v n l)(hx:aE w w' M)(hM:∀b,S b->¬M b):BR w' S sz v n l:=by
 refine⟨h.1, ?_⟩;rcases h.2 with h2|⟨b,c,rest,h1,h2,h3,h4,h5⟩
 .exact .inl h2
 .exact .inr ⟨b,c,rest,h1,h2,h3.ext hx (hM b h2),h4,h5⟩
def Wr(w:a7B)(lo p:Nat)(B:List Bool):Prop:=lo<=p/\∃v bytes,aT w p [v,.int .i64 B.length]/\BR w (λb=>lo<=b/\b≠p) 1 v bytes.length (bytes.map kH)/\aYO B bytes
theorem Wr.ext {lo:Nat}{B:List Bool}(h:Wr w lo p B)(hx:aE w w' M)(hM:∀b,lo<=b->¬M b):Wr w' lo p B:=by
 obtain⟨h0,v,bytes,h1,h2,h3⟩:=h;exact⟨h0,v,bytes,h1.ext hx (hM _ h0),aRw h2 hx λb hb=>hM b hb.1,h3⟩
def Cw(w:a7B)(p:Nat)(S:Nat->Prop)(l:List UInt8):Prop:=¬S p/\∃v,aT w p [v]/\BR w S 1 v l.length (l.map kH)
theorem Cw.ext {l:List UInt8}(h:Cw w p S l)(x:aE w w' M)(hp:¬M p)(hM:∀b,S b->¬M b):Cw w' p S l:=by
 obtain⟨h0,v,h1,h2⟩:=h;exact⟨h0,v,h1.ext x hp,aRw h2 x hM⟩
theorem Cw.lt {l:List UInt8}(h:Cw w p S l):p<w.heap.size:=by
 obtain⟨_,v,h1,_⟩:=h;exact h1.lt
theorem aHA{l:List a7C}(o3:BR w S 1 v n l):Sl w v l:=by
 have:mH w 0 1 v n l:=⟨o3.1,by
  rcases o3.2 with h|⟨b,c,rest,g1,g2,g3⟩
  .exact .inl h
  .exact .inr ⟨b,c,rest,g1,by omega,g3⟩⟩
 exact this.sl
end Go.Proofs.YthohephggmkeeaaGreatDoor
namespace Go.En
open Go
variable{l:List a7C}{n sz:Nat}{v:a7C}{w:a7B}
theorem BR.ext {w':a7B}{S M:Nat->Prop}(h:BR w S sz v n l)(hx:aE w w' M)(hM:∀b,S b->¬M b):BR w' S sz v n l:=by
 refine⟨h.1, ?_⟩;rcases h.2 with h2|⟨b,c,rest,h1,h2,h3,h4,h5⟩
 .exact .inl h2
 .exact .inr ⟨b,c,rest,h1,h2,h3.ext hx (hM b h2),h4,h5⟩
theorem mH.ne {base p:Nat}(h:mH w base sz v n l)(hp:w.heap.size<=p):BR w (λb=>base<=b/\b≠p) sz v n l:=by
 refine⟨h.1, ?_⟩;rcases h.2 with h2|⟨b,c,rest,h1,h2,h3,h4,h5⟩
 .exact .inl h2
 .have:=h3.lt;exact .inr ⟨b,c,rest,h1,⟨h2,by omega⟩,h3,h4,h5⟩
theorem BR.osl {base p:Nat}(h:BR w (λb=>base<=b/\b≠p) sz v n l):mH w base sz v n l:=by
 refine⟨h.1, ?_⟩;rcases h.2 with h2|⟨b,c,rest,h1,h2,h3,h4,h5⟩
 .exact .inl h2
 .exact .inr ⟨b,c,rest,h1,h2.1,h3,h4,h5⟩
theorem BR.len {S:Nat->Prop}(h:BR w S sz v n l):∃a c,v= .slice a n c:=by
 rcases h.2 with⟨h1,rfl⟩|⟨b,c,rest,h1,_⟩
 .exact ⟨_,_,h1⟩
 .exact ⟨_,_,h1⟩
end Go.En
namespace Go.Proofs.YthohephggmkeeaaGreatDoor
open Go Go.En Go.Pu
set_option maxRecDepth 4000
variable{L:List T3}{i n s:Nat}{k:IntKind}{v:a7C}{w w':a7B}{zs:List Int}
theorem OA{S T:Nat->Prop}{sz:Nat}{l:List a7C}(h:BR w S sz v n l)(hT:∀b,S b->b<w.heap.size->T b):BR w T sz v n l:=by
 refine⟨h.1, ?_⟩;rcases h.2 with h2|⟨b,c,rest,h1,h2,h3,h4,h5⟩
 .exact .inl h2
 .exact .inr ⟨b,c,rest,h1,hT b h2 h3.lt,h3,h4,h5⟩
def DJ:a7C:= .slice none 0 0
theorem arA{p pr lo hi:Nat}{cs:List a7C}{l:List UInt8}(o:aT w p cs)(c0:cs[0]?=some (.pointer (some ⟨pr,0,none⟩)))(hr:Is w lo hi pr l 0)(hl:l.length<=1000000)(hn:n<=1000000):
 aL pg yR #[.pointer (some ⟨p,0,none⟩),.int .i64 (n:Nat)] w (λr w'=>(l.length<n/\r= .tuple #[DJ,.int .i64 10]/\w'=w)∨(n<=l.length/\∃v,r= .tuple #[v,.int .i64 0]/\Bs w' v (l.take n)/\AtS v (λb=>lo<=b/\b<hi/\b≠pr)/\Is w' lo hi pr (l.drop n) 0/\aE w w' (λy=>y=pr))):=by
 refine TJ ?_;unfold Nr G7;have c:=o.cell (off:=0);rw[c0]at c;simp(disch:=omega)only[SV,c];refine(EJ hr).mono ?_;rintro r w1 ⟨rfl,h1⟩;rw[h1];clear h1 w1;by_cases h:l.length<n
 .have d1:decide ((n:Int)>(l.length:Int))=true:=decide_eq_true (by omega);have d2:decide ((l.length:Int)<(n:Int))=true:=decide_eq_true (by omega);simp(disch:=omega)only[SV,d1,d2];exact .inl ⟨h,rfl⟩
 .have d1:decide ((n:Int)>(l.length:Int))=false:=decide_eq_false (by omega);have d2:decide ((l.length:Int)<(n:Int))=false:=decide_eq_false (by omega);simp(disch:=omega)only[SV,d1,d2,c];refine(Mn hr (by omega) (by omega)).mono ?_;have ht:gH l 0 n=(l.take n,l.drop n,0):=by unfold gH;rw[if_neg (by decide),if_neg h]
  rw[ht];rintro r w1 ⟨h1,h2,h3,h4⟩;exact .inr ⟨by omega,r,rfl,h1,h2,h3,h4⟩
def gZ:List a7C:=[DJ,.int .i64 0,DJ,.int .i64 0,DJ,.int .i64 0,DJ,.int .u32 0,.int .u32 0,.int .u32 0]
def gL:List a7C:=[DJ,.int .i64 0,DJ,.int .i64 0,DJ,.int .i64 0,DJ,.int .u32 1,.int .u32 4,.int .u32 8]
def gZv:a7C:= .agg #[.slice none 0 0,.int .i64 0,.slice none 0 0,.int .i64 0,.slice none 0 0,.int .i64 0,.slice none 0 0,.int .u32 0,.int .u32 0,.int .u32 0]
def bx(l:List UInt8):Nat:=cG (l.take 3)
def tB(l:List UInt8):Nat:=bx l/2%4
def oM(l:List UInt8):Nat:=bx l/8
def Jc(l:List UInt8):Nat:=if tB l=1 then 1 else oM l
def aC7 (l:List UInt8):List UInt8:=if tB l=1 then List.replicate (oM l) ((l.drop 3).headD 0)else(l.drop 3).take (oM l)
theorem apB{S:Nat->Prop}{x:a7C}{l m:List UInt8}(h:BR w S 1 v l.length (l.map kH))(hx:Bs w x m)(hb:∀b,w.heap.size<=b->S b)(hn:l.length+m.length<=100000000){K:a7C->a7B->Prop}
 (hk:∀v' w',BR w' S 1 v' (l++m).length ((l++m).map kH)->aE w w' S->K v' w'):bF pg (yM .append #[22,22] 22 [v,x]) w K:=by
 have hcl:Cl w 1 x m.length (m.map kH):=by have:=hx.cl;rwa [a1M]at this
 refine Q9 (m:=m.length) (news:=m.map kH) (i:=Tryz.t5) Tryz.underlying22 Tryz.underlying22 T2 rfl rfl rfl h hcl (aKX _) hb (by omega) (by rw[show Tryz.t5.bytes=1 from rfl];omega) (by decide) λv3 w3 o3 x3=> ?_;refine hk v3 w3 ?_ x3;rw[a1O,a2I];exact o3
def m3 (L:List Int):List T3:=L.map λx=>(x,0,0)
theorem aVO(L:List Int)(i:Nat)(h:i<L.length)(x:Int):(m3 L).set i (x,((m3 L)[i]'(by simpa[m3]using h)).2)=m3 (L.set i x):=by
 unfold m3;rw[a6E];simp
theorem aDU{L:List Int}(h:i<L.length)(x:Int):(fe k (m3 L)).set (i*3) (.int k x)=fe k (m3 (L.set i x)):=by
 rw[(axW k (m3 L) i (by simpa[m3]using h) x).1,aVO L i h x]
theorem aD4 (n high s:Nat)(r:List Nat)(a:Nat)(arr:List Int):place n high (s::r) a arr=place n high r (awG n high n (adv n a)) (arr.set a s):=rfl
theorem aGx{ps:List Int}(h:i<ps.length):mU (ps.drop i) i=List.replicate ps[i].toNat i++mU (ps.drop (i+1)) (i+1):=by
 rw[a2J h,mU]
theorem aV9 {w0:a7B}{N high j:Nat}(hN:0<N)(hN2:N<=32768)(hh:0<high)(hhN:high<=N)(hx:aE w0 w aP)
 {ov sv a b c d e:a7C} {k:a7C->a7C->a7C->a7C->a7C->a7C->a7C->a7C->a7C->a7C->a7B->Prop}
 (hk:∃j',awG N high N (adv N (pos N j))=pos N j'/\k (.int .i64 N) ov (.int .i64 high) (.int .i64 (pos N j':Nat)) sv a b c d e w):
 wB k (.int .i64 N) ov (.int .i64 high) (.int .i64 (pos N j:Nat)) sv a b c d e w:=by
 obtain⟨dd,h1,h2,h3⟩:=afZ hN hh (j+1);obtain⟨j',hj',hk⟩:=hk;rw[LW,h3]at hj';rw[<-hj']at hk;unfold wB;refine aN.rule (λm t w'=>∃q:Nat,m=dd-q/\t= .int .i64 (pos N (j+q):Nat)/\q<=dd/\w'=w) dd ⟨0,rfl,rfl,by omega,rfl⟩ ?_;rintro m t w' ⟨q,rfl,rfl,hq,rfl⟩;have hp:=aD6 hN (j+q);have e1:((N:Int)).fdiv (2^(min 1 IntKind.i64.bits))=((N/2:Nat):Int):=by
  have:(2:Int)^(min 1 IntKind.i64.bits)=((2:Nat):Int):=by decide
  rw[this,aDn]
 have e3:((N:Int)).fdiv (2^(min 3 IntKind.i64.bits))=((N/8:Nat):Int):=by
  have:(2:Int)^(min 3 IntKind.i64.bits)=((8:Nat):Int):=by decide
  rw[this,aDn]
 have t1:(1:Int).toNat=1:=rfl;have t3:(3:Int).toNat=3:=rfl;have e4:(((pos N (j+q):Nat):Int)+((N/2:Nat):Int)+((N/8:Nat):Int)+3).tmod (N:Int)=((pos N (j+q+1):Nat):Int):=by
  rw[a2B (by omega),<-LW];unfold adv;simp
 unfold aiS;by_cases hd:q=dd
 .subst hd;have d1:decide (((pos N (j+q+1):Nat):Int)<(high:Int))=true:=by
   simp only[decide_eq_true_eq];rw[show j+1+q=j+q+1 from by omega]at h2;omega
  simp(disch:=omega)only[SV,e1,e3,t1,t3,e4,d1];rw[show j+1+q=j+q+1 from by omega]at hk;exact hk
 .have d1:decide (((pos N (j+q+1):Nat):Int)<(high:Int))=false:=by
   have:=h1 q (by omega);rw[show j+1+q=j+q+1 from by omega]at this;simp only[decide_eq_false_iff_not];omega
  simp(disch:=omega)only[SV,e1,e3,t1,t3,e4,d1];exact⟨dd-(q+1),by omega,q+1,rfl,rfl,by omega⟩
theorem aKh{log:Nat}{sv:a7C}{ps:List Int}(hm:May log ps)(hs:Sl w sv (ps.map (Value.int .i64))):
 aL pg UY #[.agg #[.int .i64 log,sv]] w (λr w'=>∃b,r= .slice (some ⟨b,0,none⟩) (2^log) (2^log)/\w.heap.size<=b/\aT w' b (fe .u8 (m3 (eE 0 log ps)))/\aE w w' aP):=by
 refine aBG ?_;have h5:=hm.log5;have h15:=hm.log15;have hlen:=hm.len256;obtain⟨arr0,ht,hal,hsum,hfin⟩:=aBk hm 0;rw[hfin];have hN1:2^5<=2^log:=a1K (by omega) h5;have hN2:2^log<=2^15:=a1K (by omega) h15;have hsh:IntKind.i64.wrap (1*2^(min log IntKind.i64.bits))=((2^log:Nat):Int):=by
  have:∀k:Fin 16,IntKind.i64.wrap (1*2^(min k.val IntKind.i64.bits))=((2^k.val:Nat):Int):=by decide
  exact this ⟨log,by omega⟩
 clear hfin;generalize hN:2^log=N at*;generalize hhigh:(mU ps 0).length=high at*;unfold aDt Z2 Z1;refine bY λw1 o1 x1 s1=> ?_;have hs1:=hs.ext x1 (aR _);have c0:=o1.cell (off:=0);have c1:=o1.cell (off:=1);simp only[Value.cells,a1A,a1B]at c0 c1;obtain⟨a,c,rfl,hc⟩:=hs.lenI;simp(disch:=omega)only[SV,c0,c1,hsh];refine ayQ (by omega) (by omega) λw2 o2 x2 s2=> ?_;rw[a1H,aNs]at o2;rw[a1H];have o2:aT w2 w1.heap.size (fe .u8 (m3 (List.replicate N 0))):=by unfold m3;rw[a5X];exact o2
 have x02:aE w w2 aP:=x1.seq x2;have ob2:=o1.ext x2 (λh=>h);have c1:=ob2.cell (off:=1);simp only[Value.cells,a1A,a1B]at c1;unfold NW NV Z0 Fk;simp(disch:=omega)only[SV,c1];have hw1:w.heap.size<=w1.heap.size:=x1.size;refine aN.rule (λm t w'=>∃(i hg:Nat) (arr:List Int),m=ps.length-i/\t=(.int .i64 hg,.int .i64 i)/\i<=ps.length/\(rM (ps.drop i) i).length<=hg/\hg<=N/\arr.length=N/\apN (ps.drop i) i hg arr=(high,arr0)/\aT w' w1.heap.size (fe .u8 (m3 arr))/\aE w w' aP/\aT w' w.heap.size (Value.cells (.agg #[.int .i64 log,.slice a ps.length c])).toList) ps.length
  ⟨0,N,_,rfl,rfl,by omega,by rw[a1F];omega,by omega,by simp,by rw[a1F];exact ht,o2,x02,ob2⟩ ?_
 rintro m t w3 ⟨i,hg,arr,rfl,rfl,hi,hng,hgN,harr,htop,o3,x3,ob3⟩;by_cases hlt:i<ps.length
 .have d1:decide ((i:Int)<(ps.length:Int))=true:=by simp;omega
  obtain⟨b',off',c',e,_,hcell⟩:=(hs.ext x3 (aR _)).openI (by omega);cases e;have g1:=hcell i hlt;have hd:ps.drop i=ps[i]::ps.drop (i+1):=a2J hlt;rw[hd,rM]at hng;rw[hd,apN]at htop;unfold NU NT NS;by_cases hp:ps[i]= -1
  .have d2:(ps[i]== -1)=true:=by simpa using hp
   rw[if_pos hp]at hng htop;simp only[a1U]at hng;have e1:(hg:Int)-1=((hg-1:Nat):Int):=by omega
   simp(disch:=omega)only[SV,d1,g1,d2,e1];refine awN o3 rfl (by rw[fR];simp[m3];omega) λw4 o4 x4 s4=> ?_;rw[aDU (by omega)]at o4;exact⟨ps.length-(i+1),by omega,i+1,hg-1,_,rfl,rfl,by omega,by omega,by omega,by simp[harr],htop,o4,x3.new x4 hw1,ob3.ext x4 (by omega)⟩
  .have d2:(ps[i]== -1)=false:=by simpa using hp
   rw[if_neg hp]at hng htop;simp(disch:=omega)only[SV,d1,g1,d2];exact⟨ps.length-(i+1),by omega,i+1,hg,arr,rfl,rfl,by omega,by omega,by omega,harr,htop,o3,x3,ob3⟩
 .have d1:decide ((i:Int)<(ps.length:Int))=false:=by simp;omega
  rw[a3N (by omega),apN]at htop;obtain⟨rfl,rfl⟩:hg=high/\arr=arr0:=by simpa using htop
  have c1:=ob3.cell (off:=1);simp only[Value.cells,a1A,a1B]at c1;unfold NU NT NR ZZ NQ NP ZY Fj;simp(disch:=omega)only[SV,d1,c1];clear d1 hlt hi hng htop;have hbig:aT w3 w1.heap.size (fe .u8 (m3 arr)):=o3;refine aN.rule (λm t w'=>∃(s j:Nat) (ar:List Int),m=ps.length-s/\t=(.int .i64 (pos N j:Nat),.int .i64 s)/\s<=ps.length/\ar.length=N/\place N hg (mU (ps.drop s) s) (pos N j) ar=place N hg (mU ps 0) 0 arr/\(mU (ps.drop s) s).length<=hg/\aT w' w1.heap.size (fe .u8 (m3 ar))/\aE w w' aP) ps.length
   ⟨0,0,arr,rfl,by rw[aaY]<;>rfl,by omega,harr,by rw[aaY,a1F],by rw[a1F,hhigh];exact a1J _,o3,x3⟩ ?_
  rintro m t w4 ⟨s,j,ar,rfl,rfl,hs4,har,hpl,hrl,o4,x4⟩;by_cases hlt:s<ps.length
  .have d1:decide ((s:Int)<(ps.length:Int))=true:=by simp;omega
   obtain⟨b',off',c',e,_,hcell⟩:=(hs.ext x4 (aR _)).openI (by omega);cases e;have g1:=hcell s hlt;obtain⟨q,hq⟩:∃q,q=ps[s].toNat:=⟨_,rfl⟩;have emax:(if(0:Int)>ps[s]then(0:Int)else ps[s])=(q:Int):=by rw[hq];split<;>omega
   rw[aGx hlt,<-hq]at hpl hrl;have hqN:q<=N:=by simp at hrl;omega
   unfold NO NN NM NL ZX NK ZW;simp(disch:=omega)only[SV,d1,g1,emax];unfold Fi;refine aN.rule (λm t w'=>∃(k j:Nat) (ar:List Int),m=q-k/\t=(.int .i64 (pos N j:Nat),.int .i64 k)/\k<=q/\ar.length=N/\place N hg (List.replicate (q-k) s++mU (ps.drop (s+1)) (s+1)) (pos N j) ar=place N hg (mU ps 0) 0 arr/\aT w' w1.heap.size (fe .u8 (m3 ar))/\aE w w' aP) q
    ⟨0,j,ar,rfl,rfl,by omega,har,hpl,o4,x4⟩ ?_
   rintro m t w5 ⟨k,j5,ar5,rfl,rfl,hk,har5,hpl5,o5,x5⟩;by_cases hkq:k<q
   .have d2:decide ((k:Int)<(q:Int))=true:=by simp;omega
    have hp:=aD6 (n:=N) (by omega) j5;have hhg:0<hg:=by simp at hrl;omega
    unfold NJ NI NH Se aiT;simp(disch:=omega)only[SV,d2];refine awN o5 rfl (by rw[fR];simp[m3];omega) λw6 o6 x6 s6=> ?_;rw[aDU (by omega)]at o6;unfold wB;rw[show q-k=(q-(k+1))+1 from by omega,a2S,a4P,aD4]at hpl5;obtain⟨d,_,hd2,hd3⟩:=afZ (n:=N) (high:=hg) (by omega) hhg (j5+1);have hsk:awG N hg N (adv N (pos N j5))=pos N (j5+1+d):=by rw[LW];exact hd3
    refine aV9 (w0:=w) (by omega) hN2 hhg hgN (x5.new x6 hw1) ⟨j5+1+d,hsk, ?_⟩;rw[hsk]at hpl5;unfold Sd;simp(disch:=omega)only[SV];exact⟨q-(k+1),by omega,k+1,j5+1+d,_,rfl,rfl,by omega,by simp[har5],hpl5,o6,x5.new x6 hw1⟩
   .have d2:decide ((k:Int)<(q:Int))=false:=by simp;omega
    rw[show q-k=0 from by omega,List.replicate_zero,a4F]at hpl5;unfold NJ NI Sc;simp(disch:=omega)only[SV,d2];exact⟨ps.length-(s+1),by omega,s+1,j5,ar5,rfl,rfl,by omega,har5,hpl5,by simp at hrl;omega,o5,x5⟩
  .have d1:decide ((s:Int)<(ps.length:Int))=false:=by simp;omega
   rw[a3N (by omega),mU,place]at hpl;unfold NO NN Sb;simp(disch:=omega)only[SV,d1];exact⟨_,rfl,hw1,by rw[<-hpl];exact o4,x4⟩
def Es(log:Nat)(ps S:List Int)(i:Nat):List T3:=(List.range (2^log)).map λj=>if j<i then Nu log ps S j else(S.getD j 0,0,0)
def nxt(ps S:List Int)(i:Nat):List Int:=(List.range ps.length).map λs=>bX (ps.getD s 0)+((S.take i).count (s:Int):Nat)
theorem aMw{log:Nat}{ps S:List Int}(h:S.length=2^log):Es log ps S 0=m3 S:=by
 unfold Es m3;apply a3Y
 .simp [h]
 .intro i h1 h2;simp only[a1M,a6O]at h1;simp only[a3R,a5A,Nat.not_lt_zero,if_false,a1P];rw[a1I (by omega)]<;>rfl
theorem aPC(log:Nat)(ps:List Int):Es log ps (eE 0 log ps) (2^log)=fL log ps:=by
 unfold Es fL;refine a2Y λj hj=> ?_;rw[if_pos (a2U.1 hj)]
theorem Ho(log:Nat)(ps S:List Int)(i:Nat):(Es log ps S i).length=2^log:=by simp[Es]
theorem aPD{log:Nat}{ps S:List Int}(h:i<2^log):(Es log ps S i)[i]'(by rw[Ho];exact h)=(S.getD i 0,0,0):=by
 unfold Es;simp
theorem aPE{log:Nat}{ps S:List Int}(_:i<2^log):(Es log ps S i).set i (Nu log ps S i)=Es log ps S (i+1):=by
 unfold Es;apply a3Y
 .simp
 .intro j h1 h2;rw[a6R];simp only[a3R,a5A];by_cases hij:i=j
  .subst hij;simp
  .rw [if_neg hij];by_cases hj:j<i
   .rw [if_pos hj,if_pos (by omega)]
   .rw [if_neg hj,if_neg (by omega)]
theorem anL(ps S:List Int)(i:Nat):(nxt ps S i).length=ps.length:=by simp[nxt]
theorem aRn(ps S:List Int):nxt ps S 0=ps.map bX:=by
 unfold nxt;apply a3Y
 .simp
 .intro i h1 h2;simp only[a1M,a6O]at h1;simp only[a3R,a5A,a1G,List.count_nil,a1P];rw[a1I h1];simp
theorem aHw{ps S:List Int}(h:s<ps.length):(nxt ps S i)[s]'(by rw[anL];exact h)=bX ps[s]+((S.take i).count (s:Int):Nat):=by
 unfold nxt;simp only[a3R,a5A,a1P];rw[a1I h]<;>rfl
theorem aTy{ps S:List Int}(h:i<S.length)(hs:s<ps.length)(e:S[i]=(s:Int)):(nxt ps S i).set s (bX ps[s]+((S.take i).count (s:Int):Nat)+1)=nxt ps S (i+1):=by
 apply a3Y
 .simp [nxt]
 .intro j h1 h2;have hj:j<ps.length:=by simpa[nxt]using h2
  rw[a6R,aHw hj,aHw hj,a3F,a1I h,a4U];simp only[Option.toList,e,a6W];by_cases hij:s=j
  .subst hij;simp;omega
  .have:((s:Int)==(j:Int))=false:=by simp;omega
   rw[if_neg hij,this];simp
theorem aTP{k b:Nat}(hb:b<=64)(h:k*2^b<=9223372036854775807):IntKind.i64.wrap ((k:Int)*2^(min b IntKind.i64.bits))=((k*2^b:Nat):Int):=by
 have e:min b IntKind.i64.bits=b:=by simp only[IntKind.bits];omega
 rw[e];have:(k:Int)*2^b=((k*2^b:Nat):Int):=by simp
 rw[this];exact dM (by omega) (by omega)
section
variable{log:Nat}{ps S:List Int}{w0 w1:a7B}{p1 p2 p4 b nb N:Nat}{sv:a7C}
theorem aK0 (hm:May log ps)(L:Lay log ps S)(hN:2^log=N)(hlt:i<N){w3:a7B}
 (on3:aT w3 nb ((nxt ps S i).map (Value.int .i64))) (ob3:aT w3 b (fe .u8 (Es log ps S i)))
 (o13:aT w3 p1 [.int .i64 log,sv]) (o43:aT w3 p4 [.int .i64 log,.slice (some ⟨b,0,none⟩) N N])
 (hne:p1≠b/\p4≠b/\nb≠b/\p1≠nb/\p4≠nb) {t2:a7C} {kn:a7C->a7C->a7C->a7C->a7C->a7C->a7B->Prop}
 (hk:∀w',aT w' nb ((nxt ps S (i+1)).map (Value.int .i64))->aT w' b (fe .u8 (Es log ps S (i+1)))->aE w3 w' (λy=>y=nb∨y=b)→
  kn (.pointer (some ⟨p1,0,none⟩)) t2 (.pointer (some ⟨p4,0,none⟩)) (.slice (some ⟨nb,0,none⟩) ps.length ps.length) (.int .i64 N) (.int .i64 ((i+1:Nat):Int)) w'):
 L5 kn (.pointer (some ⟨p1,0,none⟩)) t2 (.pointer (some ⟨p4,0,none⟩)) (.slice (some ⟨nb,0,none⟩) ps.length ps.length) (.int .i64 N) (.int .i64 i) w3:=by
 have h5:=hm.log5;have h15:=hm.log15;have hlen:=hm.len256;have hN2:2^log<=2^15:=a1K (by omega) h15;have hSl:S.length=2^log:=L.len;have c40:=o43.cell (off:=0);have c41:=o43.cell (off:=1);have c10:=o13.cell (off:=0);simp only[a1A,a1B]at c40 c41 c10;have hltN:i<2^log:=by omega
 obtain⟨s,hsl,hsS,hp1,hp2,hk',hcnt⟩:=anD hm L hltN;obtain⟨k,hkk⟩:∃k,k=kAt ps S i:=⟨_,rfl⟩;rw[<-hkk]at hk';have hk2:k<2^(log+1):=by rw[a2O];omega
 obtain⟨eb1,eb2,eb3,eb4⟩:=aDl (log:=log) (k:=k) (by omega) hk2;have hel:i<(Es log ps S i).length:=by rw[Ho];exact hltN
 obtain⟨f0,f1,f2⟩:=ZQ .u8 (Es log ps S i) i hel;rw[aPD hltN]at f0;simp only at f0;rw[hsS]at f0;have g0:=ob3.cell (off:=i*3);rw[f0]at g0;have hnx:((nxt ps S i).map (Value.int .i64))[s]?=some (.int .i64 k):=by
  rw[a2F,a1I (by rw[anL];exact hsl),aHw hsl,hk'];simp;omega
 have gn:=on3.cell (off:=s);rw[hnx]at gn;have hkb:k<131072:=by
  have:2^(log+1)<=2^16:=a1K (by omega) (by omega);omega
 have hpn:=mD (hm.low _ (a2P hsl));have hSi:S[i]'(by omega)=(s:Int):=by rw[<-hsS,a1P,a1I (by omega)]<;>rfl
 have hns:=aTy (ps:=ps) (S:=S) (i:=i) (s:=s) (by omega) hsl hSi;have hkv:bX ps[s]+((S.take i).count (s:Int):Nat)+1=(k:Int)+1:=by rw[hk'];omega
 rw[hkv]at hns;have hent:Nu log ps S i=Dx log (s:Int) k:=by unfold Nu;rw[hsS,<-hkk]
 have hes:=aPE (log:=log) (ps:=ps) (S:=S) (i:=i) hltN;rw[hent]at hes;have hE0:(Es log ps S i)[i]'hel=((s:Int),0,0):=by rw[aPD hltN,hsS]
 clear hkk hcnt;unfold L5 VE arH;simp(disch:=omega)only[SV,c41,g0,gn];refine eZ on3 rfl (by simp[anL];omega) λw4 on4 x4 s4=> ?_;rw[<-a6E,hns]at on4;unfold VD arG;have o14:=aH (o13.ext x4 (by omega));have o44:=o43.ext x4 (by omega);have ob4:=ob3.ext x4 (by omega);have c10:=o14.cell (off:=0);simp only[a1A]at c10;simp(disch:=omega)only[SV,c10];refine(aJq k (by omega) _).mono ?_;rintro r w5 ⟨rfl,rfl⟩;obtain⟨nbits,hnbits⟩:∃x,x=log+1-bl k:=⟨_,rfl⟩;have e2:(log:Int)-(bl k:Int)+1=(nbits:Int):=by omega
 have e3:IntKind.i64.wrap ((log:Int)-(bl k:Int))=(log:Int)-(bl k:Int):=dM (by omega) (by omega);simp(disch:=omega)only[SV,c10,e3,e2];have ob4:=aH ob4;refine eZ ob4 rfl (by rw[fR,Ho];omega) λw5 ob5 x5 s5=> ?_;rw[(axW .u8 (Es log ps S i) i hel _).2.1,hE0]at ob5;unfold VC;have o45:=aH ((aH o44).ext x5 (by omega));have ob5:=aH ob5;have on5:=aH ((aH on4).ext x5 (by omega));have c41:=o45.cell (off:=1);simp only[a1A,a1B]at c41;have hel5:i<((Es log ps S i).set i ((s:Int),(nbits:Int),0)).length:=by simpa using hel
 obtain⟨-,f1,-⟩:=ZQ .u8 _ i hel5;simp only[a6D]at f1;have g1:=ob5.cell (off:=i*3+1);rw[f1]at g1;have hnb2:k*2^nbits<=2^16:=by
  rw[hnbits];have:2^(log+1)<=2^16:=a1K (by omega) (by omega);have:=a2V (2^(log+1-bl k)) (show k<=k+1 by omega);omega
 have e4:=aTP (k:=k) (b:=nbits) (by omega) (by omega);have e5:(((k*2^nbits:Nat):Int)-(N:Int))=(Dx log (s:Int) k).2.2:=by
  unfold Dx;simp only;rw[<-hnbits,<-hN];simp
 have e6:IntKind.i64.wrap (((k*2^nbits:Nat):Int)-(N:Int))=((k*2^nbits:Nat):Int)-(N:Int):=dM (by omega) (by omega);rw[e5]at e6;have e7:(Dx log (s:Int) k)=((s:Int),(nbits:Int),(Dx log (s:Int) k).2.2):=by unfold Dx;rw[hnbits]
 generalize hq:k*2^nbits=q at*;generalize hbase:(Dx log (s:Int) k).2.2=base at*;simp(disch:=omega)only[SV,c41,g1,e4,e5,e6];refine eZ ob5 rfl (by rw[fR];simp[Ho];omega) λw6 ob6 x6 s6=> ?_;rw[(axW .u8 _ i hel5 _).2.2]at ob6;simp only[a6D,List.set_set]at ob6;rw[<-e7,hes]at ob6;have xx:aE w3 w6 (λy=>y=nb∨y=b):=
  ((((x4.mono λ_ _ h=> .inl h:aE w3 w4 (λy=>y=nb∨y=b)).seq (aE.dr _ _)).seq (x5.mono λ_ _ h=> .inr h)).seq (aE.dr _ _)).seq (x6.mono λ_ _ h=> .inr h)
 unfold VB;simp(disch:=omega)only[SV];exact hk _ (on5.ext x6 (by omega)) ob6 xx
theorem aOa(hm:May log ps)(L:Lay log ps S)(hN:2^log=N){w3:a7B}
 (on3:aT w3 nb ((nxt ps S 0).map (Value.int .i64))) (ob3:aT w3 b (fe .u8 (m3 S)))
 (o13:aT w3 p1 [.int .i64 log,sv]) (o23:aT w3 p2 [.int .i64 0,.slice none 0 0]) (o43:aT w3 p4 [.int .i64 log,.slice (some ⟨b,0,none⟩) N N])
 (hne:p1≠b/\p4≠b/\nb≠b/\p1≠nb/\p4≠nb/\p2≠b/\p2≠nb) (hlo:w0.heap.size<=p2/\w0.heap.size<=b/\w0.heap.size<=nb) (hx:aE w0 w3 aP) {R:a7C->a7B->Prop}
 (hR:∀w',aT w' b (fe .u8 (Es log ps S N))->aE w0 w' aP->R (.tuple #[.agg #[.int .i64 log,.slice (some ⟨b,0,none⟩) N N],.int .i64 0]) w'):
 Iz R (.pointer (some ⟨p1,0,none⟩)) (.pointer (some ⟨p2,0,none⟩)) (.pointer (some ⟨p4,0,none⟩)) (.slice (some ⟨nb,0,none⟩) ps.length ps.length) w3:=by
 have hN2:2^log<=2^15:=a1K (by omega) hm.log15;have c41:=o43.cell (off:=1);simp only[a1A,a1B]at c41;unfold Iz R5 aiP Iy;simp(disch:=omega)only[SV,c41];have ob0:aT w3 b (fe .u8 (Es log ps S 0)):=by rw[aMw L.len];exact ob3
 refine aN.rule (λm t w'=>∃i:Nat,m=N-i/\t= .int .i64 i/\i<=N/\aT w' nb ((nxt ps S i).map (Value.int .i64))/\aT w' b (fe .u8 (Es log ps S i))/\aE w3 w' (λy=>y=nb∨y=b)) N
  ⟨0,rfl,rfl,by omega,on3,ob0,aE.refl _ _⟩ ?_
 rintro m t w4 ⟨i,rfl,rfl,hi,on4,ob4,x4⟩;unfold aiO aiN;have o44:=o43.ext x4 (by omega);have o24:=o23.ext x4 (by omega);by_cases hlt:i<N
 .have d1:decide ((i:Int)<(N:Int))=true:=by simp only[decide_eq_true_eq];omega
  simp(disch:=omega)only[SV,d1];refine aK0 hm L hN hlt on4 ob4 (o13.ext x4 (by omega)) o44 ⟨hne.1,hne.2.1,hne.2.2.1,hne.2.2.2.1,hne.2.2.2.2.1⟩ λw5 on5 ob5 x5=> ?_;exact⟨N-(i+1),by omega,i+1,rfl,rfl,by omega,on5,ob5,x4.trans x5 (λ_ _ h=>h)⟩
 .have d1:decide ((i:Int)<(N:Int))=false:=by simp only[decide_eq_false_iff_not];omega
  have:i=N:=by omega
  subst this;have l4:=dX (off:=0) o44 (by simp);simp only[a1F,a1C,a1G]at l4;simp(disch:=omega)only[SV,d1];unfold VA;simp(disch:=omega)only[SV,l4];refine cY o24 rfl (by simp[one]) (by simp) λw5 o25 x5 s5=> ?_;refine wD o25 (by simp[aF]) ?_;simp only[aF,a1E,a1D,a1F,a1C,a1G];exact hR _ (ob4.ext x5 (by omega)) ((hx.trans x4 (λy hy hh=>by omega)).new x5 hlo.1)
theorem aKZ(hm:May log ps)(L:Lay log ps S)(hN:2^log=N)(hs:Sl w0 sv (ps.map (Value.int .i64)))
 (o1:aT w p1 [.int .i64 log,sv]) (o2:aT w p2 [.int .i64 0,.slice none 0 0]) (o4:aT w p4 [.int .i64 log,.slice (some ⟨b,0,none⟩) N N]) (ob:aT w b (fe .u8 (m3 S)))
 (hlo:w0.heap.size<=p2/\w0.heap.size<=b) (hne:p1≠b/\p2≠b/\p4≠b) (hx:aE w0 w aP) {R:a7C->a7B->Prop}
 (hR:∀w',aT w' b (fe .u8 (Es log ps S N))->aE w0 w' aP->R (.tuple #[.agg #[.int .i64 log,.slice (some ⟨b,0,none⟩) N N],.int .i64 0]) w'):
 BA R (.pointer (some ⟨p1,0,none⟩)) (.pointer (some ⟨p2,0,none⟩)) (.pointer (some ⟨p4,0,none⟩)) w:=by
 have hlen:=hm.len256;have hN2:2^log<=2^15:=a1K (by omega) hm.log15;obtain⟨a,c,rfl,hc⟩:=hs.lenI;have c1:=o1.cell (off:=1);simp only[a1A,a1B]at c1;unfold BA aiR;simp(disch:=omega)only[SV,c1];refine aOw (by omega) (by omega) λw1 on x1 s1=> ?_;rw[a1H]at on⊢;have l1:=o1.lt;have l2:=o2.lt;have l4:=o4.lt;have lb:=ob.lt;have o1:=o1.ext x1 (λh=>h);have o2:=o2.ext x1 (λh=>h);have o4:=o4.ext x1 (λh=>h);have ob:=ob.ext x1 (λh=>h);have x01:=hx.seq x1;have c1:=o1.cell (off:=1);simp only[a1A,a1B]at c1;have hwn:w0.heap.size<=w.heap.size:=hx.size;generalize w.heap.size=nb at*;unfold R8 R7 aiQ IA;simp(disch:=omega)only[SV,c1];refine aN.rule (λm t w'=>∃i:Nat,m=ps.length-i/\t= .int .i64 i/\i<=ps.length/\aT w' nb (((ps.take i).map bX++List.replicate (ps.length-i) 0).map (Value.int .i64))/\aE w0 w' aP/\aE w1 w' (λy=>y=nb)) ps.length
  ⟨0,rfl,rfl,by omega,by simpa using on,x01,aE.refl _ _⟩ ?_
 rintro m t w2 ⟨i,rfl,rfl,hi,on2,x2,y2⟩;by_cases hlt:i<ps.length
 .have d1:decide ((i:Int)<(ps.length:Int))=true:=by simp;omega
  obtain⟨b',off',c',e,_,hcell⟩:=(hs.ext x2 (aR _)).openI (by omega);cases e;have g1:=hcell i hlt;have hp:=hm.low _ (a2P hlt);have hple:=aD2 hm hlt;have hpv:bX ps[i]=ps[i]∨ps[i]= -1:=by unfold bX;split<;>omega
  have hpn:=mD hp;have emax:(if(0-ps[i])>ps[i]then(0-ps[i])else ps[i])=bX ps[i]:=by unfold bX;split<;>split<;>omega
  unfold R6;simp(disch:=omega)only[SV,d1,g1,aRF,emax];refine eZ on2 rfl (by simp;omega) λw3 on3 x3 s3=> ?_;refine⟨ps.length-(i+1),by omega,i+1,rfl,rfl,by omega, ?_,x2.new x3 hwn,y2.trans x3 (λ_ _ h=>h)⟩;rw[<-a6E]at on3;have e:((ps.take i).map bX++List.replicate (ps.length-i) 0).set i (bX ps[i])=(ps.take (i+1)).map bX++List.replicate (ps.length-(i+1)) 0:=by
   rw[show ps.length-i=(ps.length-(i+1))+1 from by omega,a2S,a3H _ _ (by rw[a1M,a1N];omega)];have:i-((ps.take i).map bX).length=0:=by rw[a1M,a1N];omega
   rw[this,a1E,a3F,a1I hlt,a2I,a2R];rfl
  rw[e]at on3;exact on3
 .have d1:decide ((i:Int)<(ps.length:Int))=false:=by simp;omega
  have:i=ps.length:=by omega
  subst this;have on2:aT w2 nb ((nxt ps S 0).map (Value.int .i64)):=by rw[aRn];simpa using on2
  unfold R6;simp(disch:=omega)only[SV,d1];exact aOa hm L hN on2 (ob.ext y2 (by omega)) (o1.ext y2 (by omega)) (o2.ext y2 (by omega)) (o4.ext y2 (by omega)) (by omega) (by omega) x2 hR
def Tbl(w:a7B)(base b log:Nat)(L:List T3)(v:a7C):Prop:=v= .agg #[.int .i64 log,.slice (some ⟨b,0,none⟩) L.length L.length]/\base<=b/\aT w b (fe .u8 L)
theorem aNk{log most:Nat}{ps:List Int}(h:May log ps)(hl:log<=most):Vu log ps most=0:=by
 unfold Vu;rw[h.b];simp;omega
theorem aGV(hm:May log ps)(hs:Sl w sv (ps.map (Value.int .i64))):
 aL pg Qb #[.agg #[.int .i64 log,sv]] w (λr w'=>∃b v,r= .tuple #[v,.int .i64 0]/\Tbl w' w.heap.size b log (fL log ps) v/\aE w w' aP):=by
 refine ZV ?_;have hlen:=hm.len256;unfold axZ Sa R9;refine bY λw1 o1 x1 s1=> ?_;refine gK λw2 o2 x2 s2=> ?_;have o1:=o1.ext x2 (λh=>h);have l1:=fP (off:=0) o1 (by simp[Value.cells]);simp only[Value.cells,a1F,a1C,a1G]at l1;simp(disch:=omega)only[SV,l1];refine(aNi (most:=15) ((hs.ext x1 (aR _)).ext x2 (aR _)) (by omega)).mono ?_;rintro r w3 ⟨rfl,x3⟩;have hce:=aNk (most:=15) hm hm.log15;rw[show(((15:Nat):Int))=15 from rfl]at hce;rw[hce];have e0:((0:Int) !=0)=false:=rfl;have x03:aE w w3 aP:=(x1.seq x2).seq x3;have o1:=aH (o1.ext x3 (λh=>h));have o2:=aH (o2.ext x3 (λh=>h));have c0:=o1.cell (off:=0);simp only[Value.cells,a1A]at c0;have l1:=fP (off:=0) o1 (by simp[Value.cells]);simp only[Value.cells,a1F,a1C,a1G]at l1;have hz2:=o2.lt
 have fin:∀{b p4:Nat} {w':a7B},aT w' w.heap.size [.int .i64 log,sv]->aT w' w1.heap.size [.int .i64 0,.slice none 0 0]->aT w' p4 [.int .i64 log,.slice (some ⟨b,0,none⟩) (2^log) (2^log)]->aT w' b (fe .u8 (m3 (eE 0 log ps)))->w2.heap.size<=b->p4≠b->aE w w' aP→
     BA (λr w'=>∃b v,r= .tuple #[v,.int .i64 0]/\Tbl w' w.heap.size b log (fL log ps) v/\aE w w' aP) (.pointer (some ⟨w.heap.size,0,none⟩)) (.pointer (some ⟨w1.heap.size,0,none⟩)) (.pointer (some ⟨p4,0,none⟩)) w':=by
  intro b p4 w' h1 h2 h3 h4 h5 h6 h7;refine aKZ hm (C9 hm 0) rfl hs h1 h2 h3 h4 (by omega) (by omega) h7 λw'' ho hx=> ?_;rw[aPC]at ho;exact⟨b,_,rfl,⟨by rw[eN],by omega,ho⟩,hx⟩
 simp(disch:=omega)only[SV,e0];have hdr:(dr w3).heap.size=w3.heap.size:=rfl;have h23:=x3.size;refine Td ?_ ?_
 .simp (disch:=omega)only[SV,c0,l1];refine(aKh hm ((hs.ext x03 (aR _)).dr)).mono ?_;rintro r w4 ⟨b,rfl,hb,ob,x4⟩;have o1:=o1.ext x4 (λh=>h);have c0:=o1.cell (off:=0);simp only[Value.cells,a1A]at c0;simp(disch:=omega)only[SV,c0,l1];refine gK λw5 o5 x5 s5=> ?_;have o1:=o1.ext x5 (λh=>h);have c0:=o1.cell (off:=0);simp only[Value.cells,a1A]at c0;simp(disch:=omega)only[SV,c0];have hlb:=ob.lt;refine cY o5 rfl (by simp[one]) (by simp) λw6 o6 x6 s6=> ?_;have h45:=x4.size;refine fin (o1.ext x6 (by omega)) (((o2.ext x4 (λh=>h)).ext x5 (λh=>h)).ext x6 (by omega)) o6 ((ob.ext x5 (λh=>h)).ext x6 (by omega)) (by omega) (by omega) ?_;exact(((x03.seq (aE.dr _ _)).seq x4).seq x5).new x6 (by omega)
 .simp (disch:=omega)only[SV,c0,l1];refine gK λw4 o4 x4 s4=> ?_;have o1:=o1.ext x4 (λh=>h);have c0:=o1.cell (off:=0);simp only[Value.cells,a1A]at c0;have l1:=fP (off:=0) o1 (by simp[Value.cells]);simp only[Value.cells,a1F,a1C,a1G]at l1;simp(disch:=omega)only[SV,c0,l1];refine(aKh hm ((((hs.ext x03 (aR _)).dr).ext x4 (aR _)))).mono ?_;rintro r w5 ⟨b,rfl,hb,ob,x5⟩;have o1:=o1.ext x5 (λh=>h);have c0:=o1.cell (off:=0);simp only[Value.cells,a1A]at c0;simp(disch:=omega)only[SV,c0];refine cY (o4.ext x5 (λh=>h)) rfl (by simp[one]) (by simp) λw6 o6 x6 s6=> ?_;refine fin (o1.ext x6 (by omega)) (((o2.ext x4 (λh=>h)).ext x5 (λh=>h)).ext x6 (by omega)) o6 (ob.ext x6 (by omega)) (by omega) (by omega) ?_;exact(((x03.seq (aE.dr _ _)).seq x4).seq x5).new x6 (by omega)
theorem aOb{log:Int}(hm:aaL log ps=false)(hs:Sl w sv (ps.map (Value.int .i64)))(hl:ps.length<=9223372036854775807):
 aL pg Qb #[.agg #[.int .i64 log,sv]] w (λr w'=>r= .tuple #[.agg #[.int .i64 0,.slice none 0 0],.int .i64 1]/\aE w w' aP):=by
 refine ZV ?_;unfold axZ Sa R9;refine bY λw1 o1 x1 s1=> ?_;refine gK λw2 o2 x2 s2=> ?_;have o1:=o1.ext x2 (λh=>h);have l1:=fP (off:=0) o1 (by simp[Value.cells]);simp only[Value.cells,a1F,a1C,a1G]at l1;simp(disch:=omega)only[SV,l1];refine(aNi (most:=15) ((hs.ext x1 (aR _)).ext x2 (aR _)) (by omega)).mono ?_;rintro r w3 ⟨rfl,x3⟩;have hce:Vu log ps 15=1:=by unfold Vu;rw[hm]<;>rfl
 rw[hce];have e0:((1:Int) !=0)=true:=rfl;simp(disch:=omega)only[SV,e0];refine cY (o2.ext x3 (λh=>h)) rfl (by simp[one]) (by simp) λw6 o6 x6 s6=> ?_;refine wD o6 (by simp[aF]) ⟨rfl, ?_⟩;exact((x1.seq x2).seq x3).new x6 (by omega)
end
theorem Tbl.ext {base b log:Nat}{M:Nat->Prop}(h:Tbl w base b log L v)(hx:aE w w' M)(hM:¬M b):Tbl w' base b log L v:=⟨h.1,h.2.1,h.2.2.ext hx hM⟩
theorem aG4 (h:i<L.length):((fe k L).drop (i*3)).take 3=[.int k L[i].1,.int .i64 L[i].2.1,.int .i64 L[i].2.2]:=by
 obtain⟨h0,h1,h2⟩:=ZQ k L i h;apply a4C;intro j
 match j with
 |0=>rw[a2L (by omega),a4I];exact h0
 |1=>rw[a2L (by omega),a4I];exact h1
 |2=>rw[a2L (by omega),a4I];exact h2
 |j+3=>rw[a1X (by rw[a1N];omega),a1X (by simp)]
theorem aC9 (log:Nat)(ps:List Int)(h:i<2^log):((fL log ps)[i]'(by rw[eN];exact h)).1=(eE 0 log ps).getD i 0:=by
 unfold fL Nu Dx;simp
def cn(S:List Int)(i:Nat):List Int:=(List.range 256).map λ(s:Nat)=>(((S.take i).count (s:Int):Nat):Int)
theorem axP(S:List Int)(i:Nat):(cn S i).length=256:=by simp[cn]
theorem aS8 (S:List Int):cn S 0=List.replicate 256 0:=by
 unfold cn;apply a3Y
 .simp
 .intro i h1 h2;simp only[a3R,a5A,a1G,List.count_nil,List.getElem_replicate];rfl
theorem aK6 {S:List Int}(h:s<256):(cn S i)[s]'(by rw[axP];exact h)=(((S.take i).count (s:Int):Nat):Int):=by simp[cn]
theorem aVj{S:List Int}(hi:i<S.length)(hs:s<256)(e:S[i]=(s:Int)):(cn S i).set s ((((S.take i).count (s:Int):Nat):Int)+1)=cn S (i+1):=by
 apply a3Y
 .simp [cn]
 .intro j h1 h2;have hj:j<256:=by simpa[cn]using h2
  rw[a6R,aK6 hj,aK6 hj,a3F,a1I hi,a4U];simp only[Option.toList,e,a6W];by_cases hij:s=j
  .subst hij;simp
  .have:((s:Int)==(j:Int))=false:=by simp;omega
   rw[if_neg hij,this];simp
theorem Vz{e:T3}(h:L[i]?=some e):(fe k L)[i*3]?=some (.int k e.1)/\(fe k L)[i*3+1]?=some (.int .i64 e.2.1)/\(fe k L)[i*3+2]?=some (.int .i64 e.2.2):=by
 have hi:i<L.length:=by
  rcases a1Y i L.length with h'|h'
  .exact h'
  .rw [a1X h']at h;cases h
 rw[a1I hi]at h;have:=ZQ k L i hi;rw[a1Z h]at this;exact this
def Low(L:List T3):Prop:=∀e∈L,∃n:Nat,e.2.1=(n:Int)/\n<=20/\0<=e.2.2/\e.2.2<=100000
theorem aDa{log:Nat}{ps:List Int}(hm:May log ps):Low (fL log ps):=by
 intro e he;obtain⟨i,hi',rfl⟩:=a4K he;have hi:=hi';rw[eN]at hi;have hat:=axN (ps:=ps) hi;rw[a1I hi']at hat;rw[a1Z hat];have L:=C9 hm 0;obtain⟨s,hs,hg,hp1,hp2,hk,hc⟩:=anD hm L hi;have hk2:kAt ps (eE 0 log ps) i<2^(log+1):=by rw[a2O];omega
 obtain⟨e1,e2,e3,e4⟩:=aDl (log:=log) (k:=kAt ps (eE 0 log ps) i) (by omega) hk2;have h15:=hm.log15;have hb:2^(log+1)<=2^16:=a1K (by omega) (by omega);have hpow:((2^log:Nat):Int)=(2:Int)^log:=by simp
 unfold Nu Dx;rw[<-hpow];rw[a7A]at e2;have hA:=a3K (a3K (Nat.le_add_right _ _) e2) hb;generalize hX:kAt ps (eE 0 log ps) i*2^(log+1-bl (kAt ps (eE 0 log ps) i))=X at*;refine⟨_,rfl,by omega, ?_, ?_⟩
 .show (0:Int)<=(X:Int)-((2^log:Nat):Int);omega
 .show (X:Int)-((2^log:Nat):Int)<=100000;omega
theorem aXI(s:Int)(w:a7B):aL pg axF #[.int .u8 s] w (λr w'=>∃b,Tbl w' w.heap.size b 0 [(s,0,0)] r/\aE w w' aP):=by
 refine aG6 ?_;unfold aNv aDr;refine gK λw1 o1 x1 s1=> ?_;simp(disch:=omega)only[SV];refine aBz (cells:= #[.int .u8 s,.int .i64 0,.int .i64 0]) (by decide) (by decide) (by kernel_rfl) λw2 o2 x2 s2=> ?_;simp(disch:=omega)only[SV];have l1:=o1.lt;refine cY (o1.ext x2 (λh=>h)) rfl (by simp[one]) (by simp) λw3 o3 x3 s3=> ?_;refine wD o3 (by simp[aF]) ?_;simp only[aF,a1E,a1D,a1F,a1C,a1G];exact⟨w1.heap.size,⟨rfl,by omega,o2.ext x3 (by omega)⟩,(x1.seq x2).new x3 (a1J _)⟩
abbrev aFf(w:a7B)(g:Nat)(zs:List Int):Prop:=∀i (h:i<zs.length),w.cell? ⟨g,i,none⟩=some (.int .i64 zs[i])
theorem aFf.ext {g:Nat}{M:Nat->Prop}(h:aFf w g zs)(x:aE w w' M)(hM:¬M g):aFf w' g zs:=λi hi=>by
 have hc:=h i hi;have hg:g<w.heap.size:=by
  rcases a1Y g w.heap.size with h|h
  .exact h
  .unfold World.cell? at hc;rw[a6A h]at hc;cases hc
 rw[<-hc];unfold World.cell?;rw[x.keep g hg hM]
theorem aFf.ld {g:Nat}(h:aFf w g zs):∀j,j<(zs.map (Value.int .i64)).length->w.cell? ⟨g,0+j,none⟩=(zs.map (Value.int .i64))[j]?:=λj hj=>by
 rw[a1M]at hj;rw[a1Q,h j hj,a2F,a1I hj]<;>rfl
theorem Z3 (zs:List Int)(i:Nat)(h:i<zs.length):zs.getD i 0=zs[i]:=by
 rw[a1P,a1I h]<;>rfl
theorem aL7 (xs cs:List a7C)(h:cs.length=xs.length):aF cs 0 xs=xs:=by
 have:=S5 xs [] cs (by omega);rw[a4F,a3N (by omega),a4M,a4F]at this;exact this
theorem Zu{b:Nat}(o:aT w b (zs.map (Value.int .i64)))(h:zs.length=n):Sl w (.slice (some ⟨b,0,none⟩) n n) (zs.map (Value.int .i64)):=by
 refine⟨_,_,_,rfl,by rw[a1M,h],a1J _,λ_=>⟨_,_,rfl,λi hi=> ?_⟩⟩;rw[o.cell,a1Q]
theorem PG(zs:List Int)(n:Nat)(hz:zs.length=n)(cs:List a7C)(h:cs.length=n):aF cs 0 (zs.map (Value.int .i64))=zs.map (Value.int .i64):=aL7 _ cs (by rw[h,a1M,hz])
theorem aaB(zs:List Int):∀x∈(zs.map (Value.int .i64)).toArray.toList,one x=true:=λx hx=>by
 rw[a4W]at hx;obtain⟨z,_,rfl⟩:=a4J.1 hx;rfl
def zCL:List Int:=[1,1,1,1,2,2,3,3,4,6,7,8,9,10,11,12,13,14,15,16]
def zCM:List Int:=[1,1,1,1,2,2,3,3,4,4,5,7,8,9,10,11,12,13,14,15,16]
def zTL:List Int:=[4,3,2,2,2,2,2,2,2,2,2,2,2,1,1,1,2,2,2,2,2,2,2,2,2,3,2,1,1,1,1,1,-1,-1,-1,-1]
def zTO:List Int:=[1,1,1,1,1,1,2,2,2,1,1,1,1,1,1,1,1,1,1,1,1,1,1,1,-1,-1,-1,-1,-1]
def zTM:List Int:=[1,4,3,2,2,2,2,2,2,1,1,1,1,1,1,1,1,1,1,1,1,1,1,1,1,1,1,1,1,1,1,1,1,1,1,1,1,1,1,1,1,1,1,1,1,1,-1,-1,-1,-1,-1,-1,-1]
structure tY(w:a7B):Prop where
 cl:aFf w 0 zCL
 cm:aFf w 1 zCM
 tl:aFf w 2 zTL
 to:aFf w 3 zTO
 tm:aFf w 4 zTM
theorem tY.ext (h:tY w)(x:aE w w' aP):tY w':=
 ⟨h.cl.ext x (λh=>h),h.cm.ext x (λh=>h),h.tl.ext x (λh=>h),h.to.ext x (λh=>h),h.tm.ext x (λh=>h)⟩
def aJ6 (a:Int):Int:=if a=0 then 16 else if a=2 then 32 else 0
def aV7 (a:Int):Int:=if a=2 then 3 else 0
def aFw(a:Int):List Int:=if a=0 then zCL else if a=2 then zCM else[]
def tZ(a:Int):Int:=if a=0 then 35 else if a=1 then 31 else if a=2 then 52 else-1
theorem aUN{a:Int}(hg:tY w):
 aL pg Zc #[.int .i64 a] w (λr w'=>∃v,r= .tuple #[.int .i64 (aJ6 a),.int .u32 (aV7 a),v]/\Sl w' v ((aFw a).map (Value.int .i64))/\aE w w' aP):=by
 refine aDe ?_;unfold aFU aqW aJ6 aV7 aFw;by_cases h0:a=0
 .subst h0;have n1:((0:Int)==0)=true:=rfl;have l1:=aHl (b:=0) (off:=0) (l:=zCL.map (Value.int .i64)) rfl hg.cl.ld;simp(disch:=omega)only[SV,n1,l1];refine aIw λw2 o2 x2 s2=> ?_;refine aHR o2 rfl (aaB _) (by simp) λw3 o3 x3 s3=> ?_;have o3:aT w3 w.heap.size (zCL.map (Value.int .i64)):=by
   rw[a4W,PG zCL 20 rfl]at o3
   .exact o3
   .rfl
  have x13:aE w w3 aP:=x2.new x3 (by omega);have hsh:lQ ⟨w.heap.size,0,none⟩ 20 0 1=⟨w.heap.size,0,none⟩:=sI (by decide);simp(disch:=omega)only[SV,hsh];exact⟨_,rfl,Zu (aH o3) rfl,x13.seq (aE.dr _ _)⟩
 .rw [if_neg h0,if_neg h0];have n1:(a==0)=false:=beq_eq_false_iff_ne.2 h0;by_cases h2:a=2
  .subst h2;have n2:((2:Int)==2)=true:=rfl;have l1:=aHm (b:=1) (off:=0) (l:=zCM.map (Value.int .i64)) rfl hg.cm.ld;simp(disch:=omega)only[SV,n1,n2,l1];refine aIx λw2 o2 x2 s2=> ?_;refine aHS o2 rfl (aaB _) (by simp) λw3 o3 x3 s3=> ?_;have o3:aT w3 w.heap.size (zCM.map (Value.int .i64)):=by
    rw[a4W,PG zCM 21 rfl]at o3
    .exact o3
    .rfl
   have x13:aE w w3 aP:=x2.new x3 (by omega);have hsh:lQ ⟨w.heap.size,0,none⟩ 21 0 1=⟨w.heap.size,0,none⟩:=sI (by decide);simp(disch:=omega)only[SV,hsh];exact⟨_,rfl,Zu (aH o3) rfl,x13.seq (aE.dr _ _)⟩
  .rw [if_neg h2,if_neg h2,if_neg h2];have n2:(a==2)=false:=beq_eq_false_iff_ne.2 h2;simp(disch:=omega)only[SV,n1,n2];exact⟨_,rfl,Sl.nil _,aE.refl _ _⟩
theorem aQ5 {a:Int}(hg:tY w):
 aL pg UU #[.int .i64 a] w (λr w'=>r= .int .i64 (tZ a)/\aE w w' aP):=by
 refine aBB ?_;unfold aDc ahU;by_cases h1:a=1
 .subst h1;have n1:((1:Int)==1)=true:=rfl;simp(disch:=omega)only[SV,n1];exact⟨rfl,aE.refl _ _⟩
 have n1:(a==1)=false:=beq_eq_false_iff_ne.2 h1;simp(disch:=omega)only[SV,n1];refine(aUN hg).mono ?_;rintro r w1 ⟨v,rfl,hs,x1⟩;obtain⟨av,cv,rfl,_⟩:=hs.lenI;have e:aJ6 a+((aFw a).length:Int)-1=tZ a/\ -10<=aJ6 a/\aJ6 a<=100/\(aFw a).length<=100:=by
  unfold aJ6 aFw tZ;by_cases h0:a=0
  .subst h0;exact⟨rfl,by decide,by decide,by decide⟩
  .by_cases h2:a=2
   .subst h2;exact⟨rfl,by decide,by decide,by decide⟩
   .simp [h0,h1,h2]
 obtain⟨e1,e2,e3,e4⟩:=e;generalize aJ6 a=p at*;generalize(aFw a).length=q at*;simp(disch:=omega)only[SV,e1];exact x1
end Go.Proofs.YthohephggmkeeaaGreatDoor
namespace Go.Pu
open Go Go.En
variable{c k:Nat}
def RQ(k:Nat):Nat:=if k=0 then 16 else 32
def aqO(k:Nat):Nat:=if k=2 then 3 else 0
theorem aGX(h:k=0∨k=2):RQ k<oA k/\oA k<=53:=by rcases h with rfl|rfl<;>decide
theorem aVg(h:k=0∨k=2)(hc:c<RQ k):(vQ k).getD c 0=aqO k+c/\(jU k).getD c 0=0:=by
 have h0:∀c,c<32->c<RQ 0->(vQ 0).getD c 0=aqO 0+c/\(jU 0).getD c 0=0:=by decide+kernel
 have h2:∀c,c<32->c<RQ 2->(vQ 2).getD c 0=aqO 2+c/\(jU 2).getD c 0=0:=by decide+kernel
 have h32:RQ k<=32:=by rcases h with rfl|rfl<;>decide
 rcases h with rfl|rfl
 .exact h0 c (by omega) hc
 .exact h2 c (by omega) hc
theorem aYT(h:k=0∨k=2):(vQ k).getD (RQ k) 0=aqO k+RQ k:=by rcases h with rfl|rfl<;>decide
theorem aYS(hc:c<32):(vQ 1).getD c 0=2^c/\(jU 1).getD c 0=c:=by
 have h0:∀c,c<32->(vQ 1).getD c 0=2^c/\(jU 1).getD c 0=c:=by decide+kernel
 exact h0 c hc
def eS(k:Nat):Nat->Nat
 |0=>(vQ k).getD (RQ k) 0
 |i+1=>eS k i+2^((jU k).getD (RQ k+i) 0)
theorem aQG(h:k<3):∀i,RQ k+i<oA k->eS k i=(vQ k).getD (RQ k+i) 0
 |0,_=>rfl
 |i+1,hi=>by
  rw[eS,aQG h i (by omega),<-a4E,aFR h _ (by omega)]
theorem aXv(h:k=0∨k=2)(hc:c<oA k):(vQ k).getD c 0+2^(jU k).getD c 0<=131075:=by
 have h0:∀c,c<53->c<oA 0->(vQ 0).getD c 0+2^(jU 0).getD c 0<=131075:=by decide+kernel
 have h2:∀c,c<53->c<oA 2->(vQ 2).getD c 0+2^(jU 2).getD c 0<=131075:=by decide+kernel
 have:=(aGX h).2;rcases h with rfl|rfl
 .exact h0 c (by omega) hc
 .exact h2 c (by omega) hc
theorem aXx(h:k=0∨k=2):∀{i:Nat},RQ k+i<=oA k->eS k i<=131075
 |0,_=>by rcases h with rfl|rfl<;>decide
 |i+1,hi=>by
  rw[eS,aQG (by omega) i (by omega)];exact aXv h (by omega)
theorem aXu(h:k=0∨k=2)(hc:c<oA k):(jU k).getD c 0<=16:=by
 have h0:∀c,c<53->c<oA 0->(jU 0).getD c 0<=16:=by decide+kernel
 have h2:∀c,c<53->c<oA 2->(jU 2).getD c 0<=16:=by decide+kernel
 have:=(aGX h).2;rcases h with rfl|rfl
 .exact h0 c (by omega) hc
 .exact h2 c (by omega) hc
end Go.Pu
namespace Go.Proofs.YthohephggmkeeaaGreatDoor
open Go Go.En Go.Pu
set_option maxRecDepth 4000
variable{a e:Int}{base k:Nat}{o:Except Int (Nat×List T3)}{t:a7C}{w:a7B}
theorem aO8 (h:k=0∨k=2):aJ6 (k:Int)=RQ k/\aV7 (k:Int)=aqO k/\(aFw (k:Int)).length=oA k-RQ k:=by
 rcases h with rfl|rfl<;>exact⟨rfl,rfl,rfl⟩
theorem aRR(h:k=0∨k=2){i:Nat}(hi:RQ k+i<oA k):(aFw (k:Int))[i]?=some (((jU k).getD (RQ k+i) 0:Nat):Int):=by
 have h0:∀i,i<53->RQ 0+i<oA 0->(aFw ((0:Nat):Int))[i]?=some (((jU 0).getD (RQ 0+i) 0:Nat):Int):=by decide+kernel
 have h2:∀i,i<53->RQ 2+i<oA 2->(aFw ((2:Nat):Int))[i]?=some (((jU 2).getD (RQ 2+i) 0:Nat):Int):=by decide+kernel
 have:=(aGX h).2;rcases h with rfl|rfl
 .exact h0 i (by omega) hi
 .exact h2 i (by omega) hi
theorem aQ6 (h:k<3):tZ (k:Int)=((oA k:Nat):Int)-1:=by
 rcases(show k=0∨k=1∨k=2 by omega)with rfl|rfl|rfl<;>rfl
theorem aNO{n:Nat}(hn:n<=31):IntKind.u32.wrap (1*2^(min n IntKind.u32.bits))=((2^n:Nat):Int):=by
 have hb:min n IntKind.u32.bits=n:=a2T (by have:IntKind.u32.bits=32:=rfl
                                           omega)
 have hp:2^n<=2^31:=a1K (by omega) hn;rw[hb,Int.one_mul];have e:(2:Int)^n=((2^n:Nat):Int):=by simp
 rw[e];generalize 2^n=y at*;rw[show IntKind.u32.wrap (y:Int)=(y:Int)%4294967296 from rfl];omega
theorem aVk{c:Nat}(hg:tY w)(hk:k<3)(hc:c<oA k):
 aL pg UT #[.int .i64 k,.int .i64 c] w (λr w'=>r= .tuple #[.int .u32 ((vQ k).getD c 0:Nat),.int .i64 ((jU k).getD c 0:Nat),.int .i64 0]/\aE w w' aP):=by
 refine aBA ?_;have hl53:oA k<=53:=by rcases(show k=0∨k=1∨k=2 by omega)with rfl|rfl|rfl<;>decide
 unfold aDb ahT ahS;simp(disch:=omega)only[SV];refine(aQ5 hg).mono ?_;rintro r w1 ⟨rfl,x1⟩;rw[aQ6 hk];have d1:decide (((oA k:Nat):Int)-1<0)=false:=by simp;omega
 have d2:decide ((c:Int)<0)=false:=by simp
 have d3:decide (((oA k:Nat):Int)-1<(c:Int))=false:=by simp;omega
 by_cases h1:k=1
 .subst h1;have n1:(((1:Nat):Int)==1)=true:=rfl;have hc32:c<32:=hc;have hs:=aNO (n:=c) (by omega);have ho:=aYS hc32;rw[ho.1,ho.2];simp(disch:=omega)only[SV,d1,d2,d3,n1,hs,a1H]
  first|exact x1|exact⟨rfl,x1⟩
 have n1:((k:Int)==1)=false:=beq_eq_false_iff_ne.2 (by omega);have h02:k=0∨k=2:=by omega
 simp(disch:=omega)only[SV,d1,d2,d3,n1];refine(aUN (hg.ext x1)).mono ?_;rintro r w2 ⟨mv,rfl,hs,x2⟩;obtain⟨rp,ra,rl⟩:=aO8 h02;rw[rp,ra];have hpl:=aGX h02;have hlow:aqO k<=3:=by unfold aqO;split<;>omega
 have x12:=x1.seq x2;by_cases hcp:c<RQ k
 .have d4:decide ((c:Int)<((RQ k:Nat):Int))=true:=by simp;omega
  have hp:=aVg h02 hcp;have e1:IntKind.u32.wrap (c:Int)=c:=by rw[show IntKind.u32.wrap (c:Int)=(c:Int)%4294967296 from rfl];omega
  have e2:IntKind.u32.wrap (((aqO k:Nat):Int)+(c:Int))=((aqO k+c:Nat):Int):=by rw[show IntKind.u32.wrap (((aqO k:Nat):Int)+(c:Int))=(((aqO k:Nat):Int)+(c:Int))%4294967296 from rfl];omega
  rw[hp.1,hp.2];simp(disch:=omega)only[SV,d4,e1,e2]
  first|exact x12|exact⟨rfl,x12⟩
 .have d4:decide ((c:Int)<((RQ k:Nat):Int))=false:=by simp;omega
  obtain⟨j,hj⟩:∃j,c=RQ k+j:=⟨c-RQ k,by omega⟩;have e1:IntKind.u32.wrap ((RQ k:Nat):Int)=((RQ k:Nat):Int):=by rw[show IntKind.u32.wrap ((RQ k:Nat):Int)=((RQ k:Nat):Int)%4294967296 from rfl];omega
  have e2:IntKind.u32.wrap (((aqO k:Nat):Int)+((RQ k:Nat):Int))=((eS k 0:Nat):Int):=by
   rw[eS,aYT h02,show IntKind.u32.wrap (((aqO k:Nat):Int)+((RQ k:Nat):Int))=(((aqO k:Nat):Int)+((RQ k:Nat):Int))%4294967296 from rfl];omega
  have e3:(c:Int)-((RQ k:Nat):Int)=(j:Int):=by omega
  simp(disch:=omega)only[SV,d4,e1,e2];unfold RW RV ahR;obtain⟨av,cv,rfl,hcv⟩:=hs.lenI;have hs0:=hs;obtain⟨b,off,c',hv,hcc,hcell⟩:=hs.openI (by omega);cases hv;have hget:∀i,RQ k+i<oA k->w2.cell? ⟨b,off+i,none⟩=some (.int .i64 ((jU k).getD (RQ k+i) 0:Nat)):=by
   intro i hi;have h1:=hcell i (by omega);have h2:=aRR h02 hi;rw[a1I (by omega)]at h2;rw[h1,a1Z h2]
  have hsh:dI (some ⟨b,off,none⟩) cv 0 1=some ⟨b,off,none⟩:=by unfold dI;split<;>simp[Addr.add]
  simp(disch:=omega)only[SV,e3,hsh,rl,a1H,a6M];unfold It;refine aN.rule (λm (t:a7C×a7C) w'=>∃i:Nat,m=j-i/\i<=j/\t=(.int .u32 (eS k i:Nat),.int .i64 i)/\w'=w2) j ⟨0,rfl,by omega,rfl,rfl⟩ ?_;rintro m t w3 ⟨i,rfl,hi,rfl,hw⟩;rw[hw];clear hw w3;unfold ahQ;by_cases hlt:i<j
  .have d5:decide ((i:Int)<(j:Int))=true:=by simp;omega
   have g1:=hget i (by omega);have ha:=aXu h02 (c:=RQ k+i) (by omega);have hsl:=aNO (n:=(jU k).getD (RQ k+i) 0) (by omega);have hle:=aXx h02 (i:=i+1) (by omega);have hes:eS k (i+1)=eS k i+2^((jU k).getD (RQ k+i) 0):=rfl;have e5:IntKind.u32.wrap (((eS k i:Nat):Int)+((2^((jU k).getD (RQ k+i) 0):Nat):Int))=((eS k (i+1):Nat):Int):=by
    rw[show IntKind.u32.wrap (((eS k i:Nat):Int)+((2^((jU k).getD (RQ k+i) 0):Nat):Int))=(((eS k i:Nat):Int)+((2^((jU k).getD (RQ k+i) 0):Nat):Int))%4294967296 from rfl];omega
   generalize(jU k).getD (RQ k+i) 0=nn at*;simp(disch:=omega)only[SV,d5,g1,hsl,e5,a1H];exact⟨j-(i+1),by omega,i+1,rfl,by omega,rfl⟩
  .have d5:decide ((i:Int)<(j:Int))=false:=by simp;omega
   obtain rfl:i=j:=by omega
   have g1:=hget i (by omega);have g2:(dr w2).cell? ⟨b,off+i,none⟩=some (.int .i64 ((jU k).getD (RQ k+i) 0:Nat)):=g1;simp(disch:=omega)only[SV,d5];unfold RU;have hat:=aQG hk i (by omega);rw[<-hj]at hat g2;simp(disch:=omega)only[SV,e3,g2];exact⟨by rw[hat],x12.seq (aE.dr _ _)⟩
theorem w32 {x:Int}(h0:0<=x)(h1:x<4294967296):IntKind.u32.wrap x=x:=by
 rw[show IntKind.u32.wrap x=x%4294967296 from rfl];omega
def gvL(a:Int):Nat:=if a=1 then 5 else if a=0∨a=2 then 6 else 0
def gvP(a:Int):List Int:=if a=0 then zTL else if a=1 then zTO else if a=2 then zTM else[]
theorem aLk(h:a=0∨a=1∨a=2):May (gvL a) (gvP a):=by
 rcases h with rfl|rfl|rfl
 .exact ⟨by decide,by decide,by decide,by decide,by decide,by decide,by decide+kernel⟩
 .exact ⟨by decide,by decide,by decide,by decide,by decide,by decide,by decide+kernel⟩
 .exact ⟨by decide,by decide,by decide,by decide,by decide,by decide,by decide+kernel⟩
theorem aTk(hg:tY w):
 aL pg MJ #[.int .i64 a] w (λr w'=>∃v,r= .agg #[.int .i64 (gvL a:Nat),v]/\Sl w' v ((gvP a).map (Value.int .i64))/\aE w w' aP):=by
 refine awR ?_;unfold awQ YH;refine lE λw1 o1 x1 s1=> ?_;have hg1:=hg.ext x1;have z1:=o1.lt;by_cases h0:a=0
 .subst h0;have n1:((0:Int)==0)=true:=rfl;have l1:=aHo (b:=2) (off:=0) (l:=zTL.map (Value.int .i64)) rfl hg1.tl.ld;simp(disch:=omega)only[SV,n1,l1];refine aIz λw2 o2 x2 s2=> ?_;refine aHU o2 rfl (aaB _) (by simp) λw3 o3 x3 s3=> ?_;have o3:aT w3 w1.heap.size (zTL.map (Value.int .i64)):=by
   rw[a4W,PG zTL 36 rfl]at o3
   .exact o3
   .rfl
  have hsh:lQ ⟨w1.heap.size,0,none⟩ 36 0 1=⟨w1.heap.size,0,none⟩:=sI (by decide);have x13:aE w1 w3 aP:=x2.new x3 (by omega);simp(disch:=omega)only[SV,hsh];refine dS (o1.ext x13 (λh=>h)) rfl (by simp[one]) (by simp) λw4 o4 x4 s4=> ?_;refine nF o4 (by simp[aF]) ?_;simp only[aF,a1E,a1D,a1F,a1C,a1G];exact⟨_,rfl,Zu (o3.ext x4 (by omega)) rfl,(x1.seq x13).new x4 (by omega)⟩
 have n1:(a==0)=false:=beq_eq_false_iff_ne.2 h0;by_cases h1:a=1
 .subst h1;have n2:((1:Int)==1)=true:=rfl;have l1:=aHn (b:=3) (off:=0) (l:=zTO.map (Value.int .i64)) rfl hg1.to.ld;simp(disch:=omega)only[SV,n1,n2,l1];refine aIy λw2 o2 x2 s2=> ?_;refine aHT o2 rfl (aaB _) (by simp) λw3 o3 x3 s3=> ?_;have o3:aT w3 w1.heap.size (zTO.map (Value.int .i64)):=by
   rw[a4W,PG zTO 29 rfl]at o3
   .exact o3
   .rfl
  have hsh:lQ ⟨w1.heap.size,0,none⟩ 29 0 1=⟨w1.heap.size,0,none⟩:=sI (by decide);have x13:aE w1 w3 aP:=x2.new x3 (by omega);simp(disch:=omega)only[SV,hsh];refine dS (o1.ext x13 (λh=>h)) rfl (by simp[one]) (by simp) λw4 o4 x4 s4=> ?_;refine nF o4 (by simp[aF]) ?_;simp only[aF,a1E,a1D,a1F,a1C,a1G];exact⟨_,rfl,Zu (o3.ext x4 (by omega)) rfl,(x1.seq x13).new x4 (by omega)⟩
 have n2:(a==1)=false:=beq_eq_false_iff_ne.2 h1;by_cases h2:a=2
 .subst h2;have n3:((2:Int)==2)=true:=rfl;have l1:=aHp (b:=4) (off:=0) (l:=zTM.map (Value.int .i64)) rfl hg1.tm.ld;simp(disch:=omega)only[SV,n1,n2,n3,l1];refine aIA λw2 o2 x2 s2=> ?_;refine aHV o2 rfl (aaB _) (by simp) λw3 o3 x3 s3=> ?_;have o3:aT w3 w1.heap.size (zTM.map (Value.int .i64)):=by
   rw[a4W,PG zTM 53 rfl]at o3
   .exact o3
   .rfl
  have hsh:lQ ⟨w1.heap.size,0,none⟩ 53 0 1=⟨w1.heap.size,0,none⟩:=sI (by decide);have x13:aE w1 w3 aP:=x2.new x3 (by omega);simp(disch:=omega)only[SV,hsh];refine dS (o1.ext x13 (λh=>h)) rfl (by simp[one]) (by simp) λw4 o4 x4 s4=> ?_;refine nF o4 (by simp[aF]) ?_;simp only[aF,a1E,a1D,a1F,a1C,a1G];exact⟨_,rfl,Zu (o3.ext x4 (by omega)) rfl,(x1.seq x13).new x4 (by omega)⟩
 have n3:(a==2)=false:=beq_eq_false_iff_ne.2 h2;simp(disch:=omega)only[SV,n1,n2,n3];refine dS o1 rfl (by simp[one]) (by simp) λw4 o4 x4 s4=> ?_;refine nF o4 (by simp[aF]) ?_;simp only[aF,a1E,a1D,a1F,a1C,a1G];unfold gvL gvP;rw[if_neg h1,if_neg (by omega),if_neg h0,if_neg h1,if_neg h2];exact⟨_,rfl,Sl.nil _,x1.new x4 (by omega)⟩
def Tf(w:a7B)(base:Nat)(o:Except Int (Nat×List T3))(t:a7C)(e:Int):Prop:=match o with
 | .error e'=>t= .agg #[.int .i64 0,.slice none 0 0]/\e=e'
 | .ok (lg,L)=>(∃b,Tbl w base b lg L t)/\e=0
def vS(a:Int):Except Int (Nat×List T3):=if a=0∨a=1∨a=2 then .ok (gvL a,fL (gvL a) (gvP a))else .error 1
theorem Tf.form (h:Tf w base o t e):∃(x:Int) (a:Option Addr) (n c:Nat),t= .agg #[.int .i64 x,.slice a n c]:=by
 unfold Tf at h;split at h
 .exact ⟨_,_,_,_,h.1⟩
 .obtain ⟨⟨b,h,_⟩,_⟩:=h;exact⟨_,_,_,_,h⟩
theorem Tf.ext {w':a7B}{M:Nat->Prop}(h:Tf w base o t e)(x:aE w w' M)(hM:∀b,base<=b->b<w.heap.size->¬M b):Tf w' base o t e:=by
 unfold Tf at*;split at h
 .exact h
 .obtain ⟨⟨b,ht⟩,he⟩:=h;have hb:=ht.2.1;have hl:=ht.2.2.lt;exact⟨⟨b,ht.ext x (hM b hb hl)⟩,he⟩
theorem Tf.lower {base':Nat}(h:Tf w base o t e)(hb:base'<=base):Tf w base' o t e:=by
 unfold Tf at*;split at h
 .exact h
 .obtain ⟨⟨b,h1,h2,h3⟩,he⟩:=h;exact⟨⟨b,h1,by omega,h3⟩,he⟩
theorem aOg(hg:tY w):
 aL pg Hu #[.int .i64 a] w (λr w'=>∃t e,r= .tuple #[t,.int .i64 e]/\Tf w' w.heap.size (vS a) t e/\aE w w' aP):=by
 refine agW ?_;unfold aeM Ra;refine gK λw1 o1 x1 s1=> ?_;have z1:=o1.lt;refine(aTk (hg.ext x1)).mono ?_;rintro r w2 ⟨v,rfl,hs,x2⟩;unfold vS;have z2:=x2.size;by_cases hk:a=0∨a=1∨a=2
 .rw [if_pos hk];refine(aGV (aLk hk) hs).mono ?_;rintro r w3 ⟨b,t,rfl,⟨rfl,hb,ob⟩,x3⟩;have z3:=x3.size;simp(disch:=omega)only[SV];have lb:=ob.lt;refine cY ((o1.ext x2 (λh=>h)).ext x3 (λh=>h)) rfl (by simp[one]) (by simp) λw4 o4 x4 s4=> ?_;refine wD o4 (by simp[aF]) ?_;simp only[aF,a1E,a1D,a1F,a1C,a1G];exact⟨_,_,rfl,⟨⟨b,rfl,by omega,ob.ext x4 (by omega)⟩,rfl⟩,((x1.seq x2).seq x3).new x4 (by omega)⟩
 .rw [if_neg hk];have e1:gvL a=0:=by unfold gvL;rw[if_neg (by omega),if_neg (by omega)]
  have e2:gvP a=[]:=by unfold gvP;rw[if_neg (by omega),if_neg (by omega),if_neg (by omega)]
  rw[e1];rw[e2]at hs;refine(aOb (log:=0) (ps:=[]) (by decide) hs (by simp)).mono ?_;rintro r w3 ⟨rfl,x3⟩;simp(disch:=omega)only[SV];refine cY ((o1.ext x2 (λh=>h)).ext x3 (λh=>h)) rfl (by simp[one]) (by simp) λw4 o4 x4 s4=> ?_;refine wD o4 (by simp[aF]) ?_;simp only[aF,a1E,a1D,a1F,a1C,a1G];exact⟨_,_,rfl,⟨rfl,rfl⟩,((x1.seq x2).seq x3).new x4 (by omega)⟩
def aaN(a:Int):Int:=if a=0∨a=2 then 9 else if a=1 then 8 else 0
theorem aVQ(a:Int)(w:a7B):aL pg RH #[.int .i64 a] w (λr w'=>r= .int .i64 (aaN a)/\w'=w):=by
 refine aAu ?_;unfold aBr YG aeP PS PR aeO PQ aeN;unfold aaN;by_cases h0:a=0
 .subst h0;have n1:((0:Int)==0)=true:=rfl;unfold tT;simp(disch:=omega)only[SV,n1];rfl
 have n1:(a==0)=false:=beq_eq_false_iff_ne.2 h0;by_cases h2:a=2
 .subst h2;have n2:((2:Int)==2)=true:=rfl;unfold tT;simp(disch:=omega)only[SV,n1,n2];rfl
 have n2:(a==2)=false:=beq_eq_false_iff_ne.2 h2;rw[if_neg (by omega)];by_cases h1:a=1
 .subst h1;have n3:((1:Int)==1)=true:=rfl;unfold tT;simp(disch:=omega)only[SV,n1,n2,n3]
 have n3:(a==1)=false:=beq_eq_false_iff_ne.2 h1;rw[if_neg h1];unfold tT PO;simp(disch:=omega)only[SV,n1,n2,n3]
end Go.Proofs.YthohephggmkeeaaGreatDoor
namespace Go.Proofs.YthohephggmkeeaaGreatDoor
open Go Go.En Go.Pu
theorem Vy:((⟨#[]⟩:ByteArray).toList==(⟨#[]⟩:ByteArray).toList)=true:=by simp
theorem ZM{x:ByteArray}(h:0<x.size):(x.toList==(⟨#[]⟩:ByteArray).toList)=false:=by
 rw[ByteArray.toList_eq,ByteArray.toList_eq];have hl:=aI x;unfold aM at hl;cases hx:x.data.toList with
 |nil=>rw[hx]at hl;simp at hl;omega
 |cons a l=>rfl
theorem aR6 (x:ByteArray):(x.toList==x.toList)=true:=by simp
end Go.Proofs.YthohephggmkeeaaGreatDoor
namespace Go.Pu
open Go Go.En
variable{L:List Bool}
def iK(L:List Bool)(st n:Nat):Nat:=tX ((L.drop st).take n)
theorem FC(L:List Bool)(st n:Nat):iK L st n<2^n:=by
 have h:=asX ((L.drop st).take n);have:((L.drop st).take n).length<=n:=by rw[a1N];omega
 exact a5M h (a1K (by omega) this)
def awU(L:List Bool)(st left:Nat):Option (Nat×Nat):=
 let n:=bl (left+1)
 if L.length<st+(n-1)then none
 else
  let low:=iK L st (n-1)
  let free:=2^n-2-left
  if low<free then some (low,st+(n-1))
  else if L.length<st+(n-1)+1 then none
  else if iK L (st+(n-1)) 1=0 then some (low,st+(n-1)+1)
  else some (low+2^(n-1)-free,st+(n-1)+1)
def noR(L:List Bool):Nat->Nat->Option (Nat×Nat)
 |0,_=>none
 |f+1,st=>if L.length<st+2 then none else if iK L st 2<3 then some (iK L st 2,st+2)else match noR L f (st+2)with
  |none=>none
  |some (k,st')=>some (3+k,st')
def rdC(L:List Bool)(sym:Nat):Nat->Nat->Nat->List Int->Except Int (List Int×Nat)
 |0,_,_,_=> .error 10
 |f+1,st,left,ps=>if left=0 then .ok (ps,st)else match awU L st left with
  |none=> .error 10
  |some (v,st1)=>
   if v=1 then match noR L (L.length+1) st1 with
     |none=> .error 10
     |some (k,st2)=>if sym<ps.length+1+k then .error 11 else rdC L sym f st2 left (ps++0::List.replicate k 0)
   else if sym<ps.length+1 then .error 11 else rdC L sym f st1 (left-(bX ((v:Int)-1)).toNat) (ps++[(v:Int)-1])
theorem aCD{st left v st1:Nat}(h:awU L st left=some (v,st1))(h0:0<left):st<st1/\st1<=L.length/\v<=left+1:=by
 have hb1:=M9 (k:=left+1) (by omega);have hb2:=ahM (k:=left+1) (by omega);have hb3:=Zz (left+1);have hn:2<=bl (left+1):=by
  rcases a1Y (bl (left+1)) 2 with h|h
  .have:bl (left+1)=1:=by omega
   rw[this]at hb3;omega
  .exact h
 unfold awU at h;simp only at h;generalize bl (left+1)=n at*;obtain⟨m,rfl⟩:∃m,n=m+1:=⟨n-1,by omega⟩;rw[a3X]at*;rw[a2O]at*;have hl:=FC L st m;generalize 2^m=q at*;generalize iK L st m=low at*;split at h
 .cases h
 .split at h
  .obtain ⟨rfl,rfl⟩:=a5K (a1Z h);omega
  .split at h
   .cases h
   .split at h
    .obtain ⟨rfl,rfl⟩:=a5K (a1Z h);omega
    .obtain ⟨rfl,rfl⟩:=a5K (a1Z h);omega
theorem aHu:∀{f st k st1:Nat},noR L f st=some (k,st1)->st<st1/\st1<=L.length/\2*k<=3*(st1-st)
 |0,st,k,st1,h=>by cases h
 |f+1,st,k,st1,h=>by
  rw[noR]at h;split at h
  .cases h
  .have hl:=FC L st 2;split at h
   .obtain ⟨rfl,rfl⟩:=a5K (a1Z h);omega
   .cases hn:noR L f (st+2)with
    |none=>rw[hn]at h;cases h
    |some x=>
     obtain⟨k',st'⟩:=x;rw[hn]at h;obtain⟨rfl,rfl⟩:=a5K (a1Z h);have:=aHu hn;omega
def uB(L:List Bool)(most:Int)(sym:Nat):Except Int (Nat×List Int×Nat):=
 if L.length<4 then .error 10
 else
  let log:=iK L 0 4+5
  if most<log∨15<log then .error 12
  else match rdC L sym (L.length+1) 4 (2^log) []with
   | .error e=> .error e
   | .ok (ps,st)=> .ok (log,ps,(st+7)/8)
theorem aEX:∀k:Nat,Gq (List.replicate k 0)=0
 |0=>rfl
 |k+1=>by rw[a2S,H8,aEX k]<;>rfl
theorem azB{sym:Nat}{out:List Int}{stE:Nat}{tot:Int}:∀{f st left:Nat} {ps:List Int},rdC L sym f st left ps= .ok (out,stE)->(∀p∈ps,-1<=p)->Gq ps+left=tot→
 (left=0->ps.length<=sym/\ps.getLast?≠some 0/\1<=ps.length)->(∀p∈out,-1<=p)/\Gq out=tot/\out.length<=sym/\out.getLast?≠some 0/\1<=out.length
 |0,st,left,ps,h,_,_,_=>by cases h
 |f+1,st,left,ps,h,hlo,hs,hz=>by
  rw[rdC]at h;split at h
  .rename_i h0;cases h;obtain⟨z1,z2,z3⟩:=hz h0;exact⟨hlo,by omega,z1,z2,z3⟩
  .rename_i h0;cases hv:awU L st left with
   |none=>rw[hv]at h;cases h
   |some x=>
    obtain⟨v,st1⟩:=x;obtain⟨v1,v2,v3⟩:=aCD hv (by omega);rw[hv]at h;simp only at h;split at h
    .rename_i hv1;cases hn:noR L (L.length+1) st1 with
     |none=>rw[hn]at h;cases h
     |some y=>
      obtain⟨k,st2⟩:=y;rw[hn]at h;simp only at h;split at h
      .cases h
      .refine azB h ?_ ?_ (λh=>absurd h h0)
       .intro p hp;rcases a2X.1 hp with hp|hp
        .exact hlo p hp
        .rcases a3C.1 hp with rfl|hp
         .omega
         .rw [List.eq_of_mem_replicate hp];omega
       .rw [aeJ,H8];have e:=aEX k;rw[e];have:bX 0=0:=rfl;omega
    .rename_i hv1;split at h
     .cases h
     .have hp1: -1<=(v:Int)-1:=by omega
      have hpn:=mD hp1;have hpl:bX ((v:Int)-1)<=left:=by unfold bX;split<;>omega
      refine azB h ?_ ?_ ?_
      .intro p hp;rcases a2X.1 hp with hp|hp
       .exact hlo p hp
       .rw [a3W.1 hp];exact hp1
      .rw [aeJ,H8];have e:Gq []=0:=rfl;rw[e];omega
      .intro _;rw[a1O,List.length_singleton,a6X];refine⟨by omega, ?_,by omega⟩;intro e;have:=a1Z e;omega
end Go.Pu
namespace Go.En
open Go
section
variable{P:Program}{w:a7B}{t e:TypeId}
theorem aKn{S:Nat->Prop}{sz n m:Nat}{i:TypeInfo}{z:a7C}{ty t2:TypeId}{k:IntKind}(hu:P.underlying t=some (.slice e))(hu2:P.underlying t2=some (.int k))(hi:P.info? e=some i)(hsz:i.size=sz)(hz:i.zero=some z)(hzs:z.cells.size=sz)
 {v:a7C} {l:List a7C} (h:BR w S sz v n l) (hsz0:0<sz) (hone:∀y∈z.cells.toList,one y=true) (hb:∀b,w.heap.size<=b->S b)
 (hn:n+m<=9223372036854775807) (hbytes:(n+m)*i.bytes<=140737488355328) (hmb:m*i.bytes<=140737488355328)
 {K:a7C->a7B->Prop} (hk:∀v' w',BR w' S sz v' (n+m) (l++(Builtin.zeroCells z.cells m).toList)->aE w w' S->K v' w'):bF P (yM .append #[t,t2] ty [v,.int k m]) w K:=by
 generalize hnews:(Builtin.zeroCells z.cells m).toList=news at*;have hnl:news.length=m*sz:=by rw[<-hnews,a4B,pK,hzs]
 have hone':∀y∈news,one y=true:=by
  intro y hy;rw[<-hnews]at hy;simp only[Builtin.zeroCells,Array.toList_map,a4J]at hy;obtain⟨j,_,rfl⟩:=hy;refine hone _ ?_;have:j%z.cells.size<z.cells.size:=a4X _ (by omega);rw[getElem!_pos z.cells _ this];exact Array.getElem_mem_toList this
 have hmw:IntKind.i64.wrap ((m:Nat):Int)=(m:Int):=dM (by omega) (by omega);have hm0:¬((m:Int)<0):=by omega
 have hmx:¬((m:Int)*(i.bytes:Nat)>2^48):=by
  have:(m:Int)*(i.bytes:Nat)=((m*i.bytes:Nat):Int):=by simp
  rw[this];omega
 have has:∀w,(asInt (.int k m)).run P w= .ok (m:Int) w:=λw=>rfl;have hz':∀w,(zeroValue e).run P w= .ok z w:=λw=>by simp[zeroValue,typeInfo,hi,hz]
 have hnw:∀w,(if m*sz=0 then pure #[]else do pure (Builtin.zeroCells (<-zeroValue e).cells m):Sem (Array a7C)).run P w= .ok news.toArray w:=λw=>by
  by_cases h0:m*sz=0
  .rw [if_pos h0,Sem.run_pure];have:news=[]:=a2K.1 (by omega);rw[this]
  .rw [if_neg h0,Sem.run_bind,hz',Result.andThen_ok,Sem.run_pure,<-hnews,Array.toArray_toList]
 have hmax:IntKind.i64.max=9223372036854775807:=by decide
 have hnot:¬(((n+m:Nat):Int)>IntKind.i64.max):=by rw[hmax];omega
 have hlen:=h.1;rcases h.2 with⟨rfl,rfl⟩|⟨b,c,rest,rfl,h2,h3,h4,h5⟩
 .have hl0:l=[]:=a2K.1 (by omega);subst hl0;by_cases hm:m=0
  .subst hm;have hn0:news=[]:=a2K.1 (by omega);subst hn0;have:(yM .append #[t,t2] ty [.slice none 0 0,.int k (0:Nat)]).run P w= .ok (.value (.slice none 0 0)) w:=by
    unfold yM builtin;simp only[Builtin.append_,a3T,a1A,a1B];simp only[underlying,typeInfo,Sem.run_bind,run_program,Result.andThen_ok,hu,hu2,hi,Sem.run_pure,cC hi,hsz,has,hmw,hm0,hmx,if_true,if_false,a1H,a3P,a2A,a1J,a3I,hnw]
   unfold bF;rw[this];exact hk _ _ ⟨by simp,.inl ⟨rfl,by omega⟩⟩ (aE.refl _ _)
  .have hfit:=growslice_fits (need:=0+m) (old:=0) (bytes:=i.bytes) (by omega) (by omega);have hfit':¬(Builtin.nextslicecap (0+m) 0*i.bytes>2^48):=by omega
   have hle:¬(0+m<=0):=by omega
   have hq:(Question.appendCap (0+m) 0 e).forced=false:=rfl;obtain⟨r,hr⟩:∃r,(Question.appendCap (0+m) 0 e).cut (w.tape w.drawn (.appendCap (0+m) 0 e))=m+r:=
    ⟨(w.tape w.drawn (.appendCap (0+m) 0 e))%(2^63-(0+m)),by simp only[Question.cut];omega⟩
   have:(yM .append #[t,t2] ty [.slice none 0 0,.int k m]).run P w= .ok (.value (.slice (some ⟨w.heap.size,0,none⟩) (0+m) (m+r))) ((dr w).alloc (.cells (news++(Builtin.zeroCells z.cells (m+r-(0+m))).toList).toArray e)):=by
    unfold yM builtin;simp only[Builtin.append_,a3T,a1A,a1B];simp only[underlying,typeInfo,Sem.run_bind,run_program,Result.andThen_ok,hu,hu2,hi,Sem.run_pure,cC hi,hsz,has,hmw,hm0,hmx,if_true,if_false,a1H,a3P,a2A,hle,hnot,false_and,hfit',run_choose,hq,hr,run_askRoom];change((Sem.run P _ (dr w)).andThen _).andThen _=_;simp only[Sem.run_bind,hnw,run_firstCells_none,Result.andThen_ok,hz',Sem.run_pure,newRow,run_newObj];have e1:(#[]++news.toArray++Builtin.zeroCells z.cells (m+r-(0+m)):Array a7C)=(news++(Builtin.zeroCells z.cells (m+r-(0+m))).toList).toArray:=by
     apply a6V;simp
    rw[e1];rfl
   unfold bF;rw[this];refine hk _ _ ⟨by simp only[a4F];rw[hnl,a1Q],.inr ⟨w.heap.size,m+r,(Builtin.zeroCells z.cells (m+r-(0+m))).toList,by rw[a1Q],hb _ (a1J _),aT.alloc (dr w) _ _, ?_,by omega⟩⟩ ((aE.dr w _).seq (aE.alloc _ _ _));simp only[a4F,a1O,a4B,pK,hzs,hnl];rw[show m+r-(0+m)=r from by omega,a3D]
 .by_cases hc:n+m<=c
  .have hroom:news.length<=rest.length:=by
    rw[a1O,hlen]at h4;have:(n+m)*sz<=c*sz:=a2V _ hc;rw[a3D]at this;omega
   obtain⟨w',s1,s2,s3,s4,_⟩:=Gp (P:=P) (M:=S) h2 news w (n*sz) 0 (l++rest) h3 (by rw[a1O,hlen];omega) hone';have:(yM .append #[t,t2] ty [.slice (some ⟨b,0,none⟩) n c,.int k m]).run P w= .ok (.value (.slice (some ⟨b,0,none⟩) (n+m) c)) w':=by
    unfold yM builtin;simp only[Builtin.append_,a3T,a1A,a1B];simp only[underlying,typeInfo,Sem.run_bind,run_program,Result.andThen_ok,hu,hu2,hi,Sem.run_pure,cC hi,hsz,has,hmw,hm0,hmx,if_true,if_false,a1H,a3P,a2A,hc,hnw,D0,a1Q,s1]
   unfold bF;rw[this];rw[a3I,<-hlen,S5 _ _ _ hroom]at s2;refine hk _ _ ⟨by rw[a1O,hlen,hnl,a3D],.inr ⟨b,c,rest.drop news.length,rfl,h2,s2, ?_,hc⟩⟩ s3;rw[<-h4];simp;omega
  .have hfit:=growslice_fits (need:=n+m) (old:=c) (bytes:=i.bytes) (by omega) hbytes;have hfit':¬(Builtin.nextslicecap (n+m) c*i.bytes>2^48):=by omega
   have hq:(Question.appendCap (n+m) c e).forced=false:=rfl;obtain⟨r,hr⟩:∃r,(Question.appendCap (n+m) c e).cut (w.tape w.drawn (.appendCap (n+m) c e))=n+m+r:=
    ⟨(w.tape w.drawn (.appendCap (n+m) c e))%(2^63-(n+m)),by simp only[Question.cut]⟩
   have hold:Cl (dr w) sz (.slice (some ⟨b,0,none⟩) n c) n l:=⟨_,_,rfl,hlen,λ_=>⟨b,0,rfl,λi hi=>by
    show w.cell? _=_;rw[h3.cell,a1Q,a1V hi]⟩⟩
   have:(yM .append #[t,t2] ty [.slice (some ⟨b,0,none⟩) n c,.int k m]).run P w= .ok (.value (.slice (some ⟨w.heap.size,0,none⟩) (n+m) (n+m+r))) ((dr w).alloc (.cells (l++news++(Builtin.zeroCells z.cells (n+m+r-(n+m))).toList).toArray e)):=by
    have hfo:=R4 (P:=P) hold;unfold yM builtin;simp only[Builtin.append_,a3T,a1A,a1B];simp only[underlying,typeInfo,Sem.run_bind,run_program,Result.andThen_ok,hu,hu2,hi,Sem.run_pure,cC hi,hsz,has,hmw,hm0,hmx,if_true,if_false,a1H,a3P,a2A,hc,hnot,false_and,hfit',run_choose,hq,hr,run_askRoom];change((Sem.run P _ (dr w)).andThen _).andThen _=_;simp only[Sem.run_bind,hnw,hfo,Result.andThen_ok,hz',Sem.run_pure,newRow,run_newObj];have e1:(l.toArray++news.toArray++Builtin.zeroCells z.cells (n+m+r-(n+m)):Array a7C)=(l++news++(Builtin.zeroCells z.cells (n+m+r-(n+m))).toList).toArray:=by
     apply a6V;simp
    rw[e1];rfl
   unfold bF;rw[this];refine hk _ _ ⟨by rw[a1O,hlen,hnl,a3D],.inr ⟨w.heap.size,n+m+r,_,rfl,hb _ (a1J _),aT.alloc (dr w) _ _, ?_,by omega⟩⟩ ((aE.dr w _).seq (aE.alloc _ _ _));simp only[a1O,a4B,pK,hzs,hnl,hlen];rw[show n+m+r-(n+m)=r from by omega,a3D,a3D]
end
end Go.En
namespace Go.Proofs.YthohephggmkeeaaGreatDoor
open Go Go.En Go.Pu
set_option maxRecDepth 4000
variable{hi left lo st:Nat}{l:List UInt8}{v:a7C}{w:a7B}
theorem aS3 {y:Nat}(h:y≠0):bl y=bl (y/2)+1:=by
 by_cases h2:y/2=0
 .obtain rfl:y=1:=by omega
  decide
 .have a:=ahM h2;have b:=Zz (y/2);have c:=M9 h2;obtain⟨m,hm⟩:∃m,bl (y/2)=m+1:=⟨bl (y/2)-1,by omega⟩;rw[hm,a3X]at a;rw[hm]at b⊢;refine aUh ?_ ?_
  .rw [a2O];omega
  .rw [a2O];omega
theorem aT1 {x:Nat}(hx:x<2^40)(w:a7B):aL pg Rv #[.int .i64 x] w (λr w'=>r= .int .i64 (bl x:Nat)/\w'=w):=by
 refine azO ?_;unfold aA7 abZ abY OP FP;have hb:bl x<=40:=rH hx;refine aN.rule (λm (t:a7C×a7C) w'=>∃n:Nat,t=(.int .i64 m,.int .i64 n)/\bl m+n=bl x/\m<=x/\w'=w) x ⟨0,rfl,rfl,a1J _,rfl⟩ ?_;rintro m t w1 ⟨n,rfl,hn,hmx,rfl⟩;unfold abX;by_cases h0:m=0
 .subst h0;have d1:decide ((0:Int)<((0:Nat):Int))=false:=rfl;unfold OO;have:n=bl x:=by rw[<-hn];simp[aS4]
  subst this;simp(disch:=omega)only[SV,d1]
 .have d1:decide ((0:Int)<(m:Int))=true:=by simp;omega
  have e1:(m:Int).tdiv 2=((m/2:Nat):Int):=by rw[a1R (by omega)];omega
  have hh:=aS3 h0;simp(disch:=omega)only[SV,d1,e1];exact⟨m/2,by omega,n+1,rfl,by omega,by omega⟩
theorem afY{L:List Bool}{n:Nat}(hs:Bl w v L)(hn:n<=32)(hst:st<=L.length)(hl:L.length<=10000000):
 aL pg U5 #[.agg #[v,.int .i64 st],.int .i64 n] w (λr w'=>((L.length<st+n/\r= .tuple #[.agg #[v,.int .i64 st],.int .u64 0,.int .i64 10])∨
  (st+n<=L.length/\r= .tuple #[.agg #[v,.int .i64 (st+n:Nat)],.int .u64 (iK L st n:Nat),.int .i64 0]))/\aE w w' aP):=by
 refine aB0 ?_;obtain⟨a,c,rfl,hc⟩:=Dh hs;unfold aEl ajT;refine bY λw1 o1 x1 s1=> ?_;refine yU λw2 o2 x2 s2=> ?_;simp only[Value.cells]at o1;have o1:=o1.ext x2 (λh=>h);have c0:=o1.cell (off:=0);have c1:=o1.cell (off:=1);have l1:=cD (off:=0) o1 (by simp);simp only[a1A,a1B,a1F,a1C,a1G]at c0 c1 l1;have x02:aE w w2 aP:=x1.seq x2;have d1:decide ((n:Int)<0)=false:=by simp
 have d2:decide ((32:Int)<(n:Int))=false:=by simp;omega
 by_cases hsh:L.length<st+n
 .have d3:decide ((L.length:Int)-(st:Int)<(n:Int))=true:=by simp;omega
  simp(disch:=omega)only[SV,d1,d2,c0,c1,d3,l1];refine bE o2 rfl (by simp[one]) (by simp) λw3 o3 x3 s3=> ?_;refine iF o3 (by simp[aF]) ?_;simp only[aF,a1E,a1D,a1F,a1C,a1G];exact⟨.inl ⟨hsh,by trivial⟩,x02.new x3 (by omega)⟩
 .have d3:decide ((L.length:Int)-(st:Int)<(n:Int))=false:=by simp;omega
  have e1:(st:Int)+(n:Int)=((st+n:Nat):Int):=by omega
  have hs2:=(hs.ext x02 (aR _)).drop' (k:=st) (by omega);rw[<-a3M]at hs2;have hs3:=aWa hs2 (k:=n) (by omega);rw[<-a4R]at hs3;have e2:st+n-st=n:=by omega
  simp(disch:=omega)only[SV,d1,d2,c0,c1,d3,e1,e2];refine(aBi hs3 (by rw[a1N];omega)).mono ?_;rintro r w3 ⟨rfl,rfl⟩;simp(disch:=omega)only[SV,c1,e1];refine eZ o1 rfl (by simp) λw4 o4 x4 s4=> ?_;simp only[a1E,a1D]at o4;have l4:=cD (off:=0) o4 (by simp);simp only[a1F,a1C,a1G]at l4;simp(disch:=omega)only[SV,l4];refine bE (o2.ext x4 (by omega)) rfl (by simp[one]) (by simp) λw5 o5 x5 s5=> ?_;refine iF o5 (by simp[aF]) ?_;simp only[aF,a1E,a1D,a1F,a1C,a1G];exact⟨.inr ⟨by omega,by trivial⟩,(x02.new x4 (by omega)).new x5 (by omega)⟩
theorem aO4 (hst:st<=1000000000):aL pg U6 #[.agg #[v,.int .i64 st]] w (λr w'=>r= .int .i64 (((st+7)/8:Nat))/\aE w w' aP):=by
 refine aB1 ?_;unfold aEm ajU;refine bY λw1 o1 x1 s1=> ?_;simp only[Value.cells]at o1;have c1:=o1.cell (off:=1);simp only[a1A,a1B]at c1;have e1:((st:Int)+7).tdiv 8=(((st+7)/8:Nat):Int):=by rw[a1R (by omega)];omega
 simp(disch:=omega)only[SV,c1,e1];exact x1
theorem aGH(h0:0<left)(h1:left<=32768):∃m,bl (left+1)=m+1/\1<=m/\m<=16/\left+1<2^(m+1)/\2^m<=left+1/\2^(m+1)=2*2^m:=by
 have hb2:=ahM (k:=left+1) (by omega);have hb3:=Zz (left+1);have hb4:=rH (k:=left+1) (n:=17) (by omega);have hn:2<=bl (left+1):=by
  rcases a1Y (bl (left+1)) 2 with h|h
  .have hb1:=M9 (k:=left+1) (by omega);have:bl (left+1)=1:=by omega
   rw[this]at hb3;omega
  .exact h
 obtain⟨m,hm⟩:∃m,bl (left+1)=m+1:=⟨bl (left+1)-1,by omega⟩;rw[hm]at hb2 hb3 hb4 hn⊢;exact⟨m,rfl,by omega,by omega,hb3,hb2,by rw[a2O,a2N]⟩
theorem aJx(L:List Bool)(f st:Nat):noR L (f+1) st=if L.length<st+2 then none else if iK L st 2<3 then some (iK L st 2,st+2)else match noR L f (st+2)with
 |none=>none
 |some (k,st')=>some (3+k,st'):=by rw[noR]<;>rfl
def aUe(w:a7B)(lo hi:Nat)(l:List UInt8)(o:Option (Nat×Nat))(r:a7C):Prop:=match o with
 |none=>r= .tuple #[.int .i64 0,.int .i64 10]
 |some (v,st)=>r= .tuple #[.int .i64 v,.int .i64 0]/\Fwd w lo hi l st
theorem aTZ(h:Fwd w lo hi l st)(hlh:lo<=hi)(hst:st<=8*l.length)(hl:l.length<=1000000)(h0:0<left)(h1:left<=32768):
 aL pg My #[.pointer (some ⟨hi,0,none⟩),.int .i64 left] w (λr w'=>aUe w' lo hi l (awU (aG l) st left) r/\aE w w' (λy=>y=hi)):=by
 refine asW ?_;obtain⟨m,hm,hm1,hm2,hf1,hf2,hf3⟩:=aGH h0 h1;unfold asV Xq;have e1:(left:Int)+1=((left+1:Nat):Int):=by omega
 simp(disch:=omega)only[SV,e1];refine(aJq (x:=left+1) (by omega) w).mono ?_;rintro r w1 ⟨rfl,rfl⟩;rw[hm];have e2:((m+1:Nat):Int)-1=(m:Int):=by omega
 simp(disch:=omega)only[SV,e2];refine(afO (n:=m) h hlh (by omega) hst hl).mono ?_;have hbl:=cJ l;unfold awU;simp only[hm,a3X];rintro r w2 (⟨hsh,rfl,hf,x2⟩|⟨hsh,rfl,hf,x2⟩)
 .have n1:((10:Int) !=0)=true:=rfl;rw[if_pos (by omega)];simp(disch:=omega)only[SV,n1];exact⟨rfl,x2.mono λ_ _ h=>h.elim⟩
 .have n1:((0:Int) !=0)=false:=rfl;rw[if_neg (by omega)];have hlt:=FC (aG l) st m;have hnum:tX (((aG l).drop st).take m)=iK (aG l) st m:=rfl;rw[hnum];have hsh1:=aPd (n:=m+1) (by omega);have hsh0:=aPd (n:=m) (by omega);have hp:2^m<=2^16:=a1K (by omega) hm2;generalize iK (aG l) st m=low at*;rw[hf3]at*;generalize hq:2^m=q at*;have e3:((2*q:Nat):Int)-2-(left:Int)=((2*q-2-left:Nat):Int):=by omega
  by_cases hfr:low<2*q-2-left
  .have d1:decide ((low:Int)<((2*q-2-left:Nat):Int))=true:=by simp only[decide_eq_true_eq];omega
   rw[if_pos hfr];simp(disch:=omega)only[SV,n1,hsh1,e3,d1];exact⟨⟨rfl,hf⟩,x2⟩
  .have d1:decide ((low:Int)<((2*q-2-left:Nat):Int))=false:=by simp only[decide_eq_false_iff_not];omega
   rw[if_neg hfr];simp(disch:=omega)only[SV,n1,hsh1,e3,d1];refine(afO (n:=1) hf hlh (by omega) hsh hl).mono ?_;rintro r w3 (⟨hs3,rfl,hf3,x3⟩|⟨hs3,rfl,hf3,x3⟩)
   .have n1:((10:Int) !=0)=true:=rfl;rw[if_pos (by omega)];simp(disch:=omega)only[SV,n1];exact⟨rfl,x2.seq (x3.mono λ_ _ h=>h.elim)⟩
   .rw [if_neg (by omega)];have hnum:tX (((aG l).drop (st+m)).take 1)=iK (aG l) (st+m) 1:=rfl;rw[hnum];by_cases hz:iK (aG l) (st+m) 1=0
    .have n2:(((iK (aG l) (st+m) 1:Nat):Int)==0)=true:=by rw[hz]<;>rfl
     rw[if_pos hz];simp(disch:=omega)only[SV,n1,n2];exact⟨⟨rfl,hf3⟩,x2.seq x3⟩
    .have n2:(((iK (aG l) (st+m) 1:Nat):Int)==0)=false:=beq_eq_false_iff_ne.2 (by omega);have e4:(low:Int)+(q:Int)-((2*q-2-left:Nat):Int)=((low+q-(2*q-2-left):Nat):Int):=by omega
     rw[if_neg hz];simp(disch:=omega)only[SV,n1,n2,e2,hsh0,e4];exact⟨⟨rfl,hf3⟩,x2.seq x3⟩
theorem aOy(h:Fwd w lo hi l st)(hlh:lo<=hi)(hst:st<=8*l.length)(hl:l.length<=1000000):
 aL pg Hr #[.pointer (some ⟨hi,0,none⟩)] w (λr w'=>aUe w' lo hi l (noR (aG l) ((aG l).length+1) st) r/\aE w w' (λy=>y=hi)):=by
 refine agM ?_;have hbl:=cJ l;unfold aaR Oy QV FB QU Fz xV;refine aN.rule (λm (t:a7C) w'=>∃k0 st':Nat,t= .int .i64 k0/\noR (aG l) ((aG l).length+1) st=(match noR (aG l) m st' with|none=>none|some (k,s)=>some (k0+k,s))/\(aG l).length<2*m+st'/\st'<=8*l.length/\k0<=3*st'/\Fwd w' lo hi l st'/\aE w w' (λy=>y=hi)) ((aG l).length+1)
  ⟨0,st,rfl,by cases noR (aG l) ((aG l).length+1) st with
    |none=>rfl
    |some x=>simp,by omega,hst,by omega,h,aE.refl _ _⟩ ?_
 rintro m t w1 ⟨k0,st',rfl,hr,hm,hs',hk0,hf,x1⟩;obtain⟨m,rfl⟩:∃m',m=m'+1:=⟨m-1,by omega⟩;unfold QT;refine(afO (n:=2) hf hlh (by omega) hs' hl).mono ?_;rw[aJx (aG l) m st']at hr;rintro r w2 (⟨hsh,rfl,hf2,x2⟩|⟨hsh,rfl,hf2,x2⟩)
 .have n1:((10:Int) !=0)=true:=rfl;rw[if_pos (by omega)]at hr;rw[hr];simp(disch:=omega)only[SV,n1];exact⟨rfl,x1.seq (x2.mono λ_ _ h=>h.elim)⟩
 .have n1:((0:Int) !=0)=false:=rfl;rw[if_neg (by omega)]at hr;have hlt:=FC (aG l) st' 2;have hnum:tX (((aG l).drop st').take 2)=iK (aG l) st' 2:=rfl;rw[hnum];generalize iK (aG l) st' 2=x at*;have e1:(k0:Int)+(x:Int)=((k0+x:Nat):Int):=by omega
  by_cases h3:x<3
  .have d1:decide ((x:Int)<3)=true:=by simp;omega
   rw[if_pos h3]at hr;rw[hr];unfold Fy;simp(disch:=omega)only[SV,n1,d1,e1];exact⟨⟨rfl,hf2⟩,x1.seq x2⟩
  .have d1:decide ((x:Int)<3)=false:=by simp;omega
   rw[if_neg h3]at hr;simp(disch:=omega)only[SV,n1,d1,e1];refine⟨m,by omega,k0+x,st'+2,rfl, ?_,by omega,by omega,by omega,hf2,x1.seq x2⟩;rw[hr];cases noR (aG l) m (st'+2)with
   |none=>rfl
   |some y=>
    obtain⟨k,s⟩:=y;have:x=3:=by omega
    subst this;simp;omega
def aKN(v:a7C)(o:Option (Nat×Nat))(r:a7C):Prop:=match o with
 |none=>∃st':Nat,r= .tuple #[.agg #[v,.int .i64 st'],.int .i64 0,.int .i64 10]
 |some (x,st)=>r= .tuple #[.agg #[v,.int .i64 st],.int .i64 x,.int .i64 0]
theorem aOV{L:List Bool}(hs:Bl w v L)(hst:st<=L.length)(hl:L.length<=10000000)(h0:0<left)(h1:left<=32768):
 aL pg U8 #[.agg #[v,.int .i64 st],.int .i64 left] w (λr w'=>aKN v (awU L st left) r/\aE w w' aP):=by
 refine aB4 ?_;obtain⟨m,hm,hm1,hm2,hf1,hf2,hf3⟩:=aGH h0 h1;obtain⟨a,c,rfl,hc⟩:=Dh hs;unfold aEp akA;refine bY λw1 o1 x1 s1=> ?_;refine yU λw2 o2 x2 s2=> ?_;simp only[Value.cells]at o1;have o1:=o1.ext x2 (λh=>h);have l1:=cD (off:=0) o1 (by simp);simp only[a1F,a1C,a1G]at l1;have x02:aE w w2 aP:=x1.seq x2;have e1:(left:Int)+1=((left+1:Nat):Int):=by omega
 have hw1:w.heap.size<=w.heap.size:=a1J _;have hw2:w.heap.size<=w1.heap.size:=x1.size;have hne:w.heap.size≠w1.heap.size:=by omega
 obtain⟨p1,hp1⟩:∃p1,p1=w.heap.size:=⟨_,rfl⟩;obtain⟨p2,hp2⟩:∃p2,p2=w1.heap.size:=⟨_,rfl⟩;rw[<-hp1,<-hp2]at hne;rw[<-hp1]at o1 l1⊢;rw[<-hp2]at o2 hw2⊢;simp(disch:=omega)only[SV,e1];refine(aT1 (x:=left+1) (by omega) w2).mono ?_;rintro r w3 ⟨rfl,rfl⟩;rw[hm];have e2:((m+1:Nat):Int)-1=(m:Int):=by omega
 simp(disch:=omega)only[SV,e2,l1];unfold awU;simp only[hm,a3X];refine(afY (n:=m) (hs.ext x02 (aR _)) (by omega) hst hl).mono ?_
 have fin:∀(st':Nat) (xv:Int) (ev:Int) (w':a7B) (RR:a7C->a7B->Prop),aT w' p1 [.slice a L.length c,.int .i64 st']->aT w' p2 [.slice none 0 0,.int .i64 0]->aE w w' aP→
     (∀w'',aE w w'' aP->RR (.tuple #[.agg #[.slice a L.length c,.int .i64 st'],.int .i64 xv,.int .i64 ev]) w'')→
     bF pg (cK 213 (.pointer (some ⟨p1,0,none⟩))) w' λt15 w=>bF pg (dL 213 (.pointer (some ⟨p2,0,none⟩)) t15) w λ_u w=>LdR pg 213 (.pointer (some ⟨p2,0,none⟩)) w λr0=>RR (.tuple #[r0,.int .i64 xv,.int .i64 ev]) w:=by
  intro st' xv ev w' RR q1 q2 qx qk;have l1:=cD (off:=0) q1 (by simp);simp only[a1F,a1C,a1G]at l1;simp(disch:=omega)only[SV,l1];refine bE q2 rfl (by simp[one]) (by simp) λw6 o6 x6 s6=> ?_;refine iF o6 (by simp[aF]) ?_;simp only[aF,a1E,a1D,a1F,a1C,a1G];exact qk _ (qx.new x6 hw2)
 have hx1:w.heap.size<=p1:=by omega
 rintro r w4 ⟨⟨hsh,rfl⟩|⟨hsh,rfl⟩,x4⟩
 .have n1:((10:Int) !=0)=true:=rfl;rw[if_pos (by omega)];simp(disch:=omega)only[SV];refine bE (o1.ext x4 (λh=>h)) rfl (by simp[one]) (by simp) λw5 o5 x5 s5=> ?_;simp only[aF,a1E,a1D]at o5;simp(disch:=omega)only[SV,n1];exact fin st 0 10 w5 (λr w'=>aKN (.slice a L.length c) none r/\aE w w' aP) o5 ((o2.ext x4 (λh=>h)).ext x5 (by omega)) ((x02.seq x4).new x5 hx1) λw6 x6=>⟨⟨_,rfl⟩,x6⟩
 .have n1:((0:Int) !=0)=false:=rfl;rw[if_neg (by omega)];have hlt:=FC L st m;have hsh1:m+1<=40:=by omega
  have hp:2^m<=2^16:=a1K (by omega) hm2;simp(disch:=omega)only[SV];refine bE (o1.ext x4 (λh=>h)) rfl (by simp[one]) (by simp) λw5 o5 x5 s5=> ?_;simp only[aF,a1E,a1D]at o5;have x05:aE w w5 aP:=(x02.seq x4).new x5 hx1;have o25:=(o2.ext x4 (λh=>h)).ext x5 (by omega);simp(disch:=omega)only[SV,n1,e2];refine(IE m (by omega) _).mono ?_;rintro r w6 ⟨rfl,rfl⟩;have hpow:((2^m:Nat):Int)=(2:Int)^m:=by simp
  rw[<-hpow];generalize iK L st m=low at*;rw[hf3]at*;generalize hq:2^m=q at*;have e3:2*(q:Int)-2-(left:Int)=((2*q-2-left:Nat):Int):=by omega
  by_cases hfr:low<2*q-2-left
  .have d1:decide ((low:Int)<((2*q-2-left:Nat):Int))=true:=by simp only[decide_eq_true_eq];omega
   rw[if_pos hfr];have l5:=cD (off:=0) o5 (by simp);simp only[a1F,a1C,a1G]at l5;simp(disch:=omega)only[SV,e3,d1,l5];refine bE o25 rfl (by simp[one]) (by simp) λw7 o7 x7 s7=> ?_;refine iF o7 (by simp[aF]) ?_;simp only[aF,a1E,a1D,a1F,a1C,a1G];exact⟨rfl,x05.new x7 hw2⟩
  .have d1:decide ((low:Int)<((2*q-2-left:Nat):Int))=false:=by simp only[decide_eq_false_iff_not];omega
   rw[if_neg hfr];have l5:=cD (off:=0) o5 (by simp);simp only[a1F,a1C,a1G]at l5;simp(disch:=omega)only[SV,e3,d1,l5];refine(afY (n:=1) (hs.ext x05 (aR _)) (by omega) hsh hl).mono ?_;rintro r w7 ⟨⟨hs3,rfl⟩|⟨hs3,rfl⟩,x7⟩
   .have n1:((10:Int) !=0)=true:=rfl;rw[if_pos (by omega)];simp(disch:=omega)only[SV];refine bE (o5.ext x7 (λh=>h)) rfl (by simp[one]) (by simp) λw8 o8 x8 s8=> ?_;simp only[aF,a1E,a1D]at o8;simp(disch:=omega)only[SV,n1];exact fin _ 0 10 w8 (λr w'=>aKN (.slice a L.length c) none r/\aE w w' aP) o8 ((o25.ext x7 (λh=>h)).ext x8 (by omega)) ((x05.seq x7).new x8 hx1) λw6 x6=>⟨⟨_,rfl⟩,x6⟩
   .rw [if_neg (by omega)];have hb1:=FC L (st+m) 1;simp(disch:=omega)only[SV];refine bE (o5.ext x7 (λh=>h)) rfl (by simp[one]) (by simp) λw8 o8 x8 s8=> ?_;simp only[aF,a1E,a1D]at o8;have x08:aE w w8 aP:=(x05.seq x7).new x8 hx1;have o28:=(o25.ext x7 (λh=>h)).ext x8 (by omega);have l8:=cD (off:=0) o8 (by simp);simp only[a1F,a1C,a1G]at l8;by_cases hz:iK L (st+m) 1=0
    .have n2:(((iK L (st+m) 1:Nat):Int)==1)=false:=by rw[hz]<;>rfl
     rw[if_pos hz];simp(disch:=omega)only[SV,n1,n2,l8];refine bE o28 rfl (by simp[one]) (by simp) λw9 o9 x9 s9=> ?_;refine iF o9 (by simp[aF]) ?_;simp only[aF,a1E,a1D,a1F,a1C,a1G];exact⟨rfl,x08.new x9 hw2⟩
    .have n2:(((iK L (st+m) 1:Nat):Int)==1)=true:=by rw[show iK L (st+m) 1=1 from by omega]<;>rfl
     have e4:(low:Int)+(q:Int)-((2*q-2-left:Nat):Int)=((low+q-(2*q-2-left):Nat):Int):=by omega
     rw[if_neg hz];simp(disch:=omega)only[SV,n1,n2,l8,e4];refine bE o28 rfl (by simp[one]) (by simp) λw9 o9 x9 s9=> ?_;refine iF o9 (by simp[aF]) ?_;simp only[aF,a1E,a1D,a1F,a1C,a1G];exact⟨rfl,x08.new x9 hw2⟩
theorem aEa(L:List Bool)(sym f st left:Nat)(ps:List Int):rdC L sym (f+1) st left ps=if left=0 then .ok (ps,st)else match awU L st left with
 |none=> .error 10
 |some (v,st1)=>
  if v=1 then match noR L (L.length+1) st1 with
    |none=> .error 10
    |some (k,st2)=>if sym<ps.length+1+k then .error 11 else rdC L sym f st2 left (ps++0::List.replicate k 0)
  else if sym<ps.length+1 then .error 11 else rdC L sym f st1 (left-(bX ((v:Int)-1)).toNat) (ps++[(v:Int)-1]):=by rw[rdC]<;>rfl
theorem aH7 (k:Nat):(Builtin.zeroCells (Value.int .i64 0).cells k).toList=List.replicate k (Value.int .i64 0):=by
 apply a3Y
 .rw [a4B,pK,a2C];simp[Value.cells]
 .intro i h1 h2;simp[Builtin.zeroCells,Value.cells,Nat.mod_one]
theorem aS2 {n m base:Nat}{ty:TypeId}{l:List a7C}(h:mH w base 1 v n l)(hb:base<=w.heap.size)(hn:(n+m)*8<=140737488355328){K:a7C->a7B->Prop}
 (hk:∀v' w',mH w' base 1 v' (n+m) (l++List.replicate m (.int .i64 0))->aE w w' (λy=>base<=y)->K v' w'):bF pg (yM .append #[88,3] ty [v,.int .i64 m]) w K:=
 aKn (i:=Tryz.t3) (S:=λy=>base<=y) Tryz.underlying88 Tryz.underlying3 nL rfl rfl rfl h (by decide) (by intro y hy;simp[Value.cells]at hy;subst hy;rfl) (λb hbb=>a3K hb hbb) (by omega) (by rw[show Tryz.t3.bytes=8 from rfl];omega) (by rw[show Tryz.t3.bytes=8 from rfl];omega)
  (λv' w' o x=>hk v' w' (by rw[<-aH7];exact o) x)
def aqC(w:a7B)(base:Nat)(o:Except Int (Nat×List Int×Nat))(r:a7C):Prop:=match o with
 | .error e=>r= .tuple #[.agg #[.int .i64 0,.slice none 0 0],.int .i64 0,.int .i64 e]
 | .ok (log,ps,used)=>∃v,r= .tuple #[.agg #[.int .i64 log,v],.int .i64 used,.int .i64 0]/\mH w base 1 v ps.length (ps.map (Value.int .i64))
theorem VT{p6:Nat}{w0:a7B}{e:Int}(o6:aT w p6 [.int .i64 0,.slice none 0 0])(hx:aE w0 w aP)(hp:w0.heap.size<=p6){RR:a7C->a7B->Prop}
 (hR:∀w',aE w0 w' aP->RR (.tuple #[.agg #[.int .i64 0,.slice none 0 0],.int .i64 0,.int .i64 e]) w'):
 bF pg (dL 235 (.pointer (some ⟨p6,0,none⟩)) (.agg #[.int .i64 0,.slice none 0 0])) w λ_u w=>LdR pg 235 (.pointer (some ⟨p6,0,none⟩)) w λr0=>RR (.tuple #[r0,.int .i64 0,.int .i64 e]) w:=by
 refine dS o6 rfl (by simp[one]) (by simp) λw6 o6 x6 s6=> ?_;refine nF o6 (by simp[aF]) ?_;simp only[aF,a1E,a1D,a1F,a1C,a1G];exact hR _ (hx.new x6 hp)
theorem aOL{log p6 pc sym:Nat}{w0:a7B}{res:Except Int (List Int×Nat)}(hlh:lo<=hi)(hlp:w0.heap.size<=p6)(hl:l.length<=1000000)(h6:p6<lo)(hhp:hi<pc)(hsym:sym<=1000000)(hlog:log<=15)
 (o6:aT w p6 [.int .i64 0,.slice none 0 0]) (oc:aT w pc [.int .i64 log,.slice none 0 0]) (hf:Fwd w lo hi l 4) (h4:4<=8*l.length) (hx:aE w0 w aP)
 (hres:rdC (aG l) sym ((aG l).length+1) 4 (2^log) []=res)
 {RR:a7C->a7B->Prop} (hE:∀e w',res= .error e->aE w0 w' aP->RR (.tuple #[.agg #[.int .i64 0,.slice none 0 0],.int .i64 0,.int .i64 e]) w')
 (hO:∀ps st v w',res= .ok (ps,st)->mH w' w0.heap.size 1 v ps.length (ps.map (Value.int .i64))->aE w0 w' aP->RR (.tuple #[.agg #[.int .i64 log,v],.int .i64 (((st+7)/8:Nat)),.int .i64 0]) w'):
 B4 RR (.int .i64 sym) (.pointer (some ⟨p6,0,none⟩)) (.pointer (some ⟨hi,0,none⟩)) (.pointer (some ⟨pc,0,none⟩)) (.int .i64 (2^log:Nat)) w:=by
 have hbl:=cJ l;have hp15:2^log<=2^15:=a1K (by omega) hlog;unfold B4 Fx;have lpc:=oc.lt;refine aN.rule (λm (t:a7C) w'=>∃(st left:Nat) (ps:List Int) (v:a7C),t= .int .i64 left/\rdC (aG l) sym m st left ps=res/\(aG l).length<m+st/\st<=8*l.length/\left<=32768/\ps.length<=1000000/\
  aT w' p6 [.int .i64 0,.slice none 0 0]/\aT w' pc [.int .i64 log,v]/\mH w' (pc+1) 1 v ps.length (ps.map (Value.int .i64))/\Fwd w' lo hi l st/\aE w w' (λy=>y=hi∨pc<=y)) ((aG l).length+1)
  ⟨4,2^log,[],_,rfl,hres,by omega,h4,by omega,by simp,o6,oc,mH.nil _ _ _,hf,aE.refl _ _⟩ ?_
 rintro m t w1 ⟨st,left,ps,v,rfl,hr,hm,hst,hleft,hpl,o61,oc1,ov,hf1,x1⟩;have z1:=x1.size;have hx0:=hx.size;have hx1:∀{w':a7B},aE w w' (λy=>y=hi∨pc<=y)->aE w0 w' aP:=λh=>hx.trans h λb hb hh=>by omega
 obtain⟨m,rfl⟩:∃m',m=m'+1:=⟨m-1,by omega⟩;rw[aEa]at hr;obtain⟨av,cv,hv⟩:=ov.len;unfold aaQ aaP;by_cases h0:left=0
 .have d1:decide ((0:Int)<(left:Int))=false:=by simp;omega
  rw[if_pos h0]at hr;subst hv;have lc:=fP (off:=0) (aH oc1) (by simp);have lc':=fP (off:=0) oc1 (by simp);simp only[a1F,a1C,a1G]at lc lc';unfold Ow;simp(disch:=omega)only[SV,d1,lc,lc'];refine(aOp (hf1.ext (aE.dr w1 aP) (λ_ _ _ h=>h) hlh) (by omega)).mono ?_;rintro r w2 ⟨rfl,rfl⟩;simp(disch:=omega)only[SV,lc];refine dS (aH o61) rfl (by simp[one]) (by simp) λw6 o6 x6 s6=> ?_;refine nF o6 (by simp[aF]) ?_;simp only[aF,a1E,a1D,a1F,a1C,a1G];have x16:aE w1 w6 (λy=>y=p6):=(aE.dr w1 _).seq x6;have ov6:=ov.ext x16 (λb hb h=>by omega);refine hO ps st _ w6 hr.symm ⟨ov6.1, ?_⟩ ((hx1 x1).new x16 (by omega));rcases ov6.2 with h|⟨b,c,rest,q1,q2,q3⟩
  .exact .inl h
  .exact .inr ⟨b,c,rest,q1,by omega,q3⟩
 .have d1:decide ((0:Int)<(left:Int))=true:=by simp;omega
  rw[if_neg h0]at hr;simp(disch:=omega)only[SV,d1];unfold Ox aaO;refine(aTZ hf1 hlh hst hl (by omega) hleft).mono ?_;rintro r w2 ⟨hv2,x2⟩;have x12:aE w w2 (λy=>y=hi∨pc<=y):=x1.seq (x2.mono λy _ h=> .inl h);have o62:=o61.ext x2 (by omega);have oc2:=oc1.ext x2 (by omega);have ov2:=ov.ext x2 (λb hb h=>by omega);have z2:=x2.size;cases hval:awU (aG l) st left with
  |none=>
   rw[hval]at hr hv2;obtain rfl:=hv2;have n1:((10:Int) !=0)=true:=rfl;simp(disch:=omega)only[SV,n1];exact VT (RR:=RR) (e:=10) o62 (hx1 x12) hlp λw' h=>hE _ _ hr.symm h
  |some y=>
   obtain⟨x,st1⟩:=y;rw[hval]at hr hv2;simp only at hr;obtain⟨rfl,hf2⟩:=hv2;obtain⟨b1,b2,b3⟩:=aCD hval (by omega);have n1:((0:Int) !=0)=false:=rfl;simp(disch:=omega)only[SV,n1];refine(aHB _ _).mono ?_;rintro r w3 ⟨rfl,rfl⟩;have c1:=oc2.cell (off:=1);simp only[a1A,a1B]at c1;have hpp:bX ((x:Int)-1)<=left:=by unfold bX;split<;>omega
   have hpn:=mD (p:=(x:Int)-1) (by omega);obtain⟨pq,hpq⟩:∃pq:Nat,bX ((x:Int)-1)=pq:=⟨(bX ((x:Int)-1)).toNat,by omega⟩;rw[hpq]at hr hpp⊢;rw[a1H]at hr;have e1:(left:Int)-(pq:Int)=((left-pq:Nat):Int):=by omega
   simp(disch:=omega)only[SV,c1,e1];refine pD (cells:= #[.int .i64 ((x:Int)-1)]) (by decide) (by decide) (by kernel_rfl) λw4 o4 x4 s4=> ?_;have z4:=x4.size;refine HD (m:=1) (news:=[.int .i64 ((x:Int)-1)]) (ov2.ext x4 (λ_ _ h=>h)) (o4.cl (off:=0) (l:=[.int .i64 ((x:Int)-1)]) (n:=1) rfl (λi hi=>by rw[a1Q])) (by simp[one]) (by omega) (by omega) λv5 w5 o5 x5=> ?_;have z5:=x5.size;obtain⟨av5,cv5,rfl⟩:=o5.len;have oc5:=(oc2.ext x4 (λh=>h)).ext x5 (by omega);refine aAm oc5 rfl (by simp) λw6 oc6 x6 s6=> ?_;simp only[a1E,a1D]at oc6;have z6:=x6.size;have ov6:=o5.ext x6 (λb hb h=>by omega);have x26:aE w3 w6 (λy=>pc<=y):=((x4.mono λ_ _ h=>h.elim).seq (x5.mono λy _ h=>by omega)).seq (x6.mono λy _ h=>by omega);have x16:aE w w6 (λy=>y=hi∨pc<=y):=x12.seq (x26.mono λy _ h=> .inr h);have o66:=o62.ext x26 (by omega);have hf6:=hf2.ext x26 (λb _ _=>by omega) hlh;have hsz:pc<w6.heap.size:=oc6.lt;rw[show(ps.map (Value.int .i64)++[Value.int .i64 ((x:Int)-1)])=(ps++[(x:Int)-1]).map (Value.int .i64)from by simp]at ov6;have hwl:IntKind.i64.wrap (left:Int)=left:=dM (by omega) (by omega)
   have tail:∀(ps':List Int) (st' left':Nat) (a:Option Addr) (cc:Nat) (w':a7B),(if sym<ps'.length then .error 11 else rdC (aG l) sym m st' left' ps')=res->ps'.length<=10000000->left'<=32768->st<st'->st'<=8*l.length→
       aT w' p6 [.int .i64 0,.slice none 0 0]->aT w' pc [.int .i64 log,.slice a ps'.length cc]->mH w' (pc+1) 1 (.slice a ps'.length cc) ps'.length (ps'.map (Value.int .i64))->Fwd w' lo hi l st'->aE w w' (λy=>y=hi∨pc<=y)→
       Fw (λ_ _ _ _ aW w''=>∃m',m'<m+1/\∃(st left:Nat) (ps:List Int) (v:a7C),aW= .int .i64 left/\rdC (aG l) sym m' st left ps=res/\(aG l).length<m'+st/\st<=8*l.length/\left<=32768/\ps.length<=1000000/\
        aT w'' p6 [.int .i64 0,.slice none 0 0]/\aT w'' pc [.int .i64 log,v]/\mH w'' (pc+1) 1 v ps.length (ps.map (Value.int .i64))/\Fwd w'' lo hi l st/\aE w w'' (λy=>y=hi∨pc<=y)) RR
        (.int .i64 sym) (.pointer (some ⟨p6,0,none⟩)) (.pointer (some ⟨hi,0,none⟩)) (.pointer (some ⟨pc,0,none⟩)) (.int .i64 left') w':=by
    intro ps' st' left' a cc w' q1 q2 q3 q4 q5 q6 q7 q8 q9 q10;have c1:=q7.cell (off:=1);simp only[a1A,a1B]at c1;unfold Fw;by_cases hgt:sym<ps'.length
    .have d1:decide ((sym:Int)<(ps'.length:Int))=true:=by simp;omega
     rw[if_pos hgt]at q1;simp(disch:=omega)only[SV,c1,d1];exact VT (RR:=RR) (e:=11) q6 (hx1 q10) hlp λw' h=>hE _ _ q1.symm h
    .have d1:decide ((sym:Int)<(ps'.length:Int))=false:=by simp;omega
     have d2:decide ((left':Int)<0)=false:=by simp
     rw[if_neg hgt]at q1;simp(disch:=omega)only[SV,c1,d1,d2];exact⟨m,by omega,st',left',ps',_,rfl,q1,by omega,q5,q3,by omega,q6,q7,q8,q9,q10⟩
   by_cases h1:x=1
   .subst h1;have n2:(((1:Nat):Int)-1==0)=true:=rfl;obtain rfl:pq=0:=by
     have:bX (((1:Nat):Int)-1)=0:=rfl;omega
    rw[if_pos rfl]at hr;simp(disch:=omega)only[SV,n2];refine(aOy hf6 hlh (by omega) hl).mono ?_;rintro r w7 ⟨hv7,x7⟩;have x17:aE w w7 (λy=>y=hi∨pc<=y):=x16.seq (x7.mono λy _ h=> .inl h);have o67:=o66.ext x7 (by omega);have oc7:=oc6.ext x7 (by omega);have ov7:=ov6.ext x7 (λb hb h=>by omega);have z7:=x7.size;cases hno:noR (aG l) ((aG l).length+1) st1 with
    |none=>
     rw[hno]at hr hv7;obtain rfl:=hv7;have n1:((10:Int) !=0)=true:=rfl;simp(disch:=omega)only[SV,n1];exact VT (RR:=RR) (e:=10) o67 (hx1 x17) hlp λw' h=>hE _ _ hr.symm h
    |some y=>
     obtain⟨k,st2⟩:=y;rw[hno]at hr hv7;simp only at hr;obtain⟨rfl,hf7⟩:=hv7;obtain⟨k1,k2,k3⟩:=aHu hno;have n1:((0:Int) !=0)=false:=rfl;by_cases hgt:sym<k
     .have d1:decide ((sym:Int)<(k:Int))=true:=by simp;omega
      rw[if_pos (by omega)]at hr;simp(disch:=omega)only[SV,n1,d1];exact VT (RR:=RR) (e:=11) o67 (hx1 x17) hlp λw' h=>hE _ _ hr.symm h
     .have d1:decide ((sym:Int)<(k:Int))=false:=by simp;omega
      have c7:=oc7.cell (off:=1);simp only[a1A,a1B]at c7;simp(disch:=omega)only[SV,n1,d1,c7];refine aS2 (m:=k) ov7 (by omega) (by omega) λv8 w8 o8 x8=> ?_;obtain⟨av8,cv8,rfl⟩:=o8.len;have z8:=x8.size;refine aAm (oc7.ext x8 (by omega)) rfl (by simp) λw9 oc9 x9 s9=> ?_;simp only[a1E,a1D]at oc9;have z9:=x9.size;have x79:aE w7 w9 (λy=>pc<=y):=(x8.mono λy _ h=>by omega).seq (x9.mono λy _ h=>by omega);have ov9:=o8.ext x9 (λb hb h=>by omega);have hlk:ps.length+1+k=(ps++0::List.replicate k 0).length:=by simp;omega
      have hmk:List.map (Value.int .i64) (ps++[((1:Nat):Int)-1])++List.replicate k (Value.int .i64 0)=(ps++0::List.replicate k 0).map (Value.int .i64):=by simp
      rw[hmk,hlk]at ov9;rw[hlk]at hr oc9;refine tail _ st2 left _ _ w9 hr (by rw[<-hlk];omega) hleft (by omega) (by omega) (o67.ext x79 (by omega)) oc9 ov9 (hf7.ext x79 (λb _ _=>by omega) hlh) (x17.seq (x79.mono λy _ h=> .inr h))
   .have n2:((x:Int)-1==0)=false:=beq_eq_false_iff_ne.2 (by omega);rw[if_neg h1]at hr;simp(disch:=omega)only[SV,n2];rw[show ps.length+1=(ps++[(x:Int)-1]).length from by simp]at hr ov6 oc6;exact tail _ st1 _ _ _ w6 hr (by simp;omega) (by omega) b1 (by omega) o66 oc6 ov6 hf6 x16
theorem aDX{bv:a7C}{most:Int}{sym:Nat}(hb:Bs w bv l)(hl:l.length<=1000000)(hsym:sym<=1000000):
 aL pg Rs #[bv,.int .i64 most,.int .i64 sym] w (λr w'=>aqC w' w.heap.size (uB (aG l) most sym) r/\aE w w' aP):=by
 refine ayT ?_;obtain⟨RR,hRR⟩:∃RR:a7C->a7B->Prop,RR=λr w'=>aqC w' w.heap.size (uB (aG l) most sym) r/\aE w w' aP:=⟨_,rfl⟩;rw[<-hRR];have hbl:=cJ l;unfold aA0 Xp Xo;refine lE λw1 o1 x1 s1=> ?_;refine(aHt (hb.ext x1 (aR _)) (by omega)).mono ?_;rintro r w2 ⟨hi,rfl,hi1,hi2,hf2,x2⟩;have z1:=x1.size;have z2:=x2.size;simp(disch:=omega)only[SV];refine(afO (n:=4) hf2 hi1 (by omega) (by omega) hl).mono ?_;rintro r w3 (⟨hsh,rfl,hf3,x3⟩|⟨hsh,rfl,hf3,x3⟩)
 .have n1:((10:Int) !=0)=true:=rfl;have hrl:uB (aG l) most sym= .error 10:=by unfold uB;rw[if_pos (by omega)]
  rw[hrl]at hRR;simp(disch:=omega)only[SV,n1];exact VT (RR:=RR) (e:=10) ((o1.ext x2 (λh=>h)).ext x3 (λh=>h)) ((x1.seq x2).seq x3) (a1J _) λw' h=>by rw[hRR];exact⟨rfl,h⟩
 .have n1:((0:Int) !=0)=false:=rfl;have hnum:tX (((aG l).drop 0).take 4)=iK (aG l) 0 4:=rfl;have hlt:=FC (aG l) 0 4;have hrl:uB (aG l) most sym=(if most<((iK (aG l) 0 4+5:Nat):Int)∨15<iK (aG l) 0 4+5 then .error 12 else match rdC (aG l) sym ((aG l).length+1) 4 (2^(iK (aG l) 0 4+5)) []with
   | .error e=> .error e
   | .ok (ps,st)=> .ok (iK (aG l) 0 4+5,ps,(st+7)/8)):=by unfold uB;rw[if_neg (by omega)]<;>rfl
  rw[hrl]at hRR;rw[hnum];generalize iK (aG l) 0 4=x at*;have e1:(x:Int)+5=((x+5:Nat):Int):=by omega
  have x03:aE w w3 aP:=(x1.seq x2).trans x3 λb hb h=>by omega
  have o13:=(o1.ext x2 (λh=>h)).ext x3 (by omega);simp(disch:=omega)only[SV,n1,e1];refine lE λw4 o4 x4 s4=> ?_;refine dS o4 rfl (by simp[one]) (by simp) λw5 o5 x5 s5=> ?_;simp only[aF,a1E,a1D]at o5;have z3:=x3.size;have z4:=x4.size;have x05:aE w w5 aP:=(x03.seq x4).new x5 (by omega);have x35:aE w3 w5 aP:=x4.new x5 (by omega);have o15:=o13.ext x35 (λh=>h);have c5:=o5.cell (off:=0);simp only[a1A,a1B]at c5;by_cases hmo:most<((x+5:Nat):Int)
  .have d1:decide (most<((x+5:Nat):Int))=true:=by simpa using hmo
   rw[if_pos (.inl hmo)]at hRR;simp(disch:=omega)only[SV,c5,d1];exact VT (RR:=RR) (e:=12) o15 x05 (a1J _) λw' h=>by rw[hRR];exact⟨rfl,h⟩
  have d1:decide (most<((x+5:Nat):Int))=false:=by simpa using hmo
  by_cases h15:15<x+5
  .have d2:decide ((15:Int)<((x+5:Nat):Int))=true:=by simp;omega
   rw[if_pos (.inr h15)]at hRR;simp(disch:=omega)only[SV,c5,d1,d2];exact VT (RR:=RR) (e:=12) o15 x05 (a1J _) λw' h=>by rw[hRR];exact⟨rfl,h⟩
  have d2:decide ((15:Int)<((x+5:Nat):Int))=false:=by simp;omega
  rw[if_neg (by omega)]at hRR;have hsh:=aPd (n:=x+5) (by omega);simp(disch:=omega)only[SV,c5,d1,d2,hsh];have hl5:=o5.lt;refine aOL (l:=l) (w0:=w) (log:=x+5) (res:=rdC (aG l) sym ((aG l).length+1) 4 (2^(x+5)) []) (lo:=w1.heap.size) hi1 (a1J _) hl (by omega) (by omega) hsym (by omega) o15 o5 (hf3.ext x35 (λ_ _ _ h=>h) hi1) (by omega) x05 rfl ?_ ?_
  .intro e w' he hx;rw[hRR,he];exact⟨rfl,hx⟩
  .intro ps st v w' he ho hx;rw[hRR,he];exact⟨⟨v,rfl,ho⟩,hx⟩
end Go.Proofs.YthohephggmkeeaaGreatDoor
namespace Go.Pu
open Go Go.En
variable{L:List Bool}{most:Int}{sym:Nat}
theorem Uh{log used:Nat}{ps:List Int}(h:uB L most sym= .ok (log,ps,used)):(ps.length<=256->May log ps)/\(log:Int)<=most/\ps.length<=sym:=by
 unfold uB at h;split at h
 .cases h
 .simp only at h;split at h
  .cases h
  .rename_i h1 h2;have hpow:((2^(iK L 0 4+5):Nat):Int)=(2:Int)^(iK L 0 4+5):=by simp
   have hp:=a2G (iK L 0 4+5);cases hr:rdC L sym (L.length+1) 4 (2^(iK L 0 4+5)) []with
   |error e=>rw[hr]at h;cases h
   |ok x=>
    obtain⟨p,st⟩:=x;rw[hr]at h;cases h;have e0:Gq []=0:=rfl;obtain⟨q1,q2,q3,q4,q5⟩:=azB (tot:=(2:Int)^(iK L 0 4+5)) hr (by simp) (by rw[e0,hpow];omega) (λh=>by omega);exact⟨λhs=>⟨by omega,by omega,q5,hs,q4,q1,q2⟩,by omega,q3⟩
theorem aHE{e:Int}:∀{f st left:Nat} {ps:List Int},rdC L sym f st left ps= .error e->e=10∨e=11
 |0,st,left,ps,h=>by cases h;exact .inl rfl
 |f+1,st,left,ps,h=>by
  rw[rdC]at h;split at h
  .cases h
  .split at h
   .cases h;exact .inl rfl
   .split at h
    .split at h
     .cases h;exact .inl rfl
     .split at h
      .cases h;exact .inr rfl
      .exact aHE h
    .split at h
     .cases h;exact .inr rfl
     .exact aHE h
theorem Ms{e:Int}(h:uB L most sym= .error e):e≠0:=by
 unfold uB at h;split at h
 .cases h;decide
 .simp only at h;split at h
  .cases h;decide
  .split at h
   .rename_i hr;cases h;rcases aHE hr with h|h<;>omega
   .cases h
theorem aEb{out:List Int}{stE:Nat}:∀{f st left:Nat} {ps:List Int},rdC L sym f st left ps= .ok (out,stE)->st<=L.length->stE<=L.length
 |0,st,left,ps,h,_=>by cases h
 |f+1,st,left,ps,h,hst=>by
  rw[rdC]at h;split at h
  .cases h;exact hst
  .rename_i h0;cases hv:awU L st left with
   |none=>rw[hv]at h;cases h
   |some x=>
    obtain⟨v,st1⟩:=x;obtain⟨v1,v2,v3⟩:=aCD hv (by omega);rw[hv]at h;simp only at h;split at h
    .cases hn:noR L (L.length+1) st1 with
     |none=>rw[hn]at h;cases h
     |some y=>
      obtain⟨k,st2⟩:=y;rw[hn]at h;simp only at h;split at h
      .cases h
      .exact aEb h (aHu hn).2.1
    .split at h
     .cases h
     .exact aEb h v2
theorem VU{log used:Nat}{ps:List Int}(h:uB L most sym= .ok (log,ps,used)):8*used<=L.length+7:=by
 unfold uB at h;split at h
 .cases h
 .simp only at h;split at h
  .cases h
  .cases hr:rdC L sym (L.length+1) 4 (2^(iK L 0 4+5)) []with
   |error e=>rw[hr]at h;cases h
   |ok x=>
    obtain⟨p,st⟩:=x;rw[hr]at h;cases h;have:=aEb hr (by omega);omega
end Go.Pu
namespace Go.Proofs.YthohephggmkeeaaGreatDoor
open Go Go.En Go.Pu
set_option maxRecDepth 4000
variable{L:List T3}{M:Nat->Prop}{N b base c cc hi high i k lack lo log n p p1 p6 s x:Nat}{a:Nat->Option Addr}{cs rest:List a7C}{e left mode:Int}{l:List UInt8}{ps:List Int}{st:Nat->Nat}{sv t2 v:a7C}{w w' w0:a7B}
def MK(w:a7B)(base:Nat)(T:Nat×List T3)(v:a7C):Prop:=(T=(0,[])/\v= .agg #[.int .i64 0,.slice none 0 0])∨∃b,Tbl w base b T.1 T.2 v
theorem MK.nil (w:a7B)(base:Nat):MK w base (0,[]) (.agg #[.int .i64 0,.slice none 0 0]):= .inl ⟨rfl,rfl⟩
theorem MK.form {T:Nat×List T3}(h:MK w base T v):∃a,v= .agg #[.int .i64 T.1,.slice a T.2.length T.2.length]:=by
 rcases h with⟨rfl,rfl⟩|⟨b,rfl,_⟩
 .exact ⟨_,rfl⟩
 .exact ⟨_,rfl⟩
theorem MK.ext {T:Nat×List T3}(h:MK w base T v)(x:aE w w' M)(hM:∀b,base<=b->b<w.heap.size->¬M b):MK w' base T v:=by
 rcases h with h|⟨b,h⟩
 .exact .inl h
 .have hb:=h.2.1;have hl:=h.2.2.lt;exact .inr ⟨b,h.ext x (hM b hb hl)⟩
theorem MK.lower {base':Nat}{T:Nat×List T3}(h:MK w base T v)(hb:base'<=base):MK w base' T v:=by
 rcases h with h|⟨b,h1,h2,h3⟩
 .exact .inl h
 .exact .inr ⟨b,h1,by omega,h3⟩
def aN5 (w:a7B)(base:Nat)(o:Except Int ((Nat×List T3)×Nat))(r:a7C):Prop:=match o with
 | .error e=>r= .tuple #[.agg #[.int .i64 0,.slice none 0 0],.int .i64 0,.int .i64 e]
 | .ok (T,n)=>∃t,r= .tuple #[t,.int .i64 n,.int .i64 0]/\MK w base T t
def cZ(a mode:Int)(l:List UInt8)(old:Nat×List T3):Except Int ((Nat×List T3)×Nat):=
 if a<0∨2<a∨mode<0∨3<mode then .error 1
 else if mode=0 then .ok ((gvL a,fL (gvL a) (gvP a)),0)
 else if mode=1 then match l with
  |[]=> .error 10
  |x::_=>if tZ a<(x.toNat:Int)then .error 11 else .ok ((0,[((x.toNat:Nat),0,0)]),1)
 else if mode=3 then if old.2=[]then .error 11 else .ok (old,0)
 else match uB (aG l) (aaN a) (tZ a+1).toNat with
  | .error e=> .error e
  | .ok (lg,ps,u)=> .ok ((lg,fL lg ps),u)
theorem PU{x:Int}{a:Option Addr}{n e:a7C}(o:aT w p [.int .i64 0,.slice none 0 0])(hx:aE w0 w aP)(hp:w0.heap.size<=p){RR:a7C->a7B->Prop}
 (hR:∀w',aE w0 w' aP->aE w w' (λy=>y=p)->RR (.tuple #[.agg #[.int .i64 x,.slice a k c],n,e]) w'):
 bF pg (dL 79 (.pointer (some ⟨p,0,none⟩)) (.agg #[.int .i64 x,.slice a k c])) w λ_u w=>LdR pg 79 (.pointer (some ⟨p,0,none⟩)) w λr0=>RR (.tuple #[r0,n,e]) w:=by
 refine cY o rfl (by simp[one]) (by simp) λw6 o6 x6 s6=> ?_;refine wD o6 (by simp[aF]) ?_;simp only[aF,a1E,a1D,a1F,a1C,a1G];exact hR _ (hx.new x6 hp) x6
theorem aJi{a:Int}(h:0<=a/\a<=2):28<=tZ a/\tZ a<=60:=by
 unfold tZ;split
 .omega
 .split
  .omega
  .rw [if_pos (by omega)];omega
theorem aJh{a:Int}(h:¬(0<=a/\a<=2)):tZ a= -1:=by
 unfold tZ;rw[if_neg (by omega),if_neg (by omega),if_neg (by omega)]
theorem aNU{a:Int}{bv ov:a7C}{T:Nat×List T3}(hg:tY w)(hb:Bs w bv l)(hl:mode=2->l.length<=1000000)(ho:MK w base T ov)(hbase:base<=w.heap.size)(hlb:l.length<=9223372036854775807)(hT:T.2.length<=1000000):
 aL pg RI #[.int .i64 a,.int .i64 mode,bv,ov] w (λr w'=>aN5 w' base (cZ a mode l T) r/\aE w w' aP):=by
 refine aAv ?_;obtain⟨RR,hRR⟩:∃RR:a7C->a7B->Prop,RR=λr w'=>aN5 w' base (cZ a mode l T) r/\aE w w' aP:=⟨_,rfl⟩;rw[<-hRR];obtain⟨oa,rfl⟩:=ho.form;obtain⟨ba,bc,rfl,_⟩:=hb.len;rw[a1M]at hb;rw[a1M];unfold aBs aeQ;refine bY λw1 o1 x1 s1=> ?_;simp only[Value.cells]at o1;refine gK λw2 o2 x2 s2=> ?_;have x12:=x1.seq x2;have z2:=x12.size;refine(aQ5 (hg.ext x12)).mono ?_;rintro r w3 ⟨rfl,x3⟩;have o1:=(o1.ext x2 (λh=>h)).ext x3 (λh=>h);have o2:=o2.ext x3 (λh=>h);have x13:=x12.seq x3;have z3:=x3.size;have hg3:=hg.ext x13;have err:∀{e:Int} {w':a7B},cZ a mode l T= .error e->aE w w' aP->RR (.tuple #[.agg #[.int .i64 0,.slice none 0 0],.int .i64 0,.int .i64 e]) w':=λh x=>by
  rw[hRR];refine⟨?_,x⟩;rw[h]<;>rfl
 have good:∀{T':Nat×List T3} {n:Nat} {w':a7B} {t:a7C},cZ a mode l T= .ok (T',n)->MK w' base T' t->aE w w' aP->RR (.tuple #[t,.int .i64 n,.int .i64 0]) w':=λh ht x=>by
  rw[hRR];refine⟨?_,x⟩;rw[h];exact⟨_,rfl,ht⟩
 by_cases ha:0<=a/\a<=2;rotate_left
 .have d1:decide (tZ a<0)=true:=by rw[aJh ha]<;>rfl
  have hE:cZ a mode l T= .error 1:=by unfold cZ;rw[if_pos (by omega)]
  simp(disch:=omega)only[SV,d1];exact PU o2 x13 (by omega) λw' x _=>err hE x
 obtain⟨hl1,hl2⟩:=aJi ha;have d1:decide (tZ a<0)=false:=by simp;omega
 by_cases hm0:mode<0
 .have d2:decide (mode<0)=true:=by simp;omega
  have hE:cZ a mode l T= .error 1:=by unfold cZ;rw[if_pos (by omega)]
  simp(disch:=omega)only[SV,d1,d2];exact PU o2 x13 (by omega) λw' x _=>err hE x
 have d2:decide (mode<0)=false:=by simp;omega
 by_cases hm3:3<mode
 .have d3:decide (3<mode)=true:=by simp;omega
  have hE:cZ a mode l T= .error 1:=by unfold cZ;rw[if_pos (by omega)]
  simp(disch:=omega)only[SV,d1,d2,d3];exact PU o2 x13 (by omega) λw' x _=>err hE x
 have d3:decide (3<mode)=false:=by simp;omega
 have hno:¬(a<0∨2<a∨mode<0∨3<mode):=by omega
 by_cases m0:mode=0
 .subst m0;have n1:((0:Int)==0)=true:=rfl;have hE:cZ a 0 l T= .ok ((gvL a,fL (gvL a) (gvP a)),0):=by unfold cZ;rw[if_neg hno,if_pos rfl]
  simp(disch:=omega)only[SV,d1,d2,d3,n1];refine(aOg hg3).mono ?_;rintro r w4 ⟨t,e,rfl,ht,x4⟩;unfold Tf vS at ht;rw[if_pos (by omega)]at ht;obtain⟨⟨b,ht,hb1,ob⟩,rfl⟩:=ht;subst ht;have z4:=x4.size;simp(disch:=omega)only[SV];refine gK λw5 o5 x5 s5=> ?_;refine cY o5 rfl (by simp[one]) (by simp) λw6 o6 x6 s6=> ?_;have l1:=dX (off:=0) o6 (by simp[aF]);simp only[aF,a1E,a1D,a1F,a1C,a1G]at l1;have hbl:=ob.lt;simp(disch:=omega)only[SV,l1];have x46:aE w3 w6 aP:=x4.seq (x5.new x6 (a1J _));refine PU (o2.ext x46 (λh=>h)) (x13.seq x46) (by omega) λw' x x7=>good hE (.inr ⟨b,rfl,by omega, ?_⟩) x;exact((ob.ext x5 (λh=>h)).ext x6 (by omega)).ext x7 (by omega)
 have n1:(mode==0)=false:=beq_eq_false_iff_ne.2 m0;by_cases m1:mode=1
 .subst m1;have n2:((1:Int)==1)=true:=rfl;cases l with
  |nil=>
   have hE:cZ a 1 [] T= .error 10:=by unfold cZ;rw[if_neg hno,if_neg (by omega),if_pos rfl]
   have n3:((0:Int)==0)=true:=rfl;have e0:((([]:List UInt8).length:Nat):Int)=0:=rfl;simp(disch:=omega)only[SV,d1,d2,d3,n1,n2,e0,n3];exact PU o2 x13 (by omega) λw' x _=>err hE x
  |cons y l=>
   have n3:((((y::l).length:Nat):Int)==0)=false:=by simp;omega
   obtain⟨b,off,c,hv,_,hcell⟩:=(hb.ext x13 (aR _)).openV (by simp);have g1:=hcell 0 (by simp);simp only[a4D,a3Z,a3I]at g1;simp only[a1M,Value.slice.injEq]at hv;obtain⟨rfl,_,rfl⟩:=hv;have t0:(0:Int).toNat=0:=rfl;have g0:(w3.cell? ⟨b,off,none⟩)=some (.int .u8 (y.toNat:Nat)):=g1;have hy:=y.toNat_lt;have hpos:(0:Int)<((y::l).length:Nat):=by rw[a1U];omega
   by_cases hyl:tZ a<(y.toNat:Int)
   .have d4:decide (tZ a<(y.toNat:Int))=true:=by simpa using hyl
    have hE:cZ a 1 (y::l) T= .error 11:=by unfold cZ;rw[if_neg hno,if_neg (by omega),if_pos rfl];exact if_pos hyl
    simp(disch:=omega)only[SV,d1,d2,d3,n1,n2,n3,t0,a3I,g0,d4,hpos];exact PU o2 x13 (by omega) λw' x _=>err hE x
   .have d4:decide (tZ a<(y.toNat:Int))=false:=by simpa using hyl
    have hE:cZ a 1 (y::l) T= .ok ((0,[((y.toNat:Nat),0,0)]),1):=by unfold cZ;rw[if_neg hno,if_neg (by omega),if_pos rfl];exact if_neg hyl
    simp(disch:=omega)only[SV,d1,d2,d3,n1,n2,n3,t0,a3I,g0,d4,hpos];refine(aXI (y.toNat:Nat) _).mono ?_;rintro r w4 ⟨b,⟨rfl,hb1,ob⟩,x4⟩;have z4:=x4.size;have hbl:=ob.lt;refine PU (o2.ext x4 (λh=>h)) (x13.seq x4) (by omega) λw' x x7=>good hE (.inr ⟨b,rfl,by omega, ?_⟩) x;exact ob.ext x7 (by omega)
 have n2:(mode==1)=false:=beq_eq_false_iff_ne.2 m1;by_cases m3:mode=3
 .subst m3;have n3:((3:Int)==3)=true:=rfl;have c1:=o1.cell (off:=1);simp only[a1A,a1B]at c1;have l1:=dX (off:=0) o1 (by simp);simp only[a1F,a1C,a1G]at l1;by_cases h0:T.2=[]
  .have n4:(((T.2.length:Nat):Int)==0)=true:=by rw[h0]<;>rfl
   have hE:cZ a 3 l T= .error 11:=by unfold cZ;rw[if_neg hno,if_neg (by omega),if_neg (by omega),if_pos rfl,if_pos h0]
   simp(disch:=omega)only[SV,d1,d2,d3,n1,n2,n3,c1,n4];exact PU o2 x13 (by omega) λw' x _=>err hE x
  .have n4:(((T.2.length:Nat):Int)==0)=false:=by
    have:=a5G.2 h0;simp;exact h0
   have hE:cZ a 3 l T= .ok (T,0):=by unfold cZ;rw[if_neg hno,if_neg (by omega),if_neg (by omega),if_pos rfl,if_neg h0]
   simp(disch:=omega)only[SV,d1,d2,d3,n1,n2,n3,c1,n4,l1];refine PU o2 x13 (by omega) λw' x x7=>good hE ?_ x;rcases ho with⟨e,_⟩|⟨b,e,hb1,ob⟩
   .rw [e]at h0;exact absurd rfl h0
   .have hbl:=ob.lt;exact .inr ⟨b,e,hb1,(ob.ext x13 (λh=>h)).ext x7 (by omega)⟩
 have n3:(mode==3)=false:=beq_eq_false_iff_ne.2 m3;have m2:mode=2:=by omega
 have hl2:=hl m2;simp(disch:=omega)only[SV,d1,d2,d3,n1,n2,n3];refine(aVQ a _).mono ?_;rintro r w4 ⟨rfl,hw⟩;rw[hw];clear hw w4;have e1:tZ a+1=((tZ a+1).toNat:Int):=by omega
 rw[e1];refine(aDX (hb.ext x13 (aR _)) hl2 (by omega)).mono ?_;rintro r w4 ⟨hr,x4⟩;have z4:=x4.size;have hsym:(tZ a+1).toNat<=61:=by omega
 have hE0:cZ a mode l T=match uB (aG l) (aaN a) (tZ a+1).toNat with
  | .error e=> .error e
  | .ok (lg,ps,u)=> .ok ((lg,fL lg ps),u):=by unfold cZ;rw[if_neg hno,if_neg m0,if_neg m1,if_neg m3]
 cases hrl:uB (aG l) (aaN a) (tZ a+1).toNat with
 |error e=>
  rw[hrl]at hr hE0;have hr:r=_:=hr;subst hr;have he:=Ms hrl;have n4:(e !=0)=true:=by simpa using he
  have hE:cZ a mode l T= .error e:=hE0;simp(disch:=omega)only[SV];refine lE λw5 o5 x5 s5=> ?_;refine dS o5 rfl (by simp[one]) (by simp) λw6 o6 x6 s6=> ?_;simp(disch:=omega)only[SV,n4];have x46:aE w3 w6 aP:=x4.seq (x5.new x6 (a1J _));exact PU (o2.ext x46 (λh=>h)) (x13.seq x46) (by omega) λw' x _=>err hE x
 |ok y=>
  obtain⟨lg,ps,u⟩:=y;rw[hrl]at hr hE0;obtain⟨v,rfl,hv⟩:=hr;obtain⟨hmay,hlg,hpl⟩:=Uh hrl;have hm:=hmay (by omega);have hE:cZ a mode l T= .ok ((lg,fL lg ps),u):=hE0;obtain⟨va,vc,rfl⟩:=hv.len;have hs:=hv.sl;have n4:((0:Int) !=0)=false:=rfl;simp(disch:=omega)only[SV];refine lE λw5 o5 x5 s5=> ?_;refine dS o5 rfl (by simp[one]) (by simp) λw6 o6 x6 s6=> ?_;have l1:=fP (off:=0) o6 (by simp[aF]);simp only[aF,a1E,a1D,a1F,a1C,a1G]at l1;have x46:aE w4 w6 aP:=x5.new x6 (a1J _);have z6:=x46.size;simp(disch:=omega)only[SV,n4,l1];refine(aGV hm (hs.ext x46 (aR _))).mono ?_;rintro r w7 ⟨b,t,rfl,⟨rfl,hb1,ob⟩,x7⟩;have z7:=x7.size;have hbl:=ob.lt;simp(disch:=omega)only[SV];refine gK λw8 o8 x8 s8=> ?_;refine cY o8 rfl (by simp[one]) (by simp) λw9 o9 x9 s9=> ?_;have l2:=dX (off:=0) o9 (by simp[aF]);simp only[aF,a1E,a1D,a1F,a1C,a1G]at l2;simp(disch:=omega)only[SV,n4,l2];have x49:aE w3 w9 aP:=((x4.seq x46).seq x7).seq (x8.new x9 (a1J _));refine PU (o2.ext x49 (λh=>h)) (x13.seq x49) (by omega) λw' x x10=>good hE (.inr ⟨b,rfl,by omega, ?_⟩) x;exact((ob.ext x8 (λh=>h)).ext x9 (by omega)).ext x10 (by omega)
theorem aOM(h15:log<=15)(hk1:1<=k)(hk2:k<2^(log+1)){w0:a7B}{n5 t6 seen i15:a7C}(o1:aT w p1 [.int .i64 log,sv])
 {k12:a7C->a7C->a7C->a7C->a7C->a7C->a7C->a7C->a7B->Prop}
 (hR:k12 (.pointer (some ⟨p1,0,none⟩)) t2 n5 t6 seen i15 (.int .i64 k) (.int .i64 ((log+1-bl k:Nat):Int)) w):
 tM k12 (.pointer (some ⟨p1,0,none⟩)) t2 n5 t6 seen i15 (.int .i64 k) (.int .i64 log) w:=by
 have hb1:=M9 (k:=k) (by omega);have hb2:=rH hk2;have hlt:=Zz k;have hle:=ahM (k:=k) (by omega);have c0:=o1.cell (off:=0);simp only[a1A]at c0;unfold tM;refine aN.rule (λm t w'=>∃q:Nat,m=log-q/\t= .int .i64 ((log-q:Nat):Int)/\q+1<=bl k/\w'=w) log ⟨0,rfl,rfl,by omega,rfl⟩ ?_;rintro m t w' ⟨q,rfl,rfl,hq,rfl⟩;have e1:(log:Int)-((log-q:Nat):Int)+1=((q+1:Nat):Int):=by omega
 have hw:IntKind.i64.wrap ((log:Int)-((log-q:Nat):Int))=(log:Int)-((log-q:Nat):Int):=dM (by omega) (by omega);unfold acA;simp(disch:=omega)only[SV,c0,hw,e1];refine(IE (q+1) (by omega) _).mono ?_;rintro r w1 ⟨rfl,rfl⟩;have hpw:((2^(q+1):Nat):Int)=(2:Int)^(q+1):=by simp
 rw[<-hpw];by_cases hc:2^(q+1)<=k
 .have d1:decide (((2^(q+1):Nat):Int)<=(k:Int))=true:=by simp only[decide_eq_true_eq];omega
  have hq2:q+2<=bl k:=by
   rcases a1Y (q+1) (bl k)with h|h
   .exact h
   .have:bl k=q+1:=by omega
    rw[this]at hlt;omega
  simp(disch:=omega)only[SV,d1];exact⟨log-(q+1),by omega,q+1,rfl,by congr 1;omega,hq2⟩
 .have d1:decide (((2^(q+1):Nat):Int)<=(k:Int))=false:=by simp only[decide_eq_false_iff_not];omega
  have:bl k=q+1:=by
   have:=rH (k:=k) (n:=q+1) (by omega);omega
  rw[this,show log+1-(q+1)=log-q from by omega]at hR;simp(disch:=omega)only[SV,d1];exact hR
theorem aO0 {j:Nat}(hN:0<N)(hN2:N<=32768)(hh:0<high)(hhN:high<=N){c1 t6 s k:a7C}
 {k8:a7C->a7C->a7C->a7C->a7C->a7C->a7C->a7C->a7B->Prop}
 (hR:k8 c1 t2 (.int .i64 N) t6 (.int .i64 ((high:Int)-1)) (.int .i64 (awG N high N (pos N j):Nat)) s k w):
 qV k8 c1 t2 (.int .i64 N) t6 (.int .i64 ((high:Int)-1)) (.int .i64 (pos N j:Nat)) s k (.int .i64 0) w:=by
 obtain⟨d,h1,h2,h3⟩:=afZ hN hh j;have hd:d<N:=by
  obtain⟨D,hD,h0⟩:=aNJ N j hN;rcases a1Y d N with h|h
  .exact h
  .have:=h1 D (by omega);omega
 rw[h3]at hR;unfold qV;refine aN.rule (λm t w'=>∃q:Nat,m=d-q/\t=(.int .i64 (pos N (j+q):Nat),.int .i64 q)/\q<=d/\w'=w) d ⟨0,rfl,rfl,by omega,rfl⟩ ?_;rintro m t w' ⟨q,rfl,rfl,hq,rfl⟩;have hp:=aD6 hN (j+q);have d1:decide ((q:Int)<(N:Int))=true:=by simp only[decide_eq_true_eq];omega
 have e1:(N:Int).tdiv 2=((N/2:Nat):Int):=by rw[a1R (by omega)];omega
 have e3:(N:Int).tdiv 8=((N/8:Nat):Int):=by rw[a1R (by omega)];omega
 have e4:(((pos N (j+q):Nat):Int)+((N/2:Nat):Int)+((N/8:Nat):Int)+3).tmod (N:Int)=((pos N (j+q+1):Nat):Int):=by
  rw[a2B (by omega),<-LW];unfold adv;simp
 unfold XE;by_cases hqd:q<d
 .have:=h1 q hqd;have d2:decide ((high:Int)-1<((pos N (j+q):Nat):Int))=true:=by simp only[decide_eq_true_eq];omega
  simp(disch:=omega)only[SV,d1,d2,e1,e3,e4];exact⟨d-(q+1),by omega,q+1,rfl,rfl,by omega⟩
 .have:q=d:=by omega
  subst this;have d2:decide ((high:Int)-1<((pos N (j+q):Nat):Int))=false:=by simp only[decide_eq_false_iff_not];omega
  simp(disch:=omega)only[SV,d1,d2];exact hR
theorem aGi{k:IntKind}{L:List Int}(h:i<L.length)(x:Int):(fe k (m3 L)++rest).set (i*3) (.int k x)=fe k (m3 (L.set i x))++rest:=by
 rw[a4S _ _ (by rw[fR];simp[m3];omega),aDU h]
theorem aO3 {arr arr':List Int}(hm:May log ps)(hs:Sl w0 sv (ps.map (Value.int .i64)))(hx:aE w0 w aP)
 (hN2:N<=32768) (hcc:N<=cc) (harr:arr.length=N) (hng:(rM ps 0).length<=N) (ht:apN ps 0 N arr=(high,arr')) (hlo:w0.heap.size<=b) (hne:p1≠b/\p6≠b)
 (o1:aT w p1 [.int .i64 log,sv]) (o6:aT w p6 [.int .i64 log,.slice (some ⟨b,0,none⟩) N cc]) (ob:aT w b (fe .i64 (m3 arr)++rest))
 {k2:a7C->a7C->a7C->a7C->a7C->a7B->Prop}
 (hR:∀w',aT w' b (fe .i64 (m3 arr')++rest)->aE w w' (λy=>y=b)->k2 (.pointer (some ⟨p1,0,none⟩)) t2 (.int .i64 N) (.pointer (some ⟨p6,0,none⟩)) (.int .i64 ((high:Int)-1)) w'):
 qX k2 (.pointer (some ⟨p1,0,none⟩)) t2 (.int .i64 N) (.pointer (some ⟨p6,0,none⟩)) (.int .i64 ((N:Int)-1)) (.int .i64 0) w:=by
 have hlen:=hm.len256;obtain⟨a,c,rfl,hc⟩:=hs.lenI;unfold qX;refine aN.rule (λm t w'=>∃(i hg:Nat) (ar:List Int),m=ps.length-i/\t=(.int .i64 ((hg:Int)-1),.int .i64 i)/\i<=ps.length/\(rM (ps.drop i) i).length<=hg/\hg<=N/\ar.length=N/\apN (ps.drop i) i hg ar=(high,arr')/\aT w' b (fe .i64 (m3 ar)++rest)/\aE w w' (λy=>y=b)) ps.length
  ⟨0,N,arr,rfl,rfl,by omega,by rw[a1F];exact hng,by omega,harr,by rw[a1F];exact ht,ob,aE.refl _ _⟩ ?_
 rintro m t w3 ⟨i,hg,ar,rfl,rfl,hi,hng,hgN,harr,htop,o3,x3⟩;have c1:=(o1.ext x3 hne.1).cell (off:=1);have c6:=(o6.ext x3 hne.2).cell (off:=1);simp only[a1A,a1B]at c1 c6;unfold XP XO;by_cases hlt:i<ps.length
 .have d1:decide ((i:Int)<(ps.length:Int))=true:=by simp;omega
  obtain⟨b',off',c',e,_,hcell⟩:=(hs.ext (hx.new x3 hlo) (aR _)).openI (by omega);cases e;have g1:=hcell i hlt;have hd:ps.drop i=ps[i]::ps.drop (i+1):=a2J hlt;have hlow:=hm.low _ (a2P hlt);rw[hd,rM]at hng;rw[hd,apN]at htop;by_cases hp:ps[i]= -1
  .have d2:decide (ps[i]<0)=true:=by simp;omega
   rw[if_pos hp]at hng htop;simp only[a1U]at hng;have e1:(hg:Int)-1=((hg-1:Nat):Int):=by omega
   have e2:IntKind.i64.wrap (((hg-1:Nat):Int)-1)=((hg-1:Nat):Int)-1:=dM (by omega) (by omega);rw[e1];simp(disch:=omega)only[SV,c1,c6,d1,g1,d2];refine eZ o3 rfl (by rw[a1O,fR];simp[m3];omega) λw4 o4 x4 s4=> ?_;rw[aGi (by omega)]at o4;unfold Cf;simp(disch:=omega)only[SV,e2];exact⟨ps.length-(i+1),by omega,i+1,hg-1,_,rfl,rfl,by omega,by omega,by omega,by simp[harr],htop,o4,x3.trans x4 (λ_ _ h=>h)⟩
  .have d2:decide (ps[i]<0)=false:=by simp;omega
   rw[if_neg hp]at hng htop;unfold Cf;simp(disch:=omega)only[SV,c1,c6,d1,g1,d2];exact⟨ps.length-(i+1),by omega,i+1,hg,ar,rfl,rfl,by omega,by omega,by omega,harr,htop,o3,x3⟩
 .have d1:decide ((i:Int)<(ps.length:Int))=false:=by simp;omega
  rw[a3N (by omega),apN]at htop;obtain⟨rfl,rfl⟩:hg=high/\ar=arr':=by simpa using htop
  simp(disch:=omega)only[SV,c1,d1];exact hR _ o3 x3
theorem aLT{arr:List Int}(hm:May log ps)(hs:Sl w0 sv (ps.map (Value.int .i64)))(hx:aE w0 w aP)
 (hN1:32<=N) (hN2:N<=32768) (hcc:N<=cc) (harr:arr.length=N) (hhigh:(mU ps 0).length=high) (hhN:high<=N) (hlo:w0.heap.size<=b) (hne:p1≠b/\p6≠b)
 (o1:aT w p1 [.int .i64 log,sv]) (o6:aT w p6 [.int .i64 log,.slice (some ⟨b,0,none⟩) N cc]) (ob:aT w b (fe .i64 (m3 arr)++rest))
 {k4:a7C->a7C->a7C->a7C->a7B->Prop}
 (hR:∀w',aT w' b (fe .i64 (m3 (place N high (mU ps 0) 0 arr))++rest)->aE w w' (λy=>y=b)->k4 (.pointer (some ⟨p1,0,none⟩)) t2 (.int .i64 N) (.pointer (some ⟨p6,0,none⟩)) w'):
 qW k4 (.pointer (some ⟨p1,0,none⟩)) t2 (.int .i64 N) (.pointer (some ⟨p6,0,none⟩)) (.int .i64 ((high:Int)-1)) (.int .i64 0) (.int .i64 0) w:=by
 have hlen:=hm.len256;obtain⟨a,c,rfl,hc⟩:=hs.lenI;unfold qW;refine aN.rule (λm t w'=>∃(s j:Nat) (ar:List Int),m=ps.length-s/\t=(.int .i64 (pos N j:Nat),.int .i64 s)/\s<=ps.length/\ar.length=N/\place N high (mU (ps.drop s) s) (pos N j) ar=place N high (mU ps 0) 0 arr/\(mU (ps.drop s) s).length<=high/\aT w' b (fe .i64 (m3 ar)++rest)/\aE w w' (λy=>y=b)) ps.length
  ⟨0,0,arr,rfl,by rw[aaY]<;>rfl,by omega,harr,by rw[aaY,a1F],by rw[a1F,hhigh];exact a1J _,ob,aE.refl _ _⟩ ?_
 rintro m t w4 ⟨s,j,ar,rfl,rfl,hs4,har,hpl,hrl,o4,x4⟩;have c1:=(o1.ext x4 hne.1).cell (off:=1);simp only[a1A,a1B]at c1;unfold XK XJ;by_cases hlt:s<ps.length
 .have d1:decide ((s:Int)<(ps.length:Int))=true:=by simp;omega
  obtain⟨q,hq⟩:∃q,q=ps[s].toNat:=⟨_,rfl⟩;rw[aGx hlt,<-hq]at hpl hrl;have hqN:q<=N:=by simp at hrl;omega
  simp(disch:=omega)only[SV,c1,d1];unfold KB KA XI Ce;refine aN.rule (λm t w'=>∃(k j:Nat) (ar:List Int),m=q-k/\t=(.int .i64 (pos N j:Nat),.int .i64 k)/\k<=q/\ar.length=N/\place N high (List.replicate (q-k) s++mU (ps.drop (s+1)) (s+1)) (pos N j) ar=place N high (mU ps 0) 0 arr/\aT w' b (fe .i64 (m3 ar)++rest)/\aE w w' (λy=>y=b)) q
   ⟨0,j,ar,rfl,rfl,by omega,har,hpl,o4,x4⟩ ?_
  rintro m t w5 ⟨k,j5,ar5,rfl,rfl,hk,har5,hpl5,o5,x5⟩;have c15:=(o1.ext x5 hne.1).cell (off:=1);have c65:=(o6.ext x5 hne.2).cell (off:=1);simp only[a1A,a1B]at c15 c65;obtain⟨b',off',c',e,_,hcell⟩:=(hs.ext (hx.new x5 hlo) (aR _)).openI (by omega);cases e;have g1:=hcell s hlt;unfold XH XG;by_cases hkq:k<q
  .have d2:decide ((k:Int)<ps[s])=true:=by simp;omega
   have hp:=aD6 (n:=N) (by omega) j5;have hhg:0<high:=by simp at hrl;omega
   simp(disch:=omega)only[SV,c15,g1,d2];unfold Kz Ky XF;simp(disch:=omega)only[SV,c65];refine eZ o5 rfl (by rw[a1O,fR];simp[m3];omega) λw6 o6' x6 s6=> ?_;rw[aGi (by omega)]at o6';have e1:(N:Int).tdiv 2=((N/2:Nat):Int):=by rw[a1R (by omega)];omega
   have e3:(N:Int).tdiv 8=((N/8:Nat):Int):=by rw[a1R (by omega)];omega
   have e4:(((pos N j5:Nat):Int)+((N/2:Nat):Int)+((N/8:Nat):Int)+3).tmod (N:Int)=((pos N (j5+1):Nat):Int):=by
    rw[a2B (by omega),<-LW];unfold adv;simp
   simp(disch:=omega)only[SV,e1,e3,e4];unfold qV;rw[show q-k=(q-(k+1))+1 from by omega,a2S,a4P,aD4,LW]at hpl5;obtain⟨d,_,hd2,hd3⟩:=afZ (n:=N) (high:=high) (by omega) hhg (j5+1);refine aO0 (by omega) hN2 hhg hhN ?_;rw[hd3]at hpl5⊢;unfold Kx;simp(disch:=omega)only[SV];exact⟨q-(k+1),by omega,k+1,j5+1+d,_,rfl,rfl,by omega,by simp[har5],hpl5,o6',x5.trans x6 (λ_ _ h=>h)⟩
  .have d2:decide ((k:Int)<ps[s])=false:=by simp;omega
   rw[show q-k=0 from by omega,List.replicate_zero,a4F]at hpl5;unfold Kw;simp(disch:=omega)only[SV,c15,g1,d2];exact⟨ps.length-(s+1),by omega,s+1,j5,ar5,rfl,rfl,by omega,har5,hpl5,by simp at hrl;omega,o5,x5⟩
 .have d1:decide ((s:Int)<(ps.length:Int))=false:=by simp;omega
  rw[a3N (by omega),mU,place]at hpl;simp(disch:=omega)only[SV,c1,d1];exact hR _ (by rw[<-hpl];exact o4) x4
theorem aOS{c1:a7C}(hN1:32<=N)(hN2:N<=32768)(o6:aT w p6 [.int .i64 log,.slice none 0 0])
 {k0:a7C->a7C->a7C->a7C->a7B->Prop}
 (hR:∀w' b cc rest,aT w' p6 [.int .i64 log,.slice (some ⟨b,0,none⟩) N cc]->aT w' b (fe .i64 (m3 (List.replicate N (-1)))++rest)->N<=cc->w.heap.size<=b->aE w w' (λy=>y=p6∨w.heap.size<=y)->k0 c1 t2 (.int .i64 N) (.pointer (some ⟨p6,0,none⟩)) w'):
 qY k0 c1 t2 (.int .i64 N) (.pointer (some ⟨p6,0,none⟩)) (.int .i64 0) w:=by
 have l6:=o6.lt;unfold qY;refine aN.rule (λm t w'=>∃(i:Nat) (v:a7C),m=N-i/\t= .int .i64 i/\i<=N/\aT w' p6 [.int .i64 log,v]/\mH w' w.heap.size 3 v i (fe .i64 (m3 (List.replicate i (-1))))/\aE w w' (λy=>y=p6∨w.heap.size<=y)) N
  ⟨0,_,rfl,rfl,by omega,o6,mH.nil _ _ _,aE.refl _ _⟩ ?_
 rintro m t w1 ⟨i,v,rfl,rfl,hi,o1,os,x1⟩;have c1':=o1.cell (off:=1);simp only[a1A,a1B]at c1';unfold XS;by_cases hlt:i<N
 .have d1:decide ((i:Int)<(N:Int))=true:=by simp only[decide_eq_true_eq];omega
  simp(disch:=omega)only[SV,d1,c1'];refine Di (cells:= #[.int .i64 (-1),.int .i64 0,.int .i64 0]) (by decide) (by decide) (by kernel_rfl) λw2 o2 x2 s2=> ?_;refine sY (os.ext x2 (λ_ _ h=>h)) (o2.cl (off:=0) (l:=[.int .i64 (-1),.int .i64 0,.int .i64 0]) rfl (λi hi=>by rw[a1Q])) (by simp[one]) (a3K x1.size x2.size) (by omega) λv3 w3 o3 x3=> ?_;have o13:=(o1.ext x2 (λh=>h)).ext x3 (by omega);refine UC o13 ?_ (by simp) λw4 o4 x4 s4=> ?_
  .obtain ⟨a,c,e⟩:=o3.len;rw[e]<;>rfl
  simp only[a1E,a1D]at o4;refine⟨N-(i+1),by omega,i+1,v3,rfl,rfl,by omega,o4, ?_, ?_⟩
  .have e:fe .i64 (m3 (List.replicate (i+1) (-1)))=fe .i64 (m3 (List.replicate i (-1)))++[.int .i64 (-1),.int .i64 0,.int .i64 0]:=by
    rw[a5C];unfold m3;rw[a2I,aF0]<;>rfl
   rw[e];exact o3.ext x4 (λb hb h=>by omega)
  .exact ((x1.seq (x2.mono λ_ _ h=>h.elim)).seq (x3.mono λ_ _ h=> .inr h)).seq (x4.mono λ_ _ h=> .inl h)
 .have d1:decide ((i:Int)<(N:Int))=false:=by simp only[decide_eq_false_iff_not];omega
  have:i=N:=by omega
  subst this;simp(disch:=omega)only[SV,d1];rcases os.2 with⟨_,h⟩|⟨b,c,rest,rfl,h2,h3,h4,h5⟩
  .omega
  .exact hR _ b c rest o1 h3 h5 h2 x1
theorem aQL{k:IntKind}(h:i<L.length)(x:Int):(fe k L++rest).set (i*3+1) (.int .i64 x)=fe k (L.set i (L[i].1,x,L[i].2.2))++rest:=by
 rw[a4S _ _ (by rw[fR];omega),(axW k L i h x).2.1]
theorem aQM{k:IntKind}(h:i<L.length)(x:Int):(fe k L++rest).set (i*3+2) (.int .i64 x)=fe k (L.set i (L[i].1,L[i].2.1,x))++rest:=by
 rw[a4S _ _ (by rw[fR];omega),(axW k L i h x).2.2]
theorem aO1 {ns:Nat}{S:List Int}(hm:May log ps)(L:Lay log ps S)(hN:2^log=N)(hs:Sl w0 sv (ps.map (Value.int .i64)))(hx:aE w0 w aP)(hcc:N<=cc)
  (hlt:i<N) (hne:p1≠b/\p6≠b/\ns≠b/\p1≠ns/\p6≠ns)
 (o1:aT w p1 [.int .i64 log,sv]) (o6:aT w p6 [.int .i64 log,.slice (some ⟨b,0,none⟩) N cc]) (ob:aT w b (fe .i64 (Es log ps S i)++rest)) (os:aT w ns ((cn S i).map (Value.int .i64)))
 {kn:a7C->a7C->a7C->a7C->a7C->a7C->a7B->Prop} {R:a7C->a7B->Prop}
 (hR:∀w',aT w' b (fe .i64 (Es log ps S (i+1))++rest)->aT w' ns ((cn S (i+1)).map (Value.int .i64))->aE w w' (λy=>y=ns∨y=b)→
  kn (.pointer (some ⟨p1,0,none⟩)) t2 (.int .i64 N) (.pointer (some ⟨p6,0,none⟩)) (.pointer (some ⟨ns,0,none⟩)) (.int .i64 ((i+1:Nat):Int)) w'):
 Cb kn R (.pointer (some ⟨p1,0,none⟩)) t2 (.int .i64 N) (.pointer (some ⟨p6,0,none⟩)) (.pointer (some ⟨ns,0,none⟩)) (.int .i64 i) w:=by
 have h15:=hm.log15;have hlen:=hm.len256;have hN2:2^log<=2^15:=a1K (by omega) h15;have hSl:S.length=2^log:=L.len;obtain⟨a,c,rfl,hc⟩:=hs.lenI;have c1:=o1.cell (off:=1);have c6:=o6.cell (off:=1);simp only[a1A,a1B]at c1 c6;have hltN:i<2^log:=by omega
 obtain⟨s,hsl,hsS,hp1,hp2,hk',hcnt⟩:=anD hm L hltN;obtain⟨k,hkk⟩:∃k,k=kAt ps S i:=⟨_,rfl⟩;rw[<-hkk]at hk';have hk2:k<2^(log+1):=by rw[a2O];omega
 have hel:i<(Es log ps S i).length:=by rw[Ho];exact hltN
 have hE0:(Es log ps S i)[i]'hel=((s:Int),0,0):=by rw[aPD hltN,hsS]
 have g0:=ob.cell (off:=i*3);rw[a1V (by rw[fR];omega),(ZQ .i64 (Es log ps S i) i hel).1,hE0]at g0;simp only at g0;obtain⟨b',off',c',e,_,hcell⟩:=(hs.ext hx (aR _)).openI (by omega);cases e;have g1:=hcell s hsl;have hlow:=hm.low _ (a2P hsl);have hSi:S[i]'(by omega)=(s:Int):=by rw[<-hsS,a1P,a1I (by omega)]<;>rfl
 have gs:=os.cell (off:=s);rw[a2F,a1I (by rw[axP];omega),aK6 (by omega)]at gs;simp only[a2Q]at gs;have hcs:=aVj (S:=S) (i:=i) (s:=s) (by omega) (by omega) hSi;have d1:decide ((s:Int)<0)=false:=by simp
 have d2:decide ((ps.length:Int)<=(s:Int))=false:=by simp;omega
 unfold Cb Kt Xz;simp(disch:=omega)only[SV,c6,g0,c1,d1,d2];have hpn:=mD hlow;have hcl:(S.take i).count (s:Int)<=i:=by
  have:=List.count_le_length (a:=(s:Int)) (l:=S.take i);rw[a1N]at this;omega
 have c10:=o1.cell (off:=0);simp only[a1A]at c10;have ek:(((S.take i).count (s:Int):Nat):Int)+bX ps[s]=(k:Int):=by rw[hk'];omega
 have h9:FR (λcO t2 iU t6 cW tW w=>FQ kn cO t2 iU t6 cW tW w) (.pointer (some ⟨p1,0,none⟩)) t2 (.int .i64 N) (.pointer (some ⟨p6,0,none⟩)) (.pointer (some ⟨ns,0,none⟩)) (.int .i64 i) (.int .i64 (s:Int)) (.int .i64 (bX ps[s])) w:=by
  unfold FR acB;simp(disch:=omega)only[SV,gs,ek];refine eZ os rfl (by rw[a1M,axP];omega) λw2 os2 x2 s2=> ?_;rw[<-a6E,hcs]at os2;have o12:=o1.ext x2 (by omega);have o62:=o6.ext x2 (by omega);have ob2:=ob.ext x2 (by omega);have c12:=o12.cell (off:=0);have c62:=o62.cell (off:=1);simp only[a1A,a1B]at c12 c62;simp(disch:=omega)only[SV,c12];unfold OS tM;refine aOM (w0:=w0) h15 (by omega) hk2 o12 ?_;unfold OR;obtain⟨nbits,hnbits⟩:∃x,x=log+1-bl k:=⟨_,rfl⟩;obtain⟨eb1,eb2,eb3,eb4⟩:=aDl (log:=log) (k:=k) (by omega) hk2;rw[<-hnbits]at eb1 eb2⊢;have hent:Nu log ps S i=Dx log (s:Int) k:=by unfold Nu;rw[hsS,<-hkk]
  have hes:=aPE (log:=log) (ps:=ps) (S:=S) (i:=i) hltN;rw[hent]at hes;simp(disch:=omega)only[SV,c62];refine eZ ob2 rfl (by rw[a1O,fR,Ho];omega) λw3 ob3 x3 s3=> ?_;rw[aQL hel,hE0]at ob3;have o63:=aH (o62.ext x3 (by omega));have ob3:=aH ob3;have c63:=o63.cell (off:=1);simp only[a1A,a1B]at c63;simp(disch:=omega)only[SV,c63];refine(IE nbits (by omega) _).mono ?_;rintro r w4 ⟨rfl,rfl⟩;have hA:=a3K (a3K (a2V (2^nbits) (show k<=k+1 by omega)) eb2) (a1K (show 0<2 by omega) (show log+1<=16 by omega));have hpw:((2^nbits:Nat):Int)=(2:Int)^nbits:=by simp
  rw[<-hpw];have em:(k:Int)*((2^nbits:Nat):Int)=((k*2^nbits:Nat):Int):=by simp
  have e5:(((k*2^nbits:Nat):Int)-(N:Int))=(Dx log (s:Int) k).2.2:=by
   unfold Dx;simp only;rw[<-hnbits,<-hN];simp
  have e7:(Dx log (s:Int) k)=((s:Int),(nbits:Int),(Dx log (s:Int) k).2.2):=by unfold Dx;rw[hnbits]
  generalize hq:k*2^nbits=q at*;have e6:IntKind.i64.wrap ((q:Int)-(N:Int))=(q:Int)-(N:Int):=dM (by omega) (by omega);have ew:IntKind.i64.wrap (q:Int)=(q:Int):=dM (by omega) (by omega);generalize hbase:(Dx log (s:Int) k).2.2=base at*;rw[e5]at e6;simp(disch:=omega)only[SV,c63,em,ew,e5,e6];have hel5:i<((Es log ps S i).set i ((s:Int),(nbits:Int),0)).length:=by simpa using hel
  refine eZ ob3 rfl (by rw[a1O,fR];simp[Ho];omega) λw5 ob5 x5 s5=> ?_;rw[aQM hel5]at ob5;simp only[a6D,List.set_set]at ob5;rw[<-e7,hes]at ob5;unfold FQ;simp(disch:=omega)only[SV];refine hR _ ob5 ((aH (os2.ext x3 (by omega))).ext x5 (by omega)) ?_;exact(((x2.mono λ_ _ h=> .inl h:aE w w2 (λy=>y=ns∨y=b)).seq (x3.mono λ_ _ h=> .inr h)).seq (aE.dr _ _)).seq (x5.mono λ_ _ h=> .inr h)
 unfold Ks Xy;by_cases hneg:ps[s]<0
 .have d3:decide (ps[s]<0)=true:=by simpa using hneg
  have ep:bX ps[s]=1:=by unfold bX;rw[if_pos hneg]
  rw[ep]at h9;simp(disch:=omega)only[SV,c1,g1,d3];exact h9
 .have d3:decide (ps[s]<0)=false:=by simpa using hneg
  have ep:bX ps[s]=ps[s]:=by unfold bX;rw[if_neg hneg]
  rw[ep]at h9;simp(disch:=omega)only[SV,c1,g1,d3];exact h9
theorem aOQ{p2:Nat}{S:List Int}(hm:May log ps)(L:Lay log ps S)(hN:2^log=N)(hs:Sl w0 sv (ps.map (Value.int .i64)))(hx:aE w0 w aP)(hcc:N<=cc)
 (hne:p1≠b/\p6≠b/\p2≠b/\p2≠p6/\p1≠p2) (hlo:w0.heap.size<=b/\w0.heap.size<=p2)
 (o1:aT w p1 [.int .i64 log,sv]) (o2:aT w p2 [.int .i64 0,.slice none 0 0]) (o6:aT w p6 [.int .i64 log,.slice (some ⟨b,0,none⟩) N cc]) (ob:aT w b (fe .i64 (m3 S)++rest)) {R:a7C->a7B->Prop}
 (hR:∀w',aT w' b (fe .i64 (Es log ps S N)++rest)->aE w0 w' aP->R (.tuple #[.agg #[.int .i64 log,.slice (some ⟨b,0,none⟩) N cc],.int .i64 0]) w'):
 Cd R (.pointer (some ⟨p1,0,none⟩)) (.pointer (some ⟨p2,0,none⟩)) (.int .i64 N) (.pointer (some ⟨p6,0,none⟩)) w:=by
 have hN2:2^log<=2^15:=a1K (by omega) hm.log15;unfold Cd XD;refine aGQ λw1 os x1 s1=> ?_;obtain⟨cs,hcs,os⟩:∃cs,cs=List.replicate 256 (Value.int .i64 0)/\aT w1 w.heap.size cs:=⟨_,by kernel_rfl,os⟩;rw[hcs]at os;have os:aT w1 w.heap.size ((cn S 0).map (Value.int .i64)):=by rw[aS8,a5X];exact os
 have l1:=o1.lt;have l2:=o2.lt;have l6:=o6.lt;have lb:=ob.lt;have hxs:=hx.size;have o1:=o1.ext x1 (λh=>h);have o2:=o2.ext x1 (λh=>h);have o6:=o6.ext x1 (λh=>h);have ob:=ob.ext x1 (λh=>h);have x01:=hx.seq x1;generalize w.heap.size=ns at*;have ob:aT w1 b (fe .i64 (Es log ps S 0)++rest):=by rw[aMw L.len];exact ob
 unfold Kv Ku XC Cc;refine aN.rule (λm t w'=>∃i:Nat,m=N-i/\t= .int .i64 i/\i<=N/\aT w' b (fe .i64 (Es log ps S i)++rest)/\aT w' ns ((cn S i).map (Value.int .i64))/\aE w1 w' (λy=>y=ns∨y=b)) N ⟨0,rfl,rfl,by omega,ob,os,aE.refl _ _⟩ ?_;rintro m t w2 ⟨i,rfl,rfl,hi,ob2,os2,x2⟩;have x02:aE w0 w2 aP:=x01.trans x2 (λy hy hh=>by omega);have o62:=o6.ext x2 (by omega);unfold XB XA;by_cases hlt:i<N
 .have d1:decide ((i:Int)<(N:Int))=true:=by simp only[decide_eq_true_eq];omega
  simp(disch:=omega)only[SV,d1];refine aO1 hm L hN hs x02 hcc hlt (by omega) (o1.ext x2 (by omega)) o62 ob2 os2 λw3 ob3 os3 x3=> ?_;exact⟨N-(i+1),by omega,i+1,rfl,rfl,by omega,ob3,os3,x2.trans x3 (λ_ _ h=>h)⟩
 .have d1:decide ((i:Int)<(N:Int))=false:=by simp only[decide_eq_false_iff_not];omega
  have:i=N:=by omega
  subst this;have l4:=aX (off:=0) o62 (by simp);simp only[a1F,a1C,a1G]at l4;simp(disch:=omega)only[SV,d1];unfold OQ;simp(disch:=omega)only[SV,l4];refine bN (o2.ext x2 (by omega)) rfl (by simp[one]) (by simp) λw5 o25 x5 s5=> ?_;refine qF o25 (by simp[aF]) ?_;simp only[aF,a1E,a1D,a1F,a1C,a1G];exact hR _ (ob2.ext x5 (by omega)) (x02.new x5 hlo.2)
theorem apD(hm:May log ps)(hs:Sl w sv (ps.map (Value.int .i64))):
 aL pg Rw #[.agg #[.int .i64 log,sv]] w (λr w'=>∃b cc rest,r= .tuple #[.agg #[.int .i64 log,.slice (some ⟨b,0,none⟩) (2^log) cc],.int .i64 0]/\w.heap.size<=b/\aT w' b (fe .i64 (fL log ps)++rest)/\aE w w' aP):=by
 refine azP ?_;have hlen:=hm.len256;have h15:=hm.log15;have hN2:2^log<=2^15:=a1K (by omega) h15;have hN1:2^5<=2^log:=a1K (by omega) hm.log5;unfold aA8 XV XU;refine bY λw1 o1 x1 s1=> ?_;refine cL λw2 o2 x2 s2=> ?_;have o1:=o1.ext x2 (λh=>h);have l1:=fM (off:=0) o1 (by simp[Value.cells]);simp only[Value.cells,a1F,a1C,a1G]at l1;simp(disch:=omega)only[SV,l1];refine(aLQ (most:=15) ((hs.ext x1 (aR _)).ext x2 (aR _)) (by omega)).mono ?_;rintro r w3 ⟨rfl,x3⟩;have hce:=aNk (most:=15) hm hm.log15;rw[show(((15:Nat):Int))=15 from rfl]at hce;rw[hce];have e0:((0:Int) !=0)=false:=rfl;have o1:=o1.ext x3 (λh=>h);have o2:=o2.ext x3 (λh=>h);have c0:=o1.cell (off:=0);simp only[Value.cells,a1A]at c0;simp(disch:=omega)only[SV,e0,c0];refine(IE log (by omega) _).mono ?_;rintro r w4 ⟨rfl,rfl⟩;have hpow:((2^log:Nat):Int)=(2:Int)^log:=by simp
 rw[<-hpow];simp(disch:=omega)only[SV,c0];refine cL λw5 o5 x5 s5=> ?_;refine bN o5 rfl (by simp[one]) (by simp) λw6 o6 x6 s6=> ?_;simp only[aF,a1E,a1D]at o6;have l1:=o1.lt;have l2:=o2.lt;have l6:=o6.lt;have z1:=x1.size;have z2:=x2.size;have z3:=x3.size;have z5:=x5.size;have z6:=x6.size;have o1:=(o1.ext x5 (λh=>h)).ext x6 (by omega);have o2:=(o2.ext x5 (λh=>h)).ext x6 (by omega);have x06:aE w w6 aP:=((((x1.seq x2).seq x3).seq x5)).new x6 (by omega);have hne:w.heap.size≠w1.heap.size/\w.heap.size≠w4.heap.size/\w1.heap.size≠w4.heap.size:=by omega
 have hp12:w.heap.size<=w1.heap.size/\w1.heap.size<=w4.heap.size:=by omega
 obtain⟨p1,hp1⟩:∃p1,p1=w.heap.size:=⟨_,rfl⟩;generalize w1.heap.size=p2 at*;generalize w4.heap.size=p6 at*;rw[<-hp1]at o1⊢;obtain⟨arr,ht,harr,hneg,hsp⟩:=aBk hm (-1);have hlay:=C9 hm (-1);have hEs:=aPC log ps;rw[aPe hm 0 (-1)]at hEs;rw[hsp]at hlay hEs;generalize hN:2^log=N at*;unfold KJ KI XT qY;refine aOS (by omega) (by omega) o6 λw7 b cc rest o67 ob hcc hb x7=> ?_;have o17:=o1.ext x7 (by omega);have o27:=o2.ext x7 (by omega);have x07:aE w w7 aP:=x06.trans x7 (λy hy hh=>by omega);unfold KH XR;simp(disch:=omega)only[SV];unfold KG KF XQ qX;refine aO3 hm hs x07 (by omega) hcc (by simp) (by omega) ht (by omega) (by omega) o17 o67 ob λw8 ob8 x8=> ?_;have x08:=x07.new x8 (by omega);have o18:=o17.ext x8 (by omega);have o28:=o27.ext x8 (by omega);have o68:=o67.ext x8 (by omega);unfold KE XM KD KC XL qW;refine aLT hm hs x08 (by omega) (by omega) hcc harr rfl (by omega) (by omega) (by omega) o18 o68 ob8 λw9 ob9 x9=> ?_;have x09:=x08.new x9 (by omega);refine aOQ hm hlay hN hs x09 hcc (by omega) (by omega) (o18.ext x9 (by omega)) (o28.ext x9 (by omega)) (o68.ext x9 (by omega)) ob9 λw10 ob10 x10=> ?_;rw[hEs]at ob10;exact⟨b,cc,rest,rfl,by omega,ob10,x10⟩
theorem aN9 (hm:May log ps):∀e∈fL log ps,0<=e.1/\e.1<256:=by
 intro e he;obtain⟨i,hi,rfl⟩:=a4K he;have h2:i<2^log:=by rw[eN]at hi;exact hi
 rw[aC9 log ps h2];obtain⟨s,hs,e,_⟩:=anD hm (C9 hm 0) h2;have:=hm.len256;rw[e];omega
structure GK(k:Nat)(T:Nat×List T3):Prop where
 lg:T.1<=9
 len:T.2.length=2^T.1
 low:Low T.2
 sym:∀e∈T.2,∃c:Nat,e.1=(c:Int)/\c<oA k
 nxt:∀e∈T.2,e.2.2+((2^e.2.1.toNat:Nat):Int)<=(T.2.length:Int)
theorem aQP(hc:c<oA k):GK k (0,[((c:Int),0,0)]):=by
 refine⟨a4G _,rfl, ?_, ?_, ?_⟩
 .intro e he;obtain rfl:=a3W.1 he;exact⟨0,rfl,by omega,a6P _,show(0:Int)<=100000 by decide⟩
 .intro e he;obtain rfl:=a3W.1 he;exact⟨c,rfl,hc⟩
 .intro e he;obtain rfl:=a3W.1 he;show(0:Int)+((2^(0:Int).toNat:Nat):Int)<=((1:Nat):Int);decide
theorem aDu{lg:Nat}(hm:May lg ps)(h9:lg<=9)(hl:ps.length<=oA k):GK k (lg,fL lg ps):=by
 refine⟨h9,eN _ _,aDa hm, ?_, ?_⟩
 .intro e he;obtain⟨i,hi,rfl⟩:=a4K he;have h2:i<2^lg:=by rw[eN]at hi;exact hi
  obtain⟨s,hs,e,_⟩:=anD hm (C9 hm 0) h2;exact⟨s,by rw[aC9 lg ps h2,e],by omega⟩
 .intro e he;obtain⟨i,hi',rfl⟩:=a4K he;have hi:=hi';rw[eN]at hi;have hat:=axN (ps:=ps) hi;rw[a1I hi']at hat;rw[a1Z hat];have L:=C9 hm 0;obtain⟨s,hs,hg,hp1,hp2,hk,hc⟩:=anD hm L hi;have hk2:kAt ps (eE 0 lg ps) i<2^(lg+1):=by rw[a2O];omega
  obtain⟨e1,e2,e3,e4⟩:=aDl (log:=lg) (k:=kAt ps (eE 0 lg ps) i) (by omega) hk2;have hpow:((2^lg:Nat):Int)=(2:Int)^lg:=by simp
  show(Nu lg ps (eE 0 lg ps) i).2.2+((2^(Nu lg ps (eE 0 lg ps) i).2.1.toNat:Nat):Int)<=((fL lg ps).length:Int);rw[eN];unfold Nu Dx;rw[<-hpow];show((kAt ps (eE 0 lg ps) i*2^(lg+1-bl (kAt ps (eE 0 lg ps) i)):Nat):Int)-((2^lg:Nat):Int)+((2^(((lg+1-bl (kAt ps (eE 0 lg ps) i):Nat):Int)).toNat:Nat):Int)<=((2^lg:Nat):Int);rw[a1H];rw[a7A,a2O]at e2;generalize kAt ps (eE 0 lg ps) i*2^(lg+1-bl (kAt ps (eE 0 lg ps) i))=X at*;generalize 2^(lg+1-bl (kAt ps (eE 0 lg ps) i))=Y at*;omega
theorem aVx(hk:k<3):(gvP (k:Int)).length<=oA k:=by
 rcases(show k=0∨k=1∨k=2 by omega)with rfl|rfl|rfl<;>decide
theorem aTo(hk:k<3):tZ (k:Int)=((oA k:Nat):Int)-1:=by
 rcases(show k=0∨k=1∨k=2 by omega)with rfl|rfl|rfl<;>rfl
theorem aG7 (hk:k<3):GK k (gvL (k:Int),fL (gvL (k:Int)) (gvP (k:Int))):=
 aDu (aLk (by omega)) (by unfold gvL;split<;>(try split)<;>omega) (aVx hk)
theorem aMd{mode:Nat}{T T':Nat×List T3}(hk:k<3)(hT:mode=3->T.2≠[]->GK k T)(h:cZ (k:Int) (mode:Int) l T= .ok (T',n)):GK k T'/\n<=l.length:=by
 have hc53:oA k<=53:=by rcases(show k=0∨k=1∨k=2 by omega)with rfl|rfl|rfl<;>decide
 have hc0:0<oA k:=by rcases(show k=0∨k=1∨k=2 by omega)with rfl|rfl|rfl<;>decide
 unfold cZ at h;rw[aTo hk]at h;split at h
 .cases h
 split at h
 .cases h;exact⟨aG7 hk,a4G _⟩
 split at h
 .split at h
  .cases h
  .split at h
   .cases h
   .cases h;rename_i hx;exact⟨aQP (by omega),by simp⟩
 split at h
 .split at h
  .cases h
  .cases h;rename_i hm hne;exact⟨hT (by omega) hne,a4G _⟩
 .split at h
  .cases h
  .rename_i lg ps u hr;cases h;obtain⟨h1,h2,h3⟩:=Uh hr;have h4:=VU hr;rw[cJ]at h4;have h5:aaN (k:Int)<=9:=by unfold aaN;split<;>(try split)<;>omega
   exact⟨aDu (h1 (by omega)) (by omega) (by omega),by omega⟩
theorem AtI.mono {lo' hi':Nat}(h:AtI v lo hi)(h1:lo'<=lo)(h2:hi<=hi'):AtI v lo' hi':=λM hM=>h M λb hb hh=>hM b (by omega) (by omega)
theorem apE{x:ByteArray}(he:YM (aM x)=none)(hl:x.size<=1000000):
 aL pg Qc #[.string x] w (λr w'=>r= .tuple #[.agg #[.slice none 0 0,.int .i64 0],.int .i64 11]/\aE w w' aP):=by
 refine abL ?_;have hll:=aI x;unfold azH V9 V8;refine bM λw1 o1 x1 s1=> ?_;rcases a3J x.size with h0|h0
 .have hx:x=⟨#[]⟩:=Fs (a2K.1 (by rw[hll,h0]));subst hx;simp(disch:=omega)only[SV,oI,Vy];refine aJ o1 rfl (by simp[one]) (by simp) λw6 o6 x6 s6=> ?_;refine cR o6 (by simp[aF]) ⟨rfl, ?_⟩;exact x1.new x6 (a1J _)
 .rw [TL (by omega)]at he;have hg:(x[x.size-1]'(by omega)).toNat=0:=by
   rw[Fq];simp only[hll]at he;split at he
   .assumption
   .cases he
  have e1:(x.size:Int)-1=((x.size-1:Nat):Int):=by omega
  have d2:(((0:Nat):Int)==0)=true:=rfl;have hne:=ZM h0;simp(disch:=omega)only[SV,oI,hne,e1,hg,d2];refine aJ o1 rfl (by simp[one]) (by simp) λw6 o6 x6 s6=> ?_;refine cR o6 (by simp[aF]) ⟨rfl, ?_⟩;exact x1.new x6 (a1J _)
def RB(w:a7B)(lo hi:Nat)(b:a7C)(L:List Bool)(lack:Nat):Prop:=∃v,b= .agg #[v,.int .i64 lack]/\Bl w v L/\AtI v lo hi
theorem RB.ext {b:a7C}{L:List Bool}(h:RB w lo hi b L lack)(hx:aE w w' M)(hM:∀b,lo<=b->b<hi->¬M b):RB w' lo hi b L lack:=by
 obtain⟨v,h1,h2,h3⟩:=h;exact⟨v,h1,h2.ext hx (h3 M hM),h3⟩
theorem aAj{x:ByteArray}(he:YM (aM x)=some k)(hl:x.size<=1000000):
 aL pg Qc #[.string x] w (λr w'=>∃b hi,r= .tuple #[b,.int .i64 0]/\hi<=w'.heap.size/\RB w' w.heap.size hi b ((aG (aM x)).take k) 0/\aE w w' aP):=by
 refine abL ?_;have hll:=aI x;obtain⟨h0,hk1,hk2,htop,hoff⟩:=Dw he;unfold azH V9 V8;refine bM λw1 o1 x1 s1=> ?_;rw[TL (by omega)]at he;have hg:(x[x.size-1]'(by omega)).toNat≠0:=by
  rw[Fq];simp only[hll]at he;split at he
  .cases he
  .assumption
 have e1:(x.size:Int)-1=((x.size-1:Nat):Int):=by omega
 have hne:=ZM (show 0<x.size by omega);have d2:(((x[x.size-1]'(by omega)).toNat:Int)==0)=false:=by simpa using hg
 simp(disch:=omega)only[SV,oI,hne,e1,d2];refine(aEF hl).mono ?_;rintro r w2 ⟨o2,x2⟩;have hat:=mH.atI o2;have hs:=o2.sl;have hbl:=cJ (aM x);obtain⟨a,c,rfl⟩:=o2.len;have o12:=o1.ext x2 (λh=>h);simp(disch:=omega)only[SV];unfold V7 Md;refine aN.rule (λm (t:a7C) w'=>t= .int .i64 m/\k<=m/\m<8*x.size/\w'=w2) (8*x.size-1)
  ⟨by have:((8*x.size:Nat):Int)-1=((8*x.size-1:Nat):Int):=by omega
      rw[this],by omega,by omega,rfl⟩ ?_
 rintro m t w3 ⟨rfl,hm1,hm2,rfl⟩;unfold atU;obtain⟨b,off,c',e,_,hcell⟩:=aQp hs (by omega);rw[hbl,hll]at e;cases e;have hgm:(aG (aM x))[m]?=some (decide (m=k)):=by
  by_cases h:m=k
  .subst h;simpa using htop
  .rw [hoff m (by omega) (by omega)];simp[h]
 have g:=hcell m (by omega);rw[a1I (by omega)]at hgm;rw[a1Z hgm]at g;by_cases h:m=k
 .subst h;have d3:decide (m=m)=true:=by simp
  have hsl:=hs.take' (k:=m) (by omega);have hsub:AtI (.slice (dI (some ⟨b,off,none⟩) c 0 1) (m-0) (c-0)) w1.heap.size w3.heap.size:=AtI.sub hat (by omega);rw[<-a4R]at hsl;unfold V6;simp(disch:=omega)only[SV,g,d3];refine aJ o12 rfl (by simp[one]) (by simp) λw6 o6 x6 s6=> ?_;refine cR o6 (by simp[aF]) ?_;simp only[aF,a1E,a1D,a1F,a1C,a1G];have z1:=x1.size;have z2:=x2.size;refine⟨_,w3.heap.size,rfl,by have:=x6.size;omega,⟨_,rfl,hsl.ext x6 (hsub _ λb hb hh=>by omega),AtI.mono hsub (by omega) (by omega)⟩, ?_⟩;exact(x1.seq x2).new x6 (by omega)
 .have d3:decide (m=k)=false:=by simpa using h
  have e2:(m:Int)-1=((m-1:Nat):Int):=by omega
  simp(disch:=omega)only[SV,g,d3,e2];exact⟨m-1,by omega,rfl,by omega,by omega⟩
theorem afW{b:a7C}{L:List Bool}(h:RB w lo hi b L lack)(hn:n<=56)(hL:L.length<=10000000)(hk:lack<=1000000000):
 aL pg DQ #[b,.int .i64 n] w (λr w'=>∃b',r= .tuple #[b',.int .u64 (iI L n:Nat)]/\RB w' lo hi b' (L.take (L.length-min n L.length)) (lack+(n-min n L.length))/\aE w w' aP):=by
 refine aBW ?_;obtain⟨RR,hRR⟩:∃RR:a7C->a7B->Prop,RR=λr w'=>∃b',r= .tuple #[b',.int .u64 (iI L n:Nat)]/\RB w' lo hi b' (L.take (L.length-min n L.length)) (lack+(n-min n L.length))/\aE w w' aP:=⟨_,rfl⟩;rw[<-hRR];obtain⟨v,rfl,hs,hat⟩:=h;obtain⟨a,c,rfl,hc⟩:=Dh hs;unfold aEj abK abJ;refine bY λw1 o1 x1 s1=> ?_;refine bM λw2 o2 x2 s2=> ?_;simp only[Value.cells]at o1;have o1:=o1.ext x2 (λh=>h);have c0:=o1.cell (off:=0);simp only[a1A,a1B]at c0;have x02:aE w w2 aP:=x1.seq x2;have hne:w.heap.size≠w1.heap.size:=by omega
 obtain⟨p1,hp1⟩:∃p1,p1=w.heap.size:=⟨_,rfl⟩;obtain⟨p2,hp2⟩:∃p2,p2=w1.heap.size:=⟨_,rfl⟩;rw[<-hp1,<-hp2]at hne;rw[<-hp1]at o1 c0⊢;rw[<-hp2]at o2⊢;have hw1:w.heap.size<=p1:=by omega
 have hw2:w.heap.size<=p2:=by omega
 have fin:∀(v:a7C) (l:Nat) (w':a7B) (xx:Nat),aT w' p1 [v,.int .i64 l]->one v=true->aT w' p2 [.slice none 0 0,.int .i64 0]->aE w w' aP→
     (∀w'',aE w w'' aP->RR (.tuple #[.agg #[v,.int .i64 l],.int .u64 xx]) w'')->bF pg (cK 128 (.pointer (some ⟨p1,0,none⟩))) w' λt15 w=>bF pg (dL 128 (.pointer (some ⟨p2,0,none⟩)) t15) w λ_u w=>LdR pg 128 (.pointer (some ⟨p2,0,none⟩)) w λr0=>RR (.tuple #[r0,.int .u64 xx]) w:=by
  intro v l w' xx q1 qv q2 qx qk;have l1:=aQ (off:=0) q1 (by simp);simp only[a1F,a1C,a1G]at l1;simp(disch:=omega)only[SV,l1];refine aJ q2 rfl (by simp[one];exact qv) (by simp) λw6 o6 x6 s6=> ?_;refine cR o6 (by simp[aF]) ?_;simp only[aF,a1E,a1D,a1F,a1C,a1G];exact qk _ (qx.new x6 hw2)
 by_cases hn0:n=0
 .subst hn0;have d1:decide (((0:Nat):Int)<1)=true:=rfl;simp(disch:=omega)only[SV,d1];refine fin _ lack w2 0 o1 rfl o2 x02 λw' x=> ?_;rw[hRR];refine⟨.agg #[.slice a L.length c,.int .i64 lack], ?_,⟨_,rfl, ?_,hat⟩,x⟩
  .have h0:iI L 0=0:=by
    have:=kY L 0;rw[Nat.pow_zero]at this;omega
   rw[h0]
  .have:L.take (L.length-min 0 L.length)=L:=a1T (by omega);rw[this];exact hs.ext x (aR _)
 have d1:decide ((n:Int)<1)=false:=by simp;omega
 have d2:decide ((56:Int)<(n:Int))=false:=by simp;omega
 have hlt:=kY L n;have hp:2^n<=2^56:=a1K (by omega) hn
 have tail:∀k:Nat,k=min n L.length->IH RR
     (.int .i64 n) (.pointer (some ⟨p1,0,none⟩)) (.pointer (some ⟨p2,0,none⟩)) (.int .i64 k) w2:=by
  intro k hk0;rw[<-hk0]at hRR;have hsd:=(hs.ext x02 (aR _)).drop' (k:=L.length-k) (by omega);rw[<-a3M]at hsd;have hval:iI L n=tX (L.drop (L.length-k))*2^(n-k):=by unfold iI;rw[<-hk0]
  have e1:(L.length:Int)-(k:Int)=((L.length-k:Nat):Int):=by omega
  unfold IH ajR;simp(disch:=omega)only[SV,c0,e1];refine(aBi hsd (by rw[a1L];omega)).mono ?_;rintro r w3 ⟨rfl,rfl⟩;generalize tX (L.drop (L.length-k))=x0 at*;unfold Su St ajQ IG;refine aN.rule (λm (t:a7C×a7C) w'=>∃i:Nat,m=n-i/\t=(.int .u64 (x0*2^(i-k):Nat),.int .i64 i)/\k<=i/\i<=n/\aT w' p1 [.slice a L.length c,.int .i64 (lack+(i-k):Nat)]/\aE w3 w' (λy=>y=p1)) (n-k)
   ⟨k,rfl,by simp,by omega,by omega,by simpa using o1,aE.refl _ _⟩ ?_
  rintro m t w4 ⟨i,rfl,rfl,hi1,hi2,o4,x4⟩;have c14:=o4.cell (off:=1);have c04:=o4.cell (off:=0);simp only[a1A,a1B]at c14 c04;unfold ajP;by_cases hlt2:i<n
  .have d3:decide ((i:Int)<(n:Int))=true:=by simp;omega
   have hle:x0*2^(i+1-k)<=iI L n:=by
    rw[hval];exact Nat.mul_le_mul_left _ (a1K (by omega) (by omega))
   have hsu:x0*2^(i+1-k)=x0*2^(i-k)*2:=by rw[show i+1-k=i-k+1 from by omega,a2O,a6J]
   generalize x0*2^(i-k)=y at*;have e2:((lack+(i-k):Nat):Int)+1=((lack+(i+1-k):Nat):Int):=by omega
   have e3:(y:Int)*2=((y*2:Nat):Int):=by omega
   simp(disch:=omega)only[SV,d3,c14,e2,e3];refine eZ o4 rfl (by simp) λw5 o5 x5 s5=> ?_;simp only[a1E,a1D]at o5;exact⟨n-(i+1),by omega,i+1,by omega,by rw[hsu];simp,by omega,by omega,o5,x4.seq x5⟩
  .have d3:decide ((i:Int)<(n:Int))=false:=by simp;omega
   obtain rfl:i=n:=by omega
   rw[<-hval];unfold Ss;simp(disch:=omega)only[SV,d3,c04,e1];refine aMa o4 rfl (by simp) λw5 o5 x5 s5=> ?_;simp only[a1E,a1D]at o5;have x35:=x4.seq x5;refine fin _ _ w5 _ o5 rfl (o2.ext x35 (by omega)) (x02.new x35 hw1) λw' x=> ?_;rw[hRR];refine⟨_,rfl,⟨_,rfl, ?_,AtI.sub hat (by omega)⟩,x⟩;have hst:=hs.take' (k:=L.length-k) (by omega);rw[<-a4R]at hst;exact hst.ext x (aR _)
 by_cases hgt:L.length<n
 .have d3:decide ((L.length:Int)<(n:Int))=true:=by simp;omega
  simp(disch:=omega)only[SV,d1,d2,c0,d3];exact tail _ (by omega)
 .have d3:decide ((L.length:Int)<(n:Int))=false:=by simp;omega
  simp(disch:=omega)only[SV,d1,d2,c0,d3];exact tail _ (by omega)
theorem afX{b:a7C}{L:List Bool}(h:RB w lo hi b L lack)(hL:L.length<=10000000)(hk:lack<=1000000000):
 aL pg LU #[b] w (λr w'=>r= .int .i64 ((L.length:Int)-lack)/\aE w w' aP):=by
 refine aBX ?_;obtain⟨v,rfl,hs,hat⟩:=h;obtain⟨a,c,rfl,hc⟩:=Dh hs;unfold aEk ajS;refine bY λw1 o1 x1 s1=> ?_;simp only[Value.cells]at o1;have c0:=o1.cell (off:=0);have c1:=o1.cell (off:=1);simp only[a1A,a1B]at c0 c1;simp(disch:=omega)only[SV,c0,c1];exact x1
theorem aVK(hx:x<256)(w:a7B):aL pg Hq #[.int .u8 x] w (λr w'=>r= .int .i64 (bl x:Nat)/\w'=w):=by
 refine agK ?_;have hg:=aJp x hx;have hs:=afQ;have hb:bl x<=8:=rH (n:=8) (by omega);unfold aaJ QR;change bF pg (aAk 9 (.string aJo) _) w _;simp(disch:=omega)only[SV,hg]
def UP(w:a7B)(lo hi:Nat)(l:List UInt8)(left:Int):Prop:=∃v,aT w hi [v,.int .i64 left]/\Bs w v l/\AtI v lo hi
theorem UP.ext (h:UP w lo hi l left)(hx:aE w w' M)(hM:∀b,lo<=b->b<=hi->¬M b)(hlh:lo<=hi):UP w' lo hi l left:=by
 obtain⟨v,h1,h2,h3⟩:=h;exact⟨v,h1.ext hx (hM _ hlh (a1J _)),h2.ext hx (h3 M λb hb hh=>hM b hb (by omega)),h3⟩
theorem Kk(h:Bs w v l)(he:YM l=none)(hl:l.length<=1000000):
 aL pg uC #[v] w (λr w'=>r= .tuple #[.pointer none,.int .i64 11]/\w'=w):=by
 refine GZ ?_;unfold HE Bf;rcases a3J l.length with h0|h0
 .obtain ⟨a,n,c,rfl,hn,hc,hh⟩:=h;rw[a1M,h0]at hn;subst hn;have d1:(((0:Nat):Int)==0)=true:=rfl;simp(disch:=omega)only[SV,d1]
 .obtain ⟨b,off,c,rfl,hc,hcell⟩:=Vs h h0;rw[TL h0]at he;have g:=hcell (l.length-1) (by omega);generalize(l[l.length-1]'(by omega))=x at*;have hx0:x.toNat=0:=by
   rcases a3J x.toNat with h|h
   .exact h
   .rw [if_neg (by omega)]at he;cases he
  rw[hx0]at g;have d1:((l.length:Int)==0)=false:=by simp;intro h;subst h;simp at h0
  have e1:(l.length:Int)-1=((l.length-1:Nat):Int):=by omega
  have d2:(((0:Nat):Int)==0)=true:=rfl;simp(disch:=omega)only[SV,d1,e1,g,d2]
theorem Ov(h:Bs w v l)(he:YM l=some k)(hl:l.length<=1000000):
 aL pg uC #[v] w (λr w'=>∃hi,r= .tuple #[.pointer (some ⟨hi,0,none⟩),.int .i64 0]/\w.heap.size<=hi/\hi<w'.heap.size/\UP w' w.heap.size hi l k/\aE w w' aP):=by
 refine GZ ?_;unfold HE Bf;have h0:=(Dw he).1;obtain⟨b,off,c,rfl,hc,hcell⟩:=Vs h h0;rw[TL h0]at he;have g:=hcell (l.length-1) (by omega);generalize(l[l.length-1]'(by omega))=x at*;have hx:x.toNat<256:=a2D x;have hx0:x.toNat≠0:=by
  intro h;rw[if_pos h]at he;cases he
 rw[if_neg hx0]at he;have he:=a1Z he;have hb1:=M9 hx0;have hb2:bl x.toNat<=8:=rH (n:=8) (by omega);have d1:((l.length:Int)==0)=false:=by simp;intro h;subst h;simp at h0
 have e1:(l.length:Int)-1=((l.length-1:Nat):Int):=by omega
 have d2:((x.toNat:Int)==0)=false:=by simpa using hx0
 simp(disch:=omega)only[SV,d1,e1,g,d2];refine(LZ (h.ext (aE.dr _ aP) (aR _)) (by omega)).mono ?_;rintro r w1 ⟨o1,x1⟩;have x01:aE w w1 aP:=(aE.dr w aP).seq x1;have g1:=aqQ g x01 (λh=>h);have hat:=mH.atI o1;have hs:=o1.sl;obtain⟨a,c',rfl⟩:=o1.len;have gd:(dr w).cell? ⟨b,off+(l.length-1),none⟩=some (.int .u8 (x.toNat:Nat)):=g;simp(disch:=omega)only[SV,e1,g1,gd];refine(aVK hx _).mono ?_;rintro r w2 ⟨rfl,rfl⟩;have e2:8*((l.length-1:Nat):Int)+(bl x.toNat:Nat)-1=(k:Int):=by omega
 simp(disch:=omega)only[SV,e1,e2];refine bY λw3 o3 x3 s3=> ?_;simp only[Value.cells]at o3;exact⟨_,rfl,x01.size,by omega,⟨_,o3,hs.ext x3 (aR _),hat⟩,x01.seq x3⟩
theorem Tp(h:UP w lo hi l left):
 aL pg rB #[.pointer (some ⟨hi,0,none⟩)] w (λr w'=>r= .int .i64 left/\w'=w):=by
 refine Tm ?_;obtain⟨v,o,hs,hat⟩:=h;have c1:=o.cell (off:=1);simp only[a1A,a1B]at c1;unfold M6 GX;simp(disch:=omega)only[SV,c1]
theorem afM(h:UP w lo hi l left)(hlh:lo<=hi)(hn:n<=56)(h1:left<=8*l.length)(h2: -1000000000<=left)(hl:l.length<=1000000):
 aL pg yN #[.pointer (some ⟨hi,0,none⟩),.int .i64 n] w (λr w'=>
  r= .int .u64 (iI ((aG l).take left.toNat) n)/\UP w' lo hi l (left-n)/\aE w w' (λy=>y=hi)):=by
 refine Tn ?_;unfold M7 GY;by_cases hn0:n=0
 .subst hn0;have d1:decide (((0:Nat):Int)<1)=true:=rfl;simp(disch:=omega)only[SV,d1];have h0:iI ((aG l).take left.toNat) 0=0:=by
   have:=kY ((aG l).take left.toNat) 0;rw[Nat.pow_zero]at this;omega
  exact⟨by rw[h0]<;>rfl,by simpa using h,aE.refl _ _⟩
 obtain⟨v,o,hs,hat⟩:=h;have c0:=o.cell (off:=0);have c1:=o.cell (off:=1);have od:=aH o;have c0d:=od.cell (off:=0);have c1d:=od.cell (off:=1);simp only[a1A,a1B]at c0 c1 c0d c1d;have d1:decide ((n:Int)<1)=false:=by simp;omega
 have d2:decide ((56:Int)<(n:Int))=false:=by simp;omega
 obtain⟨k0,hk0⟩:∃k0,k0=left.toNat:=⟨_,rfl⟩;obtain⟨th,hth⟩:∃th,th=min n k0:=⟨_,rfl⟩;have e1:(if(0:Int)>left then 0 else left)=(k0:Int):=by split<;>omega
 have e2:(if(n:Int)<(k0:Int)then(n:Int)else(k0:Int))=(th:Int):=by split<;>omega
 have e3:(k0:Int)-(th:Int)=((k0-th:Nat):Int):=by omega
 have e4:(n:Int)-(th:Int)=((n-th:Nat):Int):=by omega
 rw[<-hk0];have hlen:((aG l).take k0).length=k0:=by rw[a1N,cJ];omega
 have hlast:iI ((aG l).take k0) n=tX (((aG l).drop (k0-th)).take th)*2^(n-th):=by
  unfold iI;rw[hlen,<-hth,List.drop_take,show k0-(k0-th)=th from by omega]
 have hlt:=kY ((aG l).take k0) n;have hp:2^n<=2^56:=a1K (by omega) hn;have e5:IntKind.u64.wrap (((tX (((aG l).drop (k0-th)).take th):Nat):Int)*2^(min (n-th) IntKind.u64.bits))=((iI ((aG l).take k0) n:Nat):Int):=by
  rw[show min (n-th) IntKind.u64.bits=n-th from a2T (by have h64:IntKind.u64.bits=64:=rfl;omega),hlast];have e:((tX (((aG l).drop (k0-th)).take th):Nat):Int)*2^(n-th)=((tX (((aG l).drop (k0-th)).take th)*2^(n-th):Nat):Int):=by simp
  rw[e];rw[hlast]at hlt;exact eL (by omega) (by omega)
 simp(disch:=omega)only[SV,d1,d2,c0,c1,c0d,c1d,e1,e2,e3,e4];refine(aSe (l:=l) (st:=k0-th) (n:=th) (hs.ext (aE.dr _ aP) (aR _)) (by omega) (by omega) (by omega)).mono ?_;rintro r w1 ⟨rfl,rfl⟩;simp(disch:=omega)only[SV,c0d,c1d,e4,e5];refine eZ od rfl (by simp) λw2 o2 x2 s2=> ?_;simp only[a1E,a1D]at o2;have x02:aE w w2 (λy=>y=hi):=(aE.dr _ _).seq x2;exact⟨⟨_,o2,hs.ext x02 (hat _ λb hb hh=>by omega),hat⟩,x02⟩
def cM(L:List T3)(s:Int):Nat:=if 0<=s then(match L[s.toNat]? with|some e=>e.2.1.toNat|none=>0)else 0
def oH(L:List T3)(s:Int)(x:Nat):Int:=if 0<=s then(match L[s.toNat]? with|some e=>e.2.2+x|none=>0)else 0
theorem aFO(h:Low L)(s:Int):cM L s<=20:=by
 unfold cM;split
 .split
  .rename_i e he;obtain⟨n,h1,h2,_⟩:=h _ (a3E he);rw[h1];simpa using h2
  .omega
 .omega
theorem amT{a:Option Addr}(h:UP w lo hi l left)(hlh:lo<=hi)(hhi:hi<w.heap.size)(hn:log<=20)(h1:left<=8*l.length)(h2: -100000000<=left)(hl:l.length<=1000000):
 aL pg Zd #[.agg #[.int .i64 log,.slice a k c],.pointer (some ⟨hi,0,none⟩)] w (λr w'=>r= .int .i64 (iI ((aG l).take left.toNat) log:Nat)/\UP w' lo hi l (left-log)/\aE w w' (λy=>y=hi)):=by
 refine aDs ?_;unfold aF3 arI;refine bY λw1 o1 x1 s1=> ?_;simp only[Value.cells]at o1;have c0:=o1.cell (off:=0);simp only[a1A,a1B]at c0;simp(disch:=omega)only[SV,c0];refine(afM (h.ext x1 (λ_ _ _ h=>h) hlh) hlh (by omega) h1 (by omega) hl).mono ?_;rintro r w2 ⟨rfl,b2,x2⟩;have hlt:=kY ((aG l).take left.toNat) log;have hp:2^log<=2^20:=a1K (by omega) hn;generalize iI ((aG l).take left.toNat) log=x at*;simp(disch:=omega)only[SV];exact⟨b2,(x1.mono λ_ _ h=>h.elim).seq x2⟩
theorem aF2 {s:Int}(ht:Tbl w base b log L v)(hL:Low L)(hlen:L.length<=1000000)(h:UP w lo hi l left)(hlh:lo<=hi)(hhi:hi<w.heap.size)(hb:b≠hi)(h1:left<=8*l.length)(h2: -100000000<=left)(hl:l.length<=1000000):
 aL pg amA #[v,.int .i64 s,.pointer (some ⟨hi,0,none⟩)] w (λr w'=>r= .int .i64 (oH L s (iI ((aG l).take left.toNat) (cM L s)))/\UP w' lo hi l (left-cM L s)/\aE w w' (λy=>y=hi)):=by
 refine aFm ?_;obtain⟨rfl,hb0,ob⟩:=ht;unfold aI1 aAR;refine bY λw1 o1 x1 s1=> ?_;simp only[Value.cells]at o1;have c1:=o1.cell (off:=1);simp only[a1A,a1B]at c1;have hbw:=h.ext x1 (λ_ _ _ h=>h) hlh;by_cases hs0:s<0
 .have d1:decide (s<0)=true:=by simpa using hs0
  have e1:cM L s=0:=by unfold cM;rw[if_neg (by omega)]
  have e2:∀x,oH L s x=0:=λx=>by unfold oH;rw[if_neg (by omega)]
  rw[e1];simp(disch:=omega)only[SV,d1];exact⟨by rw[e2],by simpa using hbw,x1.mono λ_ _ h=>h.elim⟩
 have d1:decide (s<0)=false:=by simpa using hs0
 obtain⟨i,rfl⟩:∃i:Nat,s=i:=⟨s.toNat,by omega⟩;by_cases hge:L.length<=i
 .have d2:decide ((L.length:Int)<=(i:Int))=true:=by simp;omega
  have hnone:L[i]?=none:=a1X hge;have e1:cM L i=0:=by unfold cM;simp[hnone]
  have e2:∀x,oH L i x=0:=λx=>by unfold oH;simp[hnone]
  rw[e1];simp(disch:=omega)only[SV,d1,c1,d2];exact⟨by rw[e2],by simpa using hbw,x1.mono λ_ _ h=>h.elim⟩
 have d2:decide ((L.length:Int)<=(i:Int))=false:=by simp;omega
 have hlt:i<L.length:=by omega
 have l1:=ajB (off:=i*3) (ob.ext x1 (λh=>h)) (by rw[fR];omega);rw[aG4 hlt]at l1;obtain⟨n,hn,hn2,hb0',hb1⟩:=hL _ (a2P hlt);have hsome:L[i]?=some L[i]:=a1I hlt;have e1:cM L i=n:=by unfold cM;simp[hsome,hn]
 have e2:∀x:Nat,oH L i x=L[i].2.2+x:=λx=>by unfold oH;simp[hsome]
 generalize L[i]=e at*;obtain⟨e0,en,eb⟩:=e;simp only at hn hb0' hb1 l1 e2;subst hn;rw[e1,e2];simp(disch:=omega)only[SV,d1,c1,d2,l1];refine aqG λw3 o3 x3 s3=> ?_;refine alQ o3 rfl (by simp[one]) (by simp) λw4 o4 x4 s4=> ?_;simp only[aF,a1E,a1D]at o4;have x14:aE w1 w4 aP:=x3.new x4 (by omega);have od:=aH o4;have k1:=o4.cell (off:=1);have k2:=o4.cell (off:=2);have k1d:=od.cell (off:=1);have k2d:=od.cell (off:=2);simp only[a1A,a1B]at k1 k2 k1d k2d;simp(disch:=omega)only[SV,k1,k2,k1d,k2d];have z3:=x3.size;refine(afM ((hbw.ext x14 (λ_ _ _ h=>h) hlh).ext (aE.dr _ aP) (λ_ _ _ h=>h) hlh) hlh (by omega) h1 (by omega) hl).mono ?_;rintro r w5 ⟨rfl,b5,x5⟩;have x45:aE w4 w5 (λy=>y=hi):=(aE.dr _ _).seq x5;have k2e:=(o4.ext x45 (by omega)).cell (off:=2);simp only[a1A,a1B]at k2e;have hlt:=kY ((aG l).take left.toNat) n;have hp:2^n<=2^20:=a1K (by omega) hn2;generalize iI ((aG l).take left.toNat) n=x at*;simp(disch:=omega)only[SV,k2e];exact⟨b5,((x1.seq x14).mono λ_ _ h=>h.elim).seq x45⟩
theorem aNE{a:Nat}(ha:a<2^62)(hb:b<2^62):orI .i64 (a:Int) (b:Int)=((a|||b:Nat):Int):=by
 have h:=Nat.or_lt_two_pow ha hb;unfold orI;have e:IntKind.i64.bits=64:=rfl;rw[e,BitVec.ofInt_natCast,BitVec.ofInt_natCast,BitVec.toNat_or,BitVec.toNat_ofNat,BitVec.toNat_ofNat,a3B (by omega),a3B (by omega)]
 exact dM (by omega) (by have:((a|||b:Nat):Int)<((2^62:Nat):Int):=by exact_mod_cast h
                         omega)
def aGP(w':a7B)(lo hi p:Nat)(l:List UInt8)(r:a7C):Prop:=match ayX l with
 | .ok (n,rest)=>r= .int .i64 n/\Is w' lo hi p rest 0
 | .error e=>e≠0/\∃(n:Nat) (l':List UInt8),r= .int .i64 n/\Is w' lo hi p l' e
theorem apM(n:Nat)(hn:1<=n):gH [] 0 n=([],[],10):=by
 unfold gH;rw[if_neg (by decide),if_pos (by simp;omega)]
theorem aAw(c:UInt8)(r:List UInt8):gH (c::r) 0 1=([c],r,0):=by
 unfold gH;rw[if_neg (by decide),if_neg (by simp)]<;>rfl
theorem aSh(c d:UInt8)(r:List UInt8):gH (c::d::r) 0 2=([c,d],r,0):=by
 unfold gH;rw[if_neg (by decide),if_neg (by simp)]<;>rfl
theorem aGD(c:UInt8):gH [c] 0 2=([],[c],10):=by
 unfold gH;rw[if_neg (by decide),if_pos (by simp)]
theorem aKf(h:Is w lo hi p l 0)(hl:l.length<=1000000000):
 aL pg CH #[.pointer (some ⟨p,0,none⟩)] w (λr w'=>aGP w' lo hi p l r/\aE w w' (λy=>y=p)):=by
 refine YW ?_;obtain⟨RR,hRR⟩:∃RR:a7C->a7B->Prop,RR=λr w'=>aGP w' lo hi p l r/\aE w w' (λy=>y=p):=⟨_,rfl⟩;rw[<-hRR];unfold Ux LP;refine(jV (n:=1) h hl (by omega)).mono ?_;rintro r w1 ⟨rfl,h1,x1⟩;cases l with
 |nil=>
  rw[apM 1 (by omega)]at h1⊢;have d1:decide ((0:Int)<128)=true:=rfl;have e0:((cG ([]:List UInt8):Nat):Int)=0:=rfl;simp(disch:=omega)only[SV,e0,d1];rw[hRR];exact⟨⟨by decide,0,[],rfl,h1⟩,x1⟩
 |cons f r=>
  rw[aAw]at h1⊢;have hf:cG [f]=f.toNat:=by simp[cG]
  have hf8:f.toNat<256:=a2D f;rw[hf];have hN:ayX (f::r)=if f.toNat<128 then .ok (f.toNat,r)else if f.toNat<255 then aOB f.toNat r else aOC r:=rfl
  generalize f.toNat=x at*;have ew:IntKind.i64.wrap (x:Int)=x:=dM (by omega) (by omega);have hl':r.length<=1000000000:=by simp at hl;omega
  by_cases h128:x<128
  .have d1:decide ((x:Int)<128)=true:=by simp;omega
   simp(disch:=omega)only[SV,ew,d1];rw[hRR];refine⟨?_,x1⟩;unfold aGP;rw[hN,if_pos h128];exact⟨rfl,h1⟩
  have d1:decide ((x:Int)<128)=false:=by simp;omega
  by_cases h255:x<255
  .have d2:decide ((x:Int)<255)=true:=by simp;omega
   obtain⟨m,hm⟩:∃m,m=x-128:=⟨_,rfl⟩;have e1:(x:Int)-128=(m:Int):=by omega
   have e2:IntKind.i64.wrap ((m:Int)*2^(min (8:Int).toNat IntKind.i64.bits))=((m*256:Nat):Int):=by
    rw[show min (8:Int).toNat IntKind.i64.bits=8 from rfl,show(m:Int)*2^8=((m*256:Nat):Int)by omega];exact dM (by omega) (by omega)
   simp(disch:=omega)only[SV,ew,d1,d2,e1,e2];refine(jV (n:=1) h1 hl' (by omega)).mono ?_;rintro v w2 ⟨rfl,h2,x2⟩;have x12:=x1.seq x2;cases r with
   |nil=>
    rw[apM 1 (by omega)]at h2⊢;have e0:((cG ([]:List UInt8):Nat):Int)=((0:Nat):Int):=rfl;have e3:=aNE (a:=m*256) (b:=0) (by omega) (by omega);have e4:IntKind.i64.wrap ((0:Nat):Int)=((0:Nat):Int):=rfl;simp(disch:=omega)only[SV,e0,e4,e3];rw[hRR];refine⟨?_,x12⟩;unfold aGP;rw[hN,if_neg h128,if_pos h255];exact⟨by decide,m*256,[],by simp,h2⟩
   |cons g s=>
    rw[aAw]at h2⊢;have hg:cG [g]=g.toNat:=by simp[cG]
    have hg8:g.toNat<256:=a2D g;rw[hg];have hN2:aOB x (g::s)= .ok ((x-128)*256+g.toNat,s):=rfl;generalize g.toNat=y at*;have ew2:IntKind.i64.wrap (y:Int)=y:=dM (by omega) (by omega);have e3:=aNE (a:=m*256) (b:=y) (by omega) (by omega);have e4:(m*256)|||y=m*256+y:=by
     rw[Nat.or_comm,show m*256=m*2^8 from rfl,aHz (by omega)];omega
    rw[e4]at e3;simp(disch:=omega)only[SV,ew2,e3];rw[hRR];refine⟨?_,x12⟩;unfold aGP;rw[hN,if_neg h128,if_pos h255,hN2,<-hm];exact⟨rfl,h2⟩
  .have d2:decide ((x:Int)<255)=false:=by simp;omega
   simp(disch:=omega)only[SV,ew,d1,d2];refine(jV (n:=2) h1 hl' (by omega)).mono ?_;rintro v w2 ⟨rfl,h2,x2⟩;have x12:=x1.seq x2;rw[if_neg h128,if_neg h255]at hN;cases r with
   |nil=>
    rw[apM 2 (by omega)]at h2⊢;have e0:((cG ([]:List UInt8):Nat):Int)=((0:Nat):Int):=rfl;have e4:IntKind.i64.wrap ((0:Nat):Int)=((0:Nat):Int):=rfl;have e5:IntKind.i64.wrap (((0:Nat):Int)+32512)=((32512:Nat):Int):=rfl;simp(disch:=omega)only[SV,e0,e4,e5];rw[hRR];refine⟨?_,x12⟩;unfold aGP;rw[hN];exact⟨by decide,32512,[],rfl,h2⟩
   |cons g s=>
    cases s with
    |nil=>
     rw[aGD]at h2⊢;have e0:((cG ([]:List UInt8):Nat):Int)=((0:Nat):Int):=rfl;have e4:IntKind.i64.wrap ((0:Nat):Int)=((0:Nat):Int):=rfl;have e5:IntKind.i64.wrap (((0:Nat):Int)+32512)=((32512:Nat):Int):=rfl;simp(disch:=omega)only[SV,e0,e4,e5];rw[hRR];refine⟨?_,x12⟩;unfold aGP;rw[hN];exact⟨by decide,32512,[g],rfl,h2⟩
    |cons k s=>
     rw[aSh]at h2⊢;have hg:cG [g,k]=g.toNat+256*k.toNat:=by simp[cG]
     have hg8:g.toNat<256:=a2D g;have hk8:k.toNat<256:=a2D k;have hN3:aOC (g::k::s)= .ok (g.toNat+256*k.toNat+32512,s):=rfl;rw[hg];have hy:g.toNat+256*k.toNat<65536:=by omega
     generalize g.toNat+256*k.toNat=y at*;have ew2:IntKind.i64.wrap (y:Int)=y:=dM (by omega) (by omega);obtain⟨z,hz⟩:∃z,z=y+32512:=⟨_,rfl⟩;have e5:(y:Int)+32512=(z:Int):=by omega
     rw[<-hz]at hN3;simp(disch:=omega)only[SV,ew2,e5];rw[hRR];refine⟨?_,x12⟩;unfold aGP;rw[hN,hN3];exact⟨rfl,h2⟩
abbrev TT:=Nat×List T3
variable{T:TT}{o t:Nat->TT}
def mk2 (m k:Nat):Nat:=m/2^(6-2*k)%4
def upT(t:Nat->TT)(k:Nat)(x:TT):Nat->TT:=λi=>if i=k then x else t i
def Ml(m:Nat)(o:Nat->TT):Nat->(Nat->TT)->List UInt8->Except Int ((Nat->TT)×List UInt8)
 |0,t,l=> .ok (t,l)
 |j+1,t,l=>match cZ ((2-j:Nat):Int) ((mk2 m (2-j):Nat):Int) l (o (2-j))with
  | .error e=> .error e
  | .ok (x,n)=>Ml m o j (upT t (2-j) x) (l.drop n)
def runT(t:Nat->TT)(B:List Bool)(n:Nat)(k:Int):List Sq×Int:=
 sqR (t 0).2 (t 1).2 (t 2).2 B n (B6 B k (t 0).1:Nat) (B6 B (k-(t 0).1) (t 1).1:Nat) (B6 B (k-(t 0).1-(t 1).1) (t 2).1:Nat) (k-(t 0).1-(t 1).1-(t 2).1)
def I9 (t:Nat->TT)(n:Nat)(l:List UInt8):Except Int (List Sq×(Nat->TT)):=match YM l with
 |none=> .error 11
 |some k=>if(runT t (aG l) n k).2<0 then .error 11 else if 0<(runT t (aG l) n k).2 then .error 15 else .ok ((runT t (aG l) n k).1,t)
def aKz(o:Nat->TT)(n:Nat):List UInt8->Except Int (List Sq×(Nat->TT))
 |[]=> .error 10
 |m::l=>if m.toNat%4≠0 then .error 11 else match Ml m.toNat o 3 o l with
  | .error e=> .error e
  | .ok (t,r)=>I9 t n r
def sK(l:List UInt8)(o:Nat->TT):Except Int (List Sq×(Nat->TT)):=match ayX l with
 | .error e=> .error e
 | .ok (n,r)=>if n=0 then(if r=[]then .ok ([],o)else .error 15)else aKz o n r
def aCG(o:Nat->TT):Prop:=∀k,k<3->(o k).2≠[]->GK k (o k)
theorem aDW(m k:Nat):mk2 m k<4:=a4X _ (by omega)
theorem aGC{m:Nat}(ho:aCG o):∀{j:Nat} {t t':Nat->TT} {l l':List UInt8},j<=3->(∀k,k+j<3->GK k (t k))->Ml m o j t l= .ok (t',l')->(∀k,k<3->GK k (t' k))/\l'.length<=l.length
 |0,t,t',l,l',_,hg,h=>by cases h;exact⟨λk hk=>hg k hk,a1J _⟩
 |j+1,t,t',l,l',hj,hg,h=>by
  unfold Ml at h;split at h
  .cases h
  .rename_i x n hr;obtain⟨h1,h2⟩:=aMd (k:=2-j) (by omega) (λ_ hne=>ho (2-j) (by omega) hne) hr;obtain⟨h3,h4⟩:=aGC ho (by omega) (λk hk=>by
    unfold upT;split
    .rename_i he;rw[he];exact h1
    .exact hg k (by omega)) h
   exact⟨h3,by rw[a1L]at h4;omega⟩
theorem arR(h:GK k T)(hs:s<T.2.length):∃e c:Nat×Nat,T.2[s]?=some ((e.1:Int),(e.2:Int),(c.1:Int))/\e.1<oA k/\e.2<=20/\c.1<=100000/\c.1+2^e.2<=T.2.length:=by
 have hm:=a2P hs;obtain⟨n,h1,h2,h3,h4⟩:=h.low _ hm;obtain⟨c,h5,h6⟩:=h.sym _ hm;have h7:=h.nxt _ hm;have he:T.2[s]?=some T.2[s]:=a1I hs;generalize T.2[s]=e at*;obtain⟨a,b,d⟩:=e;simp only at h1 h2 h3 h4 h5 h6 h7;obtain⟨y,rfl⟩:∃y:Nat,d=y:=⟨d.toNat,by omega⟩;subst h1 h5;rw[a1H]at h7;refine⟨(c,n),(y,0),he,h6,h2,by simp only;omega, ?_⟩;simp only;generalize 2^n=z at*;omega
theorem anO(B:List Bool)(left:Int)(n:Nat):B6 B left n<2^n:=kY _ _
theorem aL3 {x y:Int}(h:L[s]?=some ((c:Int),x,y)):sAt L s=c:=by
 unfold sAt;rw[if_pos (by omega),a1H,h]<;>rfl
theorem VM(h:GK k T)(hs:s<T.2.length)(B:List Bool)(left:Int):∃s':Nat,(nR T.2 s B left).1=s'/\s'<T.2.length/\left-20<=(nR T.2 s B left).2/\(nR T.2 s B left).2<=left:=by
 obtain⟨e,c,h1,h2,h3,h4,h5⟩:=arR h hs;have hb:bAt T.2 s=e.2:=by unfold bAt;rw[if_pos (by omega),a1H,h1]<;>rfl
 have hr:=anO B left e.2;refine⟨c.1+B6 B left e.2, ?_,by omega, ?_, ?_⟩
 .unfold nR nAt;rw[hb,if_pos (by omega),a1H,h1];rfl
 .unfold nR;simp only;rw[hb];omega
 .unfold nR;simp only;rw[hb];omega
theorem CC(hk:k<3)(h:GK k T)(hs:s<T.2.length)(B:List Bool)(left:Int):(vR k T.2 s B left).1<4294967296/\left-31<=(vR k T.2 s B left).2/\(vR k T.2 s B left).2<=left:=by
 obtain⟨e,c,h1,h2,h3,h4,h5⟩:=arR h hs;have ha:=aGW hk e.1;have he:=aS6 hk e.1 h2;have hr:=anO B left ((jU k).getD e.1 0);unfold vR;rw[aL3 h1];simp only;refine⟨by omega,by omega,by omega⟩
theorem apK(hg:tY w)(hk:k<3)(ht:Tbl w base b T.1 T.2 v)(hG:GK k T)(hs:s<T.2.length)(h:UP w lo hi l left)(hlh:lo<=hi)(hhi:hi<w.heap.size)(h1:left<=8*l.length)(h2: -100000000<=left)(hl:l.length<=1000000):
 aL pg DU #[.int .i64 k,v,.int .i64 s,.pointer (some ⟨hi,0,none⟩)] w (λr w'=>r= .int .u32 ((vR k T.2 s (aG l) left).1:Nat)/\UP w' lo hi l (vR k T.2 s (aG l) left).2/\aE w w' (λy=>y=hi)):=by
 refine adZ ?_;obtain⟨RR,hRR⟩:∃RR:a7C->a7B->Prop,RR=λr w'=>r= .int .u32 ((vR k T.2 s (aG l) left).1:Nat)/\UP w' lo hi l (vR k T.2 s (aG l) left).2/\aE w w' (λy=>y=hi):=⟨_,rfl⟩;rw[<-hRR];have hlen9:T.2.length<=512:=by rw[hG.len];exact a1K (by omega) hG.lg
 obtain⟨rfl,hb0,ob⟩:=ht;unfold Yy PF;refine bY λw1 o1 x1 s1=> ?_;simp only[Value.cells]at o1;have c1:=o1.cell (off:=1);simp only[a1A,a1B]at c1;have hbw:=h.ext x1 (λ_ _ _ h=>h) hlh;have d1:decide ((s:Int)<0)=false:=by simp
 have d2:decide ((T.2.length:Int)<=(s:Int))=false:=by simp;omega
 obtain⟨e,c,e1,e2,e3,e4,e5⟩:=arR hG hs;have k0:=(ob.ext x1 (λh=>h)).cell (off:=s*3);rw[(Vz e1).1]at k0;have hc53:oA k<=53:=by rcases(show k=0∨k=1∨k=2 by omega)with rfl|rfl|rfl<;>decide
 have ew:IntKind.i64.wrap (e.1:Int)=(e.1:Int):=dM (by omega) (by omega);simp(disch:=omega)only[SV,c1,d1,d2,k0,ew];refine(aVk (hg.ext x1) hk e2).mono ?_;rintro r w2 ⟨rfl,x2⟩;have ha:=aGW hk e.1;have he:=aS6 hk e.1 e2;have hr:=anO (aG l) left ((jU k).getD e.1 0);have hv:vR k T.2 s (aG l) left=((vQ k).getD e.1 0+B6 (aG l) left ((jU k).getD e.1 0),left-(jU k).getD e.1 0):=by unfold vR;rw[aL3 e1]
 rw[hv]at hRR;simp(disch:=omega)only[SV];refine(afM (hbw.ext x2 (λ_ _ _ h=>h) hlh) hlh (by omega) h1 (by omega) hl).mono ?_;rintro r w3 ⟨rfl,b3,x3⟩;have hr':iI ((aG l).take left.toNat) ((jU k).getD e.1 0)=B6 (aG l) left ((jU k).getD e.1 0):=rfl;rw[hr']at*;generalize B6 (aG l) left ((jU k).getD e.1 0)=x at*;generalize(jU k).getD e.1 0=n at*;generalize(vQ k).getD e.1 0=y at*;generalize 2^n=z at*;have ew2:IntKind.u32.wrap (x:Int)=(x:Int):=w32 (by omega) (by omega);have ew3:IntKind.u32.wrap ((y:Int)+(x:Int))=((y+x:Nat):Int):=by rw[w32 (by omega) (by omega)];omega
 simp(disch:=omega)only[SV,ew2,ew3];rw[hRR];exact⟨rfl,b3,((x1.seq x2).mono λ_ _ h=>h.elim).seq x3⟩
theorem afT{cs':List a7C}(h:aT w b cs)(h':aT w b cs'):cs=cs':=by
 obtain⟨T,lo,hi,h1,_⟩:=h;obtain⟨T',lo',hi',h2,_⟩:=h';rw[h1]at h2;have h3:=a1Z h2;injection h3 with h4;simpa using congrArg Array.toList h4
theorem MK.own (h:MK w base T v)(o:aT w p cs)(h0:0<cs.length)(hc:∀u,cs[0]?≠some (.int .u8 u))(x:aE w w' (λy=>y=p)):MK w' base T v:=by
 rcases h with h|⟨b,h1,h2,h3⟩
 .exact .inl h
 .refine .inr ⟨b,h1,h2,h3.ext x ?_⟩;rintro rfl;have e:=afT h3 o;subst e;cases hT:T.2 with
  |nil=>rw[hT]at h0;simp[fe]at h0
  |cons a r=>
   have:=(Vz (k:= .u8) (L:=T.2) (i:=0) (e:=a) (by rw[hT]<;>rfl)).1;exact hc _ this
def tvL(T:TT)(a:Option Addr):a7C:= .agg #[.int .i64 T.1,.slice a T.2.length T.2.length]
def c6 (o:Nat->TT)(a:Nat->Option Addr):List a7C:=[.int .i64 (o 0).1,.slice (a 0) (o 0).2.length (o 0).2.length,.int .i64 (o 1).1,.slice (a 1) (o 1).2.length (o 1).2.length,.int .i64 (o 2).1,.slice (a 2) (o 2).2.length (o 2).2.length]
def P9 (w:a7B)(o:Nat->TT)(a:Nat->Option Addr):Prop:=∀k,k<3->MK w 0 (o k) (tvL (o k) (a k))
theorem P9.ext (h:P9 w o a)(x:aE w w' aP):P9 w' o a:=λk hk=>(h k hk).ext x λ_ _ _ h=>h
theorem P9.own (h:P9 w o a)(ho:aT w p cs)(h0:0<cs.length)(hc:∀u,cs[0]?≠some (.int .u8 u))(x:aE w w' (λy=>y=p)):P9 w' o a:=λk hk=>(h k hk).own ho h0 hc x
theorem P9.rdr (h:P9 w o a)(hr:Is w lo hi p l e)(x:aE w w' (λy=>y=p)):P9 w' o a:=by
 obtain⟨_,_,v,ho,hb,_⟩:=hr;obtain⟨va,vc,rfl,_⟩:=hb.len;exact h.own ho (by simp) (λu=>by simp) x
def upA(a:Nat->Option Addr)(k:Nat)(x:Option Addr):Nat->Option Addr:=λi=>if i=k then x else a i
theorem P9.up {x:Option Addr}(h:P9 w o a)(hx:MK w 0 T (tvL T x)):P9 w (upT o k T) (upA a k x):=λi hi=>by
 unfold upT upA;split
 .exact hx
 .exact h i hi
def QK(o:Nat->TT):List UInt8->Except Int ((Nat->TT)×List UInt8)
 |[]=> .error 10
 |m::l=>if m.toNat%4≠0 then .error 11 else Ml m.toNat o 3 o l
def BF:a7C:= .agg #[(.int .i64 0),(.slice none 0 0),(.int .i64 0),(.slice none 0 0),(.int .i64 0),(.slice none 0 0)]
def aMC(w:a7B)(lo p:Nat)(x:Except Int ((Nat->TT)×List UInt8))(r:a7C):Prop:=match x with
 | .error e=>r= .tuple #[BF,.int .i64 e]/\e≠0
 | .ok (t,l)=>∃a,r= .tuple #[.agg (c6 t a).toArray,.int .i64 0]/\P9 w t a/\Is w lo w.heap.size p l 0
theorem UE{a:Int}(h:cZ a mode l T= .error e):e≠0:=by
 unfold cZ at h;split at h
 .cases h;decide
 split at h
 .cases h
 split at h
 .split at h
  .cases h;decide
  .split at h
   .cases h;decide
   .cases h
 split at h
 .split at h
  .cases h;decide
  .cases h
 .split at h
  .rename_i e' he;cases h;exact Ms he
  .cases h
theorem aF5 (h:QK o l= .error e):e≠0:=by
 have ht:∀{m j:Nat} {t:Nat->TT} {l:List UInt8},Ml m o j t l= .error e->e≠0:=by
  intro m j
  induction j with
  |zero=>intro t l h;cases h
  |succ j ih=>
   intro t l h;unfold Ml at h;split at h
   .rename_i e' he;cases h;exact UE he
   .exact ih h
 cases l with
 |nil=>cases h;decide
 |cons m l=>
  have hh:QK o (m::l)=if m.toNat%4≠0 then .error 11 else Ml m.toNat o 3 o l:=rfl
  rw[hh]at h;by_cases hm:m.toNat%4≠0
  .rw [if_pos hm]at h;cases h;decide
  .rw [if_neg hm]at h;exact ht h
theorem aID(h:x<256):yK .i64 (x:Int) 3=((x%4:Nat):Int):=by
 have:∀k:Fin 256,yK .i64 (k.val:Int) 3=((k.val%4:Nat):Int):=by decide+kernel
 exact this ⟨x,h⟩
theorem aNf(o:Nat->TT)(a:Nat->Option Addr)(h:k<3):((c6 o a).drop (k*2)).take 2=[.int .i64 (o k).1,.slice (a k) (o k).2.length (o k).2.length]:=by
 rcases(show k=0∨k=1∨k=2 by omega)with rfl|rfl|rfl<;>rfl
theorem aQv(o:Nat->TT)(a:Nat->Option Addr)(h:k<3)(T:TT)(x:Option Addr):aF (c6 o a) (k*2) [.int .i64 T.1,.slice x T.2.length T.2.length]=c6 (upT o k T) (upA a k x):=by
 rcases(show k=0∨k=1∨k=2 by omega)with rfl|rfl|rfl<;>rfl
theorem aTu(hx:x<256)(h:k<3):yK .i64 ((x:Int).fdiv (2^min (6-2*k) IntKind.i64.bits)) 3=((mk2 x k:Nat):Int):=by
 have h64:IntKind.i64.bits=64:=rfl;have hf:(x:Int).fdiv (2^min (6-2*k) IntKind.i64.bits)=((x/2^(6-2*k):Nat):Int):=by
  rw[h64,a2T (by omega),show(2:Int)^(6-2*k)=((2^(6-2*k):Nat):Int)by simp,a3A _ (Int.natCast_nonneg _)];rfl
 rw[hf,aID (Nat.lt_of_le_of_lt (a3Q _ _) hx)];rfl
theorem Wq{a:Int}{T':TT}(h:cZ a mode l T= .ok (T',n)):n<=l.length:=by
 unfold cZ at h;split at h
 .cases h
 split at h
 .cases h;exact a4G _
 split at h
 .split at h
  .cases h
  .split at h
   .cases h
   .cases h;simp
 split at h
 .split at h
  .cases h
  .cases h;exact a4G _
 .split at h
  .cases h
  .rename_i lg ps u hr;cases h;have h4:=VU hr;rw[cJ]at h4;omega
theorem aKw{x0 x1 x2:Int}{a0 a1 a2:Option Addr}{n0 n1 n2:Nat}{c:List a7C}{e:a7C}(o:aT w p c)(hc:c.length=6){RR:a7C->a7B->Prop}
 (hR:∀w',aE w w' (λy=>y=p)->RR (.tuple #[.agg #[.int .i64 x0,.slice a0 n0 n0,.int .i64 x1,.slice a1 n1 n1,.int .i64 x2,.slice a2 n2 n2],e]) w'):
 bF pg (dL 81 (.pointer (some ⟨p,0,none⟩)) (.agg #[.int .i64 x0,.slice a0 n0 n0,.int .i64 x1,.slice a1 n1 n1,.int .i64 x2,.slice a2 n2 n2])) w λ_u w=>LdR pg 81 (.pointer (some ⟨p,0,none⟩)) w λr0=>RR (.tuple #[r0,e]) w:=by
 match c,hc with
 |[c0,c1,c2,c3,c4,c5],_=>
  refine dT o rfl (by simp[one]) (by simp) λw6 o6 x6 s6=> ?_;refine JB o6 (by simp[aF]) ?_;simp only[aF,a1E,a1D,a1F,a1C,a1G];exact hR _ x6
theorem aWk(hg:tY w0)(x0:aE w0 w aP)(hp:w0.heap.size<=p)(h:Is w lo hi p l 0)(hhi:hi<=w.heap.size)(hl:l.length<=1000000)(hT:P9 w o a)(hO:∀k,k<3->(o k).2.length<=1000000):
 aL pg Ht #[.pointer (some ⟨p,0,none⟩),.agg (c6 o a).toArray] w (λr w'=>aMC w' lo p (QK o l) r/\aE w w' (λy=>y=p)):=by
 refine agU ?_;obtain⟨RR,hRR⟩:∃RR:a7C->a7B->Prop,RR=λr w'=>aMC w' lo p (QK o l) r/\aE w w' (λy=>y=p):=⟨_,rfl⟩;rw[<-hRR];have hpl:=h.lt;have err:∀{e:Int} {w':a7B},QK o l= .error e->aE w w' (λy=>y=p)->RR (.tuple #[BF,.int .i64 e]) w':=λh x=>by
  rw[hRR];unfold aMC;rw[h];exact⟨⟨rfl,aF5 h⟩,x⟩
 unfold adX PE PD;refine bY λw1 o1 x1 s1=> ?_;have o1:aT w1 w.heap.size (c6 o a):=o1;refine fI λw2 o2 x2 s2=> ?_;have x12:=x1.seq x2;have o1:=o1.ext x2 (λh=>h);have h2:=h.ext x12 (λ_ _ _ h=>h);have hT2:=hT.ext x12;refine(jV (n:=1) h2 (by omega) (by omega)).mono ?_;rintro r w3 ⟨rfl,h3,x3⟩;have hT3:=hT2.rdr h2 x3;have o1:=o1.ext x3 (by omega);have o2:=o2.ext x3 (by omega);have x13:aE w w3 (λy=>y=p):=(x12.mono λ_ _ h=>h.elim).seq x3;cases l with
 |nil=>
  rw[apM 1 (by omega)]at h3⊢;have e0:((cG ([]:List UInt8):Nat):Int)=0:=rfl;have e1:IntKind.i64.wrap (0:Int)=0:=rfl;have n1:((10:Int) !=0)=true:=rfl;simp(disch:=omega)only[SV,e0,e1];refine(qD h3).mono ?_;rintro r w4 ⟨rfl,hw⟩;rw[hw];clear hw w4;simp(disch:=omega)only[SV,n1];refine(qD h3).mono ?_;rintro r w4 ⟨rfl,hw⟩;rw[hw];clear hw w4;exact aKw o2 rfl λw' x=>err rfl (x13.trans x λb hb h=>by omega)
 |cons m l=>
  rw[aAw]at h3⊢;have h3:Is w3 lo hi p l 0:=h3;have hm8:m.toNat<256:=a2D m;have hm1:cG [m]=m.toNat:=by simp[cG]
  have ew:IntKind.i64.wrap (m.toNat:Int)=(m.toNat:Int):=dM (by omega) (by omega);have ea:=aID hm8;have n0:((0:Int) !=0)=false:=rfl;have hH:QK o (m::l)=if m.toNat%4≠0 then .error 11 else Ml m.toNat o 3 o l:=rfl
  rw[hm1];have hl':l.length<=1000000:=by simp at hl;omega
  generalize m.toNat=x at*;simp(disch:=omega)only[SV,ew];refine(qD h3).mono ?_;rintro r w4 ⟨rfl,hw⟩;rw[hw];clear hw w4;by_cases h4:x%4≠0
  .have n1:(((x%4:Nat):Int) !=0)=true:=by simp;omega
   rw[if_pos h4]at hH;simp(disch:=omega)only[SV,n0,ea,n1];exact aKw o2 rfl λw' x=>err hH (x13.trans x λb hb h=>by omega)
  rw[if_neg h4]at hH;have n1:(((x%4:Nat):Int) !=0)=false:=by simp;omega
  simp(disch:=omega)only[SV,n0,ea,n1];refine(EJ h3).mono ?_;rintro r w4 ⟨rfl,hw⟩;rw[hw];clear hw w4;refine(Mn h3 (by omega) (by omega)).mono ?_;rintro bv w4 ⟨hb4,hat4,h4r,x4⟩;have htk:gH l 0 l.length=(l,[],0):=by unfold gH;rw[if_neg (by decide),if_neg (by omega),a4Q,a6H]
  rw[htk]at hb4 h4r;simp only at hb4 h4r;have o1:=o1.ext x4 (by omega);have o2:=o2.ext x4 (by omega);have hT4:=hT3.rdr h3 x4;have x14:=x13.seq x4;have l1:=fU (off:=0) o1 (by simp[c6]);simp only[c6,a1F,a1C,a1G]at l1;simp(disch:=omega)only[SV,l1];refine fI λw5 o5 x5 s5=> ?_;refine dT o5 rfl (by simp[one]) (by simp) λw6 o6 x6 s6=> ?_;have o6:aT w6 w4.heap.size (c6 o a):=o6;have x46:aE w4 w6 aP:=x5.new x6 (a1J _);have o1:=o1.ext x46 (λh=>h);have o2:=o2.ext x46 (λh=>h);have hT6:=hT4.ext x46;have h6:=h4r.ext x46 (λ_ _ _ h=>h);have hb6:=hb4.ext x46 (aR _);have x16:=x14.more x46;have z3:=x3.size;have z4:=x4.size;have z6:=x46.size;unfold C4 C3 PC uZ;obtain⟨p8,hp8⟩:∃p8,p8=w4.heap.size:=⟨_,rfl⟩;obtain⟨p3,hp3⟩:∃p3,p3=w.heap.size:=⟨_,rfl⟩;obtain⟨p4,hp4⟩:∃p4,p4=w1.heap.size:=⟨_,rfl⟩;rw[<-hp8]at o6⊢;rw[<-hp3]at o1⊢;rw[<-hp4]at o2⊢;refine aN.rule (λn (t:a7C×a7C) w'=>∃(j:Nat) (b:a7C) (l':List UInt8) (t':Nat->TT) (a':Nat->Option Addr),n=j/\j<=3/\t=(b,.int .i64 (3-j:Nat))/\Bs w' b l'/\AtS b (λb=>lo<=b/\b<hi/\b≠p)/\l'.length<=l.length/\aT w' p8 (c6 t' a')/\P9 w' t' a'/\Ml x o 3 o l=Ml x o j t' l'/\aE w6 w' (λy=>y=p8)) 3
   ⟨3,bv,l,o,a,rfl,a1J _,rfl,hb6,hat4,a1J _,o6,hT6,rfl,aE.refl _ _⟩ ?_
  rintro j t w7 ⟨n,bb,l',t',a',rfl,hj,rfl,hb7,hat7,hl7,o8,hT7,hE,x7⟩;unfold Q7 Q6 Gl Gk Q5;have o17:=o1.ext x7 (by omega);have o27:=o2.ext x7 (by omega);have x07:aE w0 w7 aP:=by
   have:aE w w7 (λy=>y=p∨y=p8):=(x16.mono λ_ _ h=> .inl h).seq (x7.mono λ_ _ h=> .inr h);have z0:=x0.size;exact x0.trans this λb hb h=>by omega
  have hg7:=hg.ext x07;have hTo:P9 w7 o a:=λk hk=>(hT6 k hk).own o6 (by simp[c6]) (λu=>by simp[c6]) x7;obtain⟨ba,bc,rfl,hbc⟩:=hb7.len;rw[a1M]at hb7 hat7 hbc⊢;have err7:∀{e:Int} {w':a7B},Ml x o j t' l'= .error e->aE w7 w' (λy=>y=p4)->RR (.tuple #[BF,.int .i64 e]) w':=λh x=>by
   refine err (by rw[hH,hE,h]) ?_;have x6':aE w6 w7 (λy=>y=p∨y=p3∨y=p4∨y=p8):=x7.mono λ_ _ h=> .inr (.inr (.inr h));exact(((x16.mono λ_ _ h=> .inl h).seq x6').seq (x.mono λ_ _ h=> .inr (.inr (.inl h)))).mono λb hb h=>by omega
  rcases j with _|n
  .have d1:decide (((3-0:Nat):Int)<3)=false:=rfl;simp(disch:=omega)only[SV,d1];unfold Gj;refine(rN hb7 (by omega)).mono ?_;rintro r w8 ⟨q,rfl,h8,x8⟩;have o8':=o8.ext x8 (λh=>h);have hT8:=hT7.ext x8;have hq1:=h8.1;have hq2:=h8.2.1;have hq8:=h8;obtain⟨_,_,qv,oq,hbq,hatq⟩:=h8;obtain⟨qa,qc,rfl,hqc⟩:=hbq.len;rw[a1M]at hbq oq hqc hatq;have lq:=asH (off:=0) oq (by simp);simp only[a1F,a1C,a1G]at lq;simp(disch:=omega)only[SV,lq];have hp7:Is w7 lo hi p [] 0:=h6.ext x7 (λb h1 h2=>by omega);have hp8:=hp7.ext x8 (λ_ _ _ h=>h);obtain⟨hpl1,hpl2,pv,op,_,_⟩:=hp8;refine awO op rfl (by simp[one]) (by simp) λw9 o9 x9 s9=> ?_;simp only[aF,a1E,a1D]at o9;have z8:=x8.size;have hT9:=hT8.own op (by simp) (λu=>by
    obtain⟨pa,pn,pc,rfl,_⟩:∃pa pn pc,pv= .slice pa pn pc/\True:=by
     rename_i hbp _;obtain⟨pa,pc,rfl,_⟩:=hbp.len;exact⟨_,_,_,rfl,trivial⟩
    simp) x9
   have z7:=x7.size;have l8:=fU (off:=0) (o8'.ext x9 (by omega)) (by simp[c6]);simp only[c6,a1F,a1C,a1G]at l8;simp(disch:=omega)only[SV,l8];refine aKw ((o27.ext x8 (λh=>h)).ext x9 (by omega)) rfl λw' x=> ?_;rw[hRR];unfold aMC;rw[hH,hE];have hz':=x.size;have hT':=λ(w9 w':a7B) (h:P9 w9 t' a') (o2:aT w9 p4 [Value.int IntKind.i64 0,Value.slice none 0 0,Value.int IntKind.i64 0,Value.slice none 0 0,Value.int IntKind.i64 0,Value.slice none 0 0]) (x:aE w9 w' (λy=>y=p4))=>h.own o2 (by simp) (λu=>by simp) x;refine⟨⟨a',rfl,hT' _ _ hT9 ((o27.ext x8 (λh=>h)).ext x9 (by omega)) x, ?_⟩, ?_⟩
   .have hbq':=(hbq.ext x9 (hatq _ λb hb=>by omega)).ext x (hatq _ λb hb=>by omega);exact⟨hpl1,by omega,_,o9.ext x (by omega),hbq',hatq.mono λb hb=>by omega⟩
   .have y1:aE w w8 (λy=>y=p∨y=p4∨y=p8):=((x16.mono λ_ _ h=> .inl h).seq (x7.mono λ_ _ h=> .inr (.inr h))).seq (x8.mono λ_ _ h=>h.elim);exact((y1.seq (x9.mono λ_ _ h=> .inl h)).seq (x.mono λ_ _ h=> .inr (.inl h))).mono λb hb h=>by omega
  .obtain ⟨k,hk⟩:∃k,k=2-n:=⟨_,rfl⟩;have hk3:k<3:=by omega
   have ek:((3-(n+1):Nat):Int)=(k:Int):=by omega
   have d1:decide ((k:Int)<3)=true:=by simp;omega
   have e2:(2:Int)*(k:Int)=((2*k:Nat):Int):=by omega
   have e6:(6:Int)-((2*k:Nat):Int)=((6-2*k:Nat):Int):=by omega
   have em:=aTu (x:=x) (k:=k) hm8 hk3;have hS:Ml x o (n+1) t' l'=match cZ (k:Int) ((mk2 x k:Nat):Int) l' (o k)with
    | .error e=> .error e
    | .ok (y,u)=>Ml x o n (upT t' k y) (l'.drop u):=by rw[hk]<;>rfl
   have hm4:=aDW x k;have l2:=dX (off:=k*2) (aH o17) (by simp[c6];omega);rw[aNf _ _ hk3]at l2;rw[ek];simp(disch:=omega)only[SV,d1,e2,e6,em,l2,a1H];have hl8:l'.length<=1000000:=by omega
   have hgd:tY (dr w7):=hg7.ext (aE.dr _ aP);have hbd:Bs (dr w7) (.slice ba l'.length bc) l':=hb7.ext (aE.dr _ aP) (aR _);have hTd:P9 (dr w7) o a:=hTo.ext (aE.dr _ aP);have z7:=x7.size;refine Td ?_ ?_
   .refine (aNU hgd hbd (λ_=>hl8) (hTd k hk3) (a4G _) (by omega) (hO k hk3)).mono ?_;rintro r w8 ⟨hR,x8⟩;have x78:aE w7 w8 aP:=(aE.dr _ _).seq x8;have z8:=x78.size;cases hE':cZ (k:Int) ((mk2 x k:Nat):Int) l' (o k)with
    |error e=>
     rw[hE']at hR hS;have ne:=UE hE';have n1:(e !=0)=true:=by simpa using ne
     unfold aN5 at hR;subst hR;simp(disch:=omega)only[SV];refine gK λw9 o9 x9 s9=> ?_;refine cY o9 rfl (by simp[one]) (by simp) λw10 o10 x10 s10=> ?_;unfold nJ;simp(disch:=omega)only[SV,n1];have x710:aE w7 w10 aP:=x78.seq (x9.new x10 (a1J _));exact aKw (o27.ext x710 (λh=>h)) rfl λw' x=>err7 hS ((x710.mono λ_ _ h=>h.elim).seq x)
    |ok yu=>
     obtain⟨T,u⟩:=yu;rw[hE']at hR hS;have hu:=Wq hE';unfold aN5 at hR;obtain⟨t,rfl,hV⟩:=hR;obtain⟨ta,rfl⟩:=hV.form;simp(disch:=omega)only[SV];refine gK λw9 o9 x9 s9=> ?_;refine cY o9 rfl (by simp[one]) (by simp) λw10 o10 x10 s10=> ?_;have o10:aT w10 w8.heap.size [.int .i64 T.1,.slice ta T.2.length T.2.length]:=o10;have x810:aE w8 w10 aP:=x9.new x10 (a1J _);have x710:=x78.seq x810;have l10:=dX (off:=0) (aH o10) (by simp);simp only[a1F,a1C,a1G]at l10;unfold nJ;simp(disch:=omega)only[SV,n0,l10,a1H];have x710:aE w7 (dr w10) aP:=x710.seq (aE.dr _ _);refine cY (o8.ext x710 (λh=>h)) rfl (by simp[one]) (by simp[c6];omega) λw11 o11 x11 s11=> ?_;have x8N:aE w8 (dr w10) aP:=x810.seq (aE.dr _ _);have o11:aT w11 p8 (c6 (upT t' k T) (upA a' k ta)):=by rw[<-aQv _ _ hk3];exact o11
     have hbn:Bs w7 (.slice (dI ba bc u 1) (l'.length-u) (bc-u)) (l'.drop u):=by
      have:=hb7.drop' (k:=u) (by omega)
      rwa [<-a3M]at this
     have han:=hat7.sub (mx:=bc) (k:=u) (sz:=1) (m:=l'.length-u) (c':=bc-u) (by omega);have hV11:MK w11 0 T (tvL T ta):=(hV.ext x8N (λ_ _ _ h=>h)).own (o8.ext x710 (λh=>h)) (by simp[c6]) (λu=>by simp[c6]) x11;have hT11:P9 w11 t' a':=(hT7.ext x710).own (o8.ext x710 (λh=>h)) (by simp[c6]) (λu=>by simp[c6]) x11;have hbn11:=(hbn.ext x710 (aR _)).ext x11 (han _ λb hb=>by omega);have hld:(l'.drop u).length<=l.length:=by rw[a1L];omega
     have e3:((k:Int)+1)=((3-n:Nat):Int):=by omega
     unfold xZ;simp(disch:=omega)only[SV,e3];exact⟨n,by omega,_,_,_,_,_,rfl,by omega,rfl,hbn11,han,hld,o11,hT11.up hV11,by rw[hE,hS],x7.seq ((x710.mono λ_ _ h=>h.elim).seq x11)⟩
   .refine gK λw9 o9 x9 s9=> ?_;have l9:=dX (off:=k*2) (o17.ext ((aE.dr _ aP).seq x9) (λh=>h)) (by simp[c6];omega);rw[aNf _ _ hk3]at l9;simp(disch:=omega)only[SV,d1,e2,e6,em,l2,l9,a1H];refine(aNU (hgd.ext x9) (hbd.ext x9 (aR _)) (λ_=>hl8) (hTd.ext x9 k hk3) (a4G _) (by omega) (hO k hk3)).mono ?_;rintro r w8 ⟨hR,x8⟩;have x78:aE w7 w8 aP:=((aE.dr _ _).seq x9).seq x8;have z8:=x78.size;have z88:=x8.size;have hz7:(dr w7).heap.size=w7.heap.size:=rfl;have o9:=o9.ext x8 (λh=>h);cases hE':cZ (k:Int) ((mk2 x k:Nat):Int) l' (o k)with
    |error e=>
     rw[hE']at hR hS;have ne:=UE hE';have n1:(e !=0)=true:=by simpa using ne
     unfold aN5 at hR;subst hR;simp(disch:=omega)only[SV];refine cY o9 rfl (by simp[one]) (by simp) λw10 o10 x10 s10=> ?_;unfold nJ;simp(disch:=omega)only[SV,n1];have x710:aE w7 w10 aP:=x78.new x10 (by omega);exact aKw (o27.ext x710 (λh=>h)) rfl λw' x=>err7 hS ((x710.mono λ_ _ h=>h.elim).seq x)
    |ok yu=>
     obtain⟨T,u⟩:=yu;rw[hE']at hR hS;have hu:=Wq hE';unfold aN5 at hR;obtain⟨t,rfl,hV⟩:=hR;obtain⟨ta,rfl⟩:=hV.form;simp(disch:=omega)only[SV];have hV8:=λ(w':a7B) (x:aE w8 w' (λy=>y=(dr w7).heap.size))=>hV.own (base:=0) (p:=(dr w7).heap.size) o9 (by simp) (λu=>by simp) x;refine cY o9 rfl (by simp[one]) (by simp) λw10 o10 x10 s10=> ?_;have hV10:=hV8 w10 x10;have o10:aT w10 (dr w7).heap.size [.int .i64 T.1,.slice ta T.2.length T.2.length]:=o10;have x710:aE w7 w10 aP:=x78.new x10 (by omega);have l10:=dX (off:=0) (aH o10) (by simp);simp only[a1F,a1C,a1G]at l10;unfold nJ;simp(disch:=omega)only[SV,n0,l10,a1H];have x710:aE w7 (dr w10) aP:=x710.seq (aE.dr _ _);refine cY (o8.ext x710 (λh=>h)) rfl (by simp[one]) (by simp[c6];omega) λw11 o11 x11 s11=> ?_;have o11:aT w11 p8 (c6 (upT t' k T) (upA a' k ta)):=by rw[<-aQv _ _ hk3];exact o11
     have hbn:Bs w7 (.slice (dI ba bc u 1) (l'.length-u) (bc-u)) (l'.drop u):=by
      have:=hb7.drop' (k:=u) (by omega)
      rwa [<-a3M]at this
     have han:=hat7.sub (mx:=bc) (k:=u) (sz:=1) (m:=l'.length-u) (c':=bc-u) (by omega);have hV11:MK w11 0 T (tvL T ta):=(hV10.ext (aE.dr w10 aP) (λ_ _ _ h=>h)).own (o8.ext x710 (λh=>h)) (by simp[c6]) (λu=>by simp[c6]) x11;have hT11:P9 w11 t' a':=(hT7.ext x710).own (o8.ext x710 (λh=>h)) (by simp[c6]) (λu=>by simp[c6]) x11;have hbn11:=(hbn.ext x710 (aR _)).ext x11 (han _ λb hb=>by omega);have hld:(l'.drop u).length<=l.length:=by rw[a1L];omega
     have e3:((k:Int)+1)=((3-n:Nat):Int):=by omega
     unfold xZ;simp(disch:=omega)only[SV,e3];exact⟨n,by omega,_,_,_,_,_,rfl,by omega,rfl,hbn11,han,hld,o11,hT11.up hV11,by rw[hE,hS],x7.seq ((x710.mono λ_ _ h=>h.elim).seq x11)⟩
def upS(st:Nat->Nat)(k x:Nat):Nat->Nat:=λi=>if i=k then x else st i
def VR(r:Nat):Nat:=if r=0 then 0 else if r=1 then 2 else 1
theorem aCz(r:Nat):VR r<3:=by unfold VR;split<;>(try split)<;>omega
def nxs(t:Nat->TT)(B:List Bool):Nat->(Nat->Nat)->Int->(Nat->Nat)×Int
 |0,st,left=>(st,left)
 |j+1,st,left=>nxs t B j (upS st (VR (2-j)) (nR (t (VR (2-j))).2 (st (VR (2-j)):Nat) B left).1.toNat) (nR (t (VR (2-j))).2 (st (VR (2-j)):Nat) B left).2
def sts(t:Nat->TT)(B:List Bool):Nat->(Nat->Nat)->Int->(Nat->Nat)×Int
 |0,st,left=>(st,left)
 |j+1,st,left=>sts t B j (upS st (2-j) (B6 B left (t (2-j)).1)) (left-(t (2-j)).1)
def sqF(t:Nat->TT)(B:List Bool)(n:Nat)(st:Nat->Nat)(left:Int):List Sq×Int:=sqR (t 0).2 (t 1).2 (t 2).2 B n (st 0:Nat) (st 1:Nat) (st 2:Nat) left
def v3 (t:Nat->TT)(B:List Bool)(st:Nat->Nat)(left:Int):Sq×Int:=
 let o:=vR 1 (t 1).2 (st 1:Nat) B left
 let m:=vR 2 (t 2).2 (st 2:Nat) B o.2
 let l:=vR 0 (t 0).2 (st 0:Nat) B m.2
 (⟨l.1,m.1,o.1⟩,l.2)
theorem aEQ(t:Nat->TT)(B:List Bool)(n:Nat)(k:Int):runT t B n k=sqF t B n (sts t B 3 (λ_=>0) k).1 (sts t B 3 (λ_=>0) k).2:=rfl
theorem aCC(t:Nat->TT)(B:List Bool)(st:Nat->Nat)(left:Int):sqF t B 1 st left=([(v3 t B st left).1],(v3 t B st left).2):=rfl
def Qd(t:Nat->TT)(st:Nat->Nat):Prop:=∀k,k<3->GK k (t k)/\st k<(t k).2.length
theorem awL(h:Qd t st)(B:List Bool)(m:Nat)(left:Int):
 sqF t B (m+2) st left=((v3 t B st left).1::(sqF t B (m+1) (nxs t B 3 st (v3 t B st left).2).1 (nxs t B 3 st (v3 t B st left).2).2).1,(sqF t B (m+1) (nxs t B 3 st (v3 t B st left).2).1 (nxs t B 3 st (v3 t B st left).2).2).2):=by
 have hn:∀k,k<3->∀x:Int,(((nR (t k).2 (st k:Nat) B x).1.toNat:Nat):Int)=(nR (t k).2 (st k:Nat) B x).1:=λk hk x=>by
  obtain⟨s',h1,_⟩:=VM (h k hk).1 (h k hk).2 B x;rw[h1]<;>rfl
 unfold sqF;rw[sqR,if_neg (by omega)];show((v3 t B st left).1::_,_)=_;have h0:=hn 0 (by omega) (v3 t B st left).2;have h2:=hn 2 (by omega) (nR (t 0).2 (st 0:Nat) B (v3 t B st left).2).2;have h1:=hn 1 (by omega) (nR (t 2).2 (st 2:Nat) B (nR (t 0).2 (st 0:Nat) B (v3 t B st left).2).2).2;have e0:(nxs t B 3 st (v3 t B st left).2).1 0=(nR (t 0).2 (st 0:Nat) B (v3 t B st left).2).1.toNat:=rfl;have e2:(nxs t B 3 st (v3 t B st left).2).1 2=(nR (t 2).2 (st 2:Nat) B (nR (t 0).2 (st 0:Nat) B (v3 t B st left).2).2).1.toNat:=rfl;have e1:(nxs t B 3 st (v3 t B st left).2).1 1=(nR (t 1).2 (st 1:Nat) B (nR (t 2).2 (st 2:Nat) B (nR (t 0).2 (st 0:Nat) B (v3 t B st left).2).2).2).1.toNat:=rfl;have e3:(nxs t B 3 st (v3 t B st left).2).2=(nR (t 1).2 (st 1:Nat) B (nR (t 2).2 (st 2:Nat) B (nR (t 0).2 (st 0:Nat) B (v3 t B st left).2).2).2).2:=rfl;rw[e0,e1,e2,e3,h0,h1,h2];rfl
theorem aaV{B:List Bool}:∀{j:Nat} {st:Nat->Nat} {left:Int},Qd t st->Qd t (nxs t B j st left).1/\left-20*j<=(nxs t B j st left).2/\(nxs t B j st left).2<=left
 |0,st,left,h=>⟨h,by unfold nxs;simp,by unfold nxs;simp⟩
 |j+1,st,left,h=>by
  obtain⟨s',h1,h2,h3,h4⟩:=VM (h _ (aCz (2-j))).1 (h _ (aCz (2-j))).2 B left;rw[nxs];obtain⟨g1,g2,g3⟩:=aaV (B:=B) (j:=j) (st:=upS st (VR (2-j)) (nR (t (VR (2-j))).2 (st (VR (2-j)):Nat) B left).1.toNat) (left:=(nR (t (VR (2-j))).2 (st (VR (2-j)):Nat) B left).2) (λk hk=>by
   unfold upS;split
   .rename_i he;rw[he,h1];exact⟨(h _ (aCz _)).1,h2⟩
   .exact h k hk)
  exact⟨g1,by omega,by omega⟩
theorem aNW(h:Qd t st)(B:List Bool)(left:Int):left-93<=(v3 t B st left).2/\(v3 t B st left).2<=left:=by
 obtain⟨_,a1,a2⟩:=CC (by omega) (h 1 (by omega)).1 (h 1 (by omega)).2 B left;obtain⟨_,b1,b2⟩:=CC (by omega) (h 2 (by omega)).1 (h 2 (by omega)).2 B (vR 1 (t 1).2 (st 1:Nat) B left).2;obtain⟨_,c1,c2⟩:=CC (by omega) (h 0 (by omega)).1 (h 0 (by omega)).2 B (vR 2 (t 2).2 (st 2:Nat) B (vR 1 (t 1).2 (st 1:Nat) B left).2).2;have e:(v3 t B st left).2=(vR 0 (t 0).2 (st 0:Nat) B (vR 2 (t 2).2 (st 2:Nat) B (vR 1 (t 1).2 (st 1:Nat) B left).2).2).2:=rfl;rw[e];omega
theorem aES{B:List Bool}:∀{n:Nat} {st:Nat->Nat} {left:Int},Qd t st->left-160*n<=(sqF t B n st left).2/\(sqF t B n st left).2<=left/\(sqF t B n st left).1.length=n
 |0,st,left,h=>⟨by unfold sqF sqR;simp,by unfold sqF sqR;simp,rfl⟩
 |1,st,left,h=>by
  rw[aCC];have:=aNW h B left;exact⟨by simp only;omega,by simp only;omega,rfl⟩
 |n+2,st,left,h=>by
  rw[awL h];have h1:=aNW h B left;obtain⟨g1,g2,g3⟩:=aaV (B:=B) (j:=3) (left:=(v3 t B st left).2) h;obtain⟨k1,k2,k3⟩:=aES (B:=B) (n:=n+1) (left:=(nxs t B 3 st (v3 t B st left).2).2) g1;exact⟨by simp only;omega,by simp only;omega,by simp only[a1U];omega⟩
theorem MK.tbl (h:MK w base T v)(h0:0<T.2.length):∃b,Tbl w base b T.1 T.2 v:=by
 rcases h with⟨e,_⟩|h
 .rw [e]at h0;simp at h0
 .exact h
theorem aWj(h:Tbl w base b log L v)(hL:0<L.length)(o:aT w p cs)(hc:∀u,cs[0]?≠some (.int .u8 u)):b≠p:=by
 rintro rfl;have e:=afT h.2.2 o;subst e;cases hT:L with
 |nil=>rw[hT]at hL;simp at hL
 |cons a r=>
  have:=(Vz (k:= .u8) (L:=L) (i:=0) (e:=a) (by rw[hT]<;>rfl)).1;exact hc _ this
def s3L (st:Nat->Nat):List a7C:=[.int .i64 (st 0:Nat),.int .i64 (st 1:Nat),.int .i64 (st 2:Nat)]
theorem aNM(st:Nat->Nat)(h:k<3):(s3L st)[k]?=some (.int .i64 (st k:Nat)):=by
 rcases(show k=0∨k=1∨k=2 by omega)with rfl|rfl|rfl<;>rfl
theorem aRU(st:Nat->Nat)(h:k<3)(x:Nat):(s3L st).set k (.int .i64 (x:Nat))=s3L (upS st k x):=by
 rcases(show k=0∨k=1∨k=2 by omega)with rfl|rfl|rfl<;>rfl
theorem UP.hd (h:UP w lo hi l left):∃cs,aT w hi cs/\∀u,cs[0]?≠some (.int .u8 u):=by
 obtain⟨v,h1,h2,h3⟩:=h;obtain⟨va,vc,rfl,_⟩:=h2.len;exact⟨_,h1,λu=>by simp⟩
theorem aJN{k5:K8}{t5 n8 out t76 t77:a7C}{pt ps:Nat}(oT:aT w pt (c6 t a))(hT:P9 w t a)(oS:aT w ps (s3L st))(hB:UP w lo hi l left)
 (h1:pt<lo) (h2:lo<=hi) (h3:hi<ps) (hG:Qd t st) (hl:l.length<=1000000) (hb1:left<=8*l.length) (hb2: -90000000<=left)
 (hk:∀w',aT w' ps (s3L (nxs t (aG l) 3 st left).1)->UP w' lo hi l (nxs t (aG l) 3 st left).2->aE w w' (λy=>y=hi∨y=ps)->k5 t5 n8 (.pointer (some ⟨pt,0,none⟩)) (.pointer (some ⟨hi,0,none⟩)) (.pointer (some ⟨ps,0,none⟩)) out t76 t77 w'):
 nI k5 t5 n8 (.pointer (some ⟨pt,0,none⟩)) (.pointer (some ⟨hi,0,none⟩)) (.pointer (some ⟨ps,0,none⟩)) out t76 t77 (.agg #[.int .i64 0,.int .i64 2,.int .i64 1]) (.int .i64 0) w:=by
 have hps:=oS.lt;unfold nI;refine aN.rule (λn (v:a7C) w'=>∃(j:Nat) (st':Nat->Nat) (left':Int),n=j/\j<=3/\v= .int .i64 (3-j:Nat)/\aT w' ps (s3L st')/\UP w' lo hi l left'/\Qd t st'/\P9 w' t a/\nxs t (aG l) 3 st left=nxs t (aG l) j st' left'/\left-20*(3-j:Nat)<=left'/\left'<=left/\aE w w' (λy=>y=hi∨y=ps)) 3
  ⟨3,st,left,rfl,a1J _,rfl,oS,hB,hG,hT,rfl,by simp,a6P _,aE.refl _ _⟩ ?_
 rintro j v w1 ⟨n,st',left',rfl,hj,rfl,oS1,hB1,hG1,hT1,hE,hc1,hc2,x1⟩;unfold Q3;rcases j with _|j
 .have d1:decide (((3-0:Nat):Int)<3)=false:=rfl;simp(disch:=omega)only[SV,d1];rw[hE]at hk;exact hk _ oS1 hB1 x1
 .obtain ⟨r,hr⟩:∃r,r=2-j:=⟨_,rfl⟩;have hr3:r<3:=by omega
  have ek:((3-(j+1):Nat):Int)=(r:Int):=by omega
  have d1:decide ((r:Int)<3)=true:=by simp;omega
  rw[ek];have hN:nxs t (aG l) (j+1) st' left'=nxs t (aG l) j (upS st' (VR r) (nR (t (VR r)).2 (st' (VR r):Nat) (aG l) left').1.toNat) (nR (t (VR r)).2 (st' (VR r):Nat) (aG l) left').2:=by rw[hr]<;>rfl
  have hx:(#[Value.int .i64 0,.int .i64 2,.int .i64 1]:Array a7C)[r]?=some (.int .i64 (VR r:Nat)):=by
   rcases(show r=0∨r=1∨r=2 by omega)with rfl|rfl|rfl<;>rfl
  have hk3:=aCz r;obtain⟨k,hkk⟩:∃k,k=VR r:=⟨_,rfl⟩;rw[<-hkk]at hx hk3 hN;obtain⟨hGk,hsk⟩:=hG1 k hk3;have oT1:=oT.ext x1 (by omega);have l2:=dX (off:=k*2) (aH oT1) (by simp[c6];omega);rw[aNf _ _ hk3]at l2;have c2:=(aH oS1).cell (off:=k);rw[aNM _ hk3]at c2;simp(disch:=omega)only[SV,d1,hx,l2,c2,a1H];obtain⟨b,htb⟩:=(hT1.ext (aE.dr w1 aP) k hk3).tbl (by omega);have hB1d:UP (dr w1) lo hi l left':=hB1.ext (aE.dr _ aP) (λ_ _ _ h=>h) h2;obtain⟨cs,oc,hcs⟩:=hB1d.hd;have hne:=aWj htb (by omega) oc hcs;have hlt512:(t k).2.length<=512:=by rw[hGk.len];exact a1K (by omega) hGk.lg
  have hbl:=oc.lt;refine(aF2 htb hGk.low (by omega) hB1d h2 hbl hne (by omega) (by omega) hl).mono ?_;rintro v w2 ⟨rfl,hB2,x2⟩;obtain⟨s',g1,g2,g3,g4⟩:=VM hGk hsk (aG l) left';have q1:oH (t k).2 (st' k:Nat) (iI ((aG l).take left'.toNat) (cM (t k).2 (st' k:Nat)))=(nR (t k).2 (st' k:Nat) (aG l) left').1:=rfl;have q2:left'-(cM (t k).2 (st' k:Nat):Nat)=(nR (t k).2 (st' k:Nat) (aG l) left').2:=rfl;rw[q1,g1];rw[q2]at hB2;rw[g1,a1H]at hN;have x12:aE w1 w2 (λy=>y=hi):=(aE.dr _ _).seq x2;have hTd:P9 (dr w1) t a:=hT1.ext (aE.dr w1 aP);have hT2:P9 w2 t a:=hTd.own oc (by
   rcases hcl:cs with _|⟨c0,cr⟩
   .obtain ⟨v,hv,_⟩:=hB1d;have:=afT oc hv;rw[hcl]at this;cases this
   .simp) hcs x2
  have oS2:=oS1.ext x12 (by omega);refine eZ oS2 rfl (by simp[s3L];omega) λw3 o3 x3 s3=> ?_;rw[aRU _ hk3]at o3;have hT3:=hT2.own oS2 (by simp[s3L]) (λu=>by simp[s3L]) x3;have e1:(r:Int)+1=((3-j:Nat):Int):=by omega
  simp(disch:=omega)only[SV,e1];refine⟨j,by omega,_,_,_,rfl,by omega,rfl,o3,hB2.ext x3 (λb _ _=>by omega) h2,λi hi=> ?_,hT3,by rw[hE,hN],by omega,by omega,(x1.seq (x12.mono λ_ _ h=> .inl h)).seq (x3.mono λ_ _ h=> .inr h)⟩;unfold upS;split
  .rename_i he;rw[he];exact⟨hGk,g2⟩
  .exact hG1 i hi
end Go.Proofs.YthohephggmkeeaaGreatDoor

/- Parts of the proof of DecodeBytes: merged and given short names by a program of ours. -/
import Derived.Test.YthohephggmkeeaaGreatDoorZpD
set_option linter.unusedVariables false
set_option linter.unusedSimpArgs false
open Bool renaming false_eq_true → a2A
open Int renaming toNat_natCast → a1H, tdiv_eq_ediv_of_nonneg → a1R, tmod_eq_emod_of_nonneg → a2B, fdiv_eq_ediv_of_nonneg → a3A
open List renaming getElem?_cons_zero → a1A, getElem?_cons_succ → a1B, take_succ_cons → a1C, set_cons_succ → a1D, set_cons_zero → a1E, drop_zero → a1F, take_zero → a1G, getElem?_eq_getElem → a1I, length_drop → a1L, length_map → a1M, length_take → a1N, length_append → a1O, getD_eq_getElem?_getD → a1P, take_of_length_le → a1T, length_cons → a1U, getElem?_append_left → a1V, getElem?_eq_none → a1X, length_replicate → a2C, getElem?_map → a2F, drop_succ_cons → a2H, map_append → a2I, drop_eq_getElem_cons → a2J, length_eq_zero_iff → a2K, getElem_mem → a2P, append_assoc → a2R, replicate_succ → a2S, mem_append → a2X, map_congr_left → a2Y, mem_cons → a3C, mem_of_getElem? → a3E, getElem?_append_right → a3G, set_append_right → a3H, map_drop → a3M, drop_drop → a3V, mem_singleton → a3W, ext_getElem → a3Y, getElem_cons_zero → a3Z, map_cons → a4D, nil_append → a4F, mem_map → a4J, getElem_of_mem → a4K, append_nil → a4M, getElem?_eq_some_iff → a4N, cons_append → a4P, map_take → a4R, set_append_left → a4S, replicate_succ' → a5C, drop_append_of_le_length → a5D, take_append_of_le_length → a5E, getElem?_replicate → a5F, getLast?_eq_getElem? → a5Q, take_take → a5R, map_replicate → a5X, range_succ → a5Y, map_set → a6E, getElem_set → a6R, map_nil → a6Y
open Nat renaming le_refl → a1J, pow_le_pow_right → a1K, zero_add → a1Q, lt_or_ge → a1Y, two_pow_pos → a2G, mul_comm → a2N, pow_succ → a2O, min_eq_left → a2T, mul_le_mul_right → a2V, mul_one → a2Z, mod_eq_of_lt → a3B, add_mul → a3D, add_zero → a3I, eq_zero_or_pos → a3J, le_trans → a3K, div_le_self → a3Q, add_sub_cancel → a3X, pow_add → a4A, add_assoc → a4E, zero_le → a4G, mod_lt → a4X, mod_two_eq_zero_or_one → a4Y, div_div_eq_div_mul → a5I, one_mul → a5J, sub_self → a5N, div_lt_iff_lt_mul → a5O, add_sub_cancel_left → a5V, mul_div_cancel_left → a5W, sub_zero → a6M, mul_add → a6Q, log2_two_pow → a6S, succ_mul → a7A
open Option renaming map_some → a2Q, getD_some → a5H
open Option.some renaming inj → a1Z
open UInt8 renaming toNat_lt → a2D, toNat_ofNat_of_lt' → a5U
namespace Go.Proofs.YthohephggmkeeaaGreatDoor
open Go Go.En Go.Pu
set_option maxRecDepth 4000
variable{l:List UInt8}{n:Nat}
def l4 (l:List UInt8)(i:Nat)(d:Int):List a7C:=[.int .i64 (if 0<i then nv l 0 else 0:Nat),.int .i64 (if 1<i then nv l 1 else 0:Nat),.int .i64 (if 2<i then nv l 2 else 0:Nat),.int .i64 d]
theorem aVH(l:List UInt8){i:Nat}(h:i<3):(l4 l i 0).set i (.int .i64 (nv l i:Nat))=l4 l (i+1) 0:=by
 rcases(show i=0∨i=1∨i=2 by omega)with rfl|rfl|rfl<;>rfl
theorem HM{w:a7B}{base base' sz:Nat}{v:a7C}{l:List a7C}(h:mH w base sz v n l)(hb:base'<=base):mH w base' sz v n l:=by
 rcases h.2 with h0|⟨b,c,rest,h1,h2,h3⟩
 .exact ⟨h.1,.inl h0⟩
 .exact ⟨h.1,.inr ⟨b,c,rest,h1,by omega,h3⟩⟩
theorem agA{C:List (Nat×Nat)}{e:Int}(h:qB C l n= .error e):e=11∨e=15:=by
 unfold qB at h;split at h
 .cases h;exact .inl rfl
 .split at h
  .cases h;exact .inl rfl
  .split at h
   .cases h;exact .inr rfl
   .cases h
theorem UD{C:List (Nat×Nat)}{m:List Nat}(h:qB C l n= .ok m):m.length=n:=by
 unfold qB at h;split at h
 .cases h
 .split at h
  .cases h
  .split at h
   .cases h
   .cases h;exact Z5
theorem aG9 {lv v:a7C}{wl:List UInt8}{w:a7B}(hw:Bs w lv wl)(hwl:wl.length<=100000)(h:Bs w v l)(hl:l.length<=1000000)(hn:n<=131072):
 aL pg Mv #[lv,v,.int .i64 n] w (λr w'=>Vj w' w.heap.size (Sf wl l n) r/\aE w w' aP):=by
 refine arX ?_;obtain⟨RR,hRR⟩:∃RR:a7C->a7B->Prop,RR=λr w'=>Vj w' w.heap.size (Sf wl l n) r/\aE w w' aP:=⟨_,rfl⟩;rw[<-hRR];have err:∀{e:Int} {w':a7B},Sf wl l n= .error e->aE w w' aP->RR (.tuple #[.slice none 0 0,.int .i64 e]) w':=λh x=>by
  rw[hRR,h];exact⟨rfl,x⟩
 unfold arW TX TW;by_cases hd:gO (bL wl)=0
 .refine (aE0 hw hwl hd).mono ?_;rintro r w1 ⟨rfl,x1⟩;have n0:((1:Int) !=0)=true:=rfl;simp(disch:=omega)only[SV];refine sC λw2 o2 x2 s2=> ?_;refine qA o2 rfl (by simp[one]) (by simp) λw3 o3 x3 s3=> ?_;simp(disch:=omega)only[SV,n0];exact err (by unfold Sf;rw[if_pos hd]) (x1.seq (x2.new x3 (a1J _)))
 .obtain ⟨hF,hm,hC⟩:=WOk.full hd;refine(aKy hw rfl hd).mono ?_;rintro r w1 ⟨t,rfl,ht,x1⟩;have n0:((0:Int) !=0)=false:=rfl;obtain⟨b,rfl,hb,ob⟩:=ht;simp(disch:=omega)only[SV];refine sC λw2 o2 x2 s2=> ?_;refine qA o2 rfl (by simp[one]) (by simp) λw3 o3 x3 s3=> ?_;simp only[aF,a1E,a1D]at o3;have x13:aE w1 w3 aP:=x2.new x3 (a1J _);have x03:=x1.seq x13;have z1:=x1.size;have z13:=x13.size;have lb:=ob.lt;have ob3:=ob.ext x13 (λh=>h);obtain⟨p8,hp8⟩:∃p,p=w1.heap.size:=⟨_,rfl⟩;rw[<-hp8]at o3⊢;have l3:=o3.lt;have d1:decide ((n:Int)<0)=false:=decide_eq_false (by omega);have d2:decide (131072<(n:Int))=false:=decide_eq_false (by omega);obtain⟨q,hq⟩:∃q,q=(n+3)/4:=⟨_,rfl⟩;simp(disch:=omega)only[SV,n0,d1,d2];refine(aRx hn hq w3).mono ?_;rintro r w4 ⟨rfl,x4⟩;simp(disch:=omega)only[SV];refine amE λw5 o5 x5 s5=> ?_;refine aBl o5 rfl (by simp[one]) (by simp) λw6 o6 x6 s6=> ?_;simp only[aF,a1E,a1D]at o6;have x46:aE w4 w6 aP:=x5.new x6 (a1J _);have x36:=x4.seq x46;have x06:=x03.seq x36;obtain⟨p10,hp10⟩:∃p,p=w4.heap.size:=⟨_,rfl⟩;rw[<-hp10]at o6⊢;have l6:=o6.lt;by_cases h3:n<3*q
  .have d3:decide (3*(q:Int)<=(n:Int))=false:=decide_eq_false (by omega);simp(disch:=omega)only[SV,d3];exact err (by unfold Sf;rw[if_neg hd,<-hq,if_pos h3]) x06
  have d3:decide (3*(q:Int)<=(n:Int))=true:=decide_eq_true (by omega);simp(disch:=omega)only[SV,d3];refine(rN (h.ext x06 (aR _)) (by omega)).mono ?_;rintro r w7 ⟨p,rfl,hr7,x7⟩;refine amE λw8 o8 x8 s8=> ?_;have z7:=x7.size;have z36:=x36.size;have hp:=hr7.1;have hp2:=hr7.2.1;have hr8:=hr7.ext x8 (λ_ _ _ h=>h);obtain⟨p13,hp13⟩:∃p,p=w7.heap.size:=⟨_,rfl⟩;rw[<-hp13]at o8⊢;have z8:=x8.size;have x08:=(x06.seq x7).seq x8;have o38:=((o3.ext x36 (λh=>h)).ext x7 (λh=>h)).ext x8 (λh=>h);have o68:=(o6.ext x7 (λh=>h)).ext x8 (λh=>h);have ob8:=((ob3.ext x36 (λh=>h)).ext x7 (λh=>h)).ext x8 (λh=>h);unfold HH HG TV
  try simp(disch:=omega)only[SV]
  unfold Ay;refine aN.rule (λm (t:a7C) w'=>∃i:Nat,m=3-i/\t= .int .i64 i/\i<=3/\aT w' p13 (l4 l i 0)/\Is w' w6.heap.size w7.heap.size p (nx l i).1 (nx l i).2/\aE w8 w' (λy=>y=p∨y=p13)) 3
   ⟨0,rfl,rfl,by omega,o8,hr8,aE.refl _ _⟩ ?_
  rintro m t w9 ⟨i,rfl,rfl,hi,o9,hr9,x9⟩;have z9:=x9.size;unfold TU;by_cases hlt:i<3
  .have d4:decide ((i:Int)<3)=true:=by simp;omega
   have hnl:=aLH l i;simp(disch:=omega)only[SV,d4];refine(jV (n:=2) hr9 (by omega) ⟨by omega,by omega⟩).mono ?_;rintro r wa ⟨rfl,hra,xa⟩;have hnv:cG (gH (nx l i).1 (nx l i).2 2).1=nv l i:=rfl;rw[hnv];have hn2:=aDZ (l:=(nx l i).1) (e:=(nx l i).2);rw[hnv]at hn2;have e1:IntKind.i64.wrap ((nv l i:Nat):Int)=((nv l i:Nat):Int):=dM (by omega) (by omega);have e2:(i:Int)+1=((i+1:Nat):Int):=by omega
   simp(disch:=omega)only[SV,e1,e2,a1H,a1Q];refine eZ (o9.ext xa (by omega)) rfl (by simp[l4];omega) λwb o_b xb sb=> ?_;rw[aVH l hlt]at o_b
   try simp(disch:=omega)only[SV,e2]
   exact⟨3-(i+1),by omega,i+1,rfl,rfl,by omega,o_b,hra.ext xb (λy _ hy=>by omega),(x9.seq (xa.mono λ_ _ h=> .inl h)).seq (xb.mono λ_ _ h=> .inr h)⟩
  .have d4:decide ((i:Int)<3)=false:=by simp;omega
   obtain rfl:i=3:=by omega
   simp(disch:=omega)only[SV,d4];unfold Kc W7;have b0:nv l 0<65536:=aDZ;have b1:nv l 1<65536:=aDZ;have b2:nv l 2<65536:=aDZ;have hnl:=aLH l 3;have od:=aH o9;have k0:=od.cell (off:=0);have k1:=od.cell (off:=1);have k2:=od.cell (off:=2);simp only[l4,a1A,a1B]at k0 k1 k2;have i0:(if 0<3 then nv l 0 else 0)=nv l 0:=rfl;have i1:(if 1<3 then nv l 1 else 0)=nv l 1:=rfl;have i2:(if 2<3 then nv l 2 else 0)=nv l 2:=rfl;rw[i0]at k0;rw[i1]at k1;rw[i2]at k2;have t0:(0:Int).toNat=0:=rfl;have t1:(1:Int).toNat=1:=rfl;have t2:(2:Int).toNat=2:=rfl;have t3:(3:Int).toNat=3:=rfl;obtain⟨N3,hN3⟩:∃N,N=(nx l 3).1.length:=⟨_,rfl⟩;obtain⟨D,hD⟩:∃D:Int,D=(N3:Int)-nv l 0-nv l 1-nv l 2:=⟨_,rfl⟩;have hrd:=hr9.ext (aE.dr w9 aP) (λ_ _ _ h=>h);simp(disch:=omega)only[SV];refine(EJ hrd).mono ?_;rintro r wa ⟨rfl,rfl⟩;rw[<-hN3];simp(disch:=omega)only[SV,k0,k1,k2,t0,t1,t2,t3];rw[<-hD];refine eZ od rfl (by simp[l4]) λwb o_b xb sb=> ?_;have o_b:aT wb p13 (l4 l 3 D):=o_b;have zd:(dr w9).heap.size=w9.heap.size:=rfl;have hrb:=hrd.ext xb (λy _ hy=>by omega);have x9b:aE w8 wb (λy=>y=p∨y=p13):=(x9.seq (aE.dr _ _)).seq (xb.mono λ_ _ h=> .inr h);have x0b:aE w wb aP:=x08.trans x9b λy hy h=>by omega
   refine(qD hrb).mono ?_;rintro r wc ⟨rfl,rfl⟩;rcases a1Y l.length 6 with h6|h6
   .have he:=aRl h6;rw[he];have n1:((10:Int) !=0)=true:=rfl;simp(disch:=omega)only[SV,n1];exact err (by unfold Sf;rw[if_neg hd,<-hq,if_neg h3,if_pos h6]) x0b
   .obtain ⟨_,_,e3,g0,g1,g2⟩:=aRm h6;rw[e3]at hrb hN3⊢;simp only at hrb hN3;have n1:((0:Int) !=0)=false:=rfl;have k3:=o_b.cell (off:=3);simp only[l4,a1A,a1B]at k3;by_cases hneg:N3<nA l+nB l+nC l
    .have d5:decide (D<0)=true:=decide_eq_true (by omega);simp(disch:=omega)only[SV,n1,k3,d5,t3];exact err (by unfold Sf;rw[if_neg hd,<-hq,if_neg h3,if_neg (by omega),<-hN3,if_pos hneg]) x0b
    .have d5:decide (D<0)=false:=decide_eq_false (by omega);simp(disch:=omega)only[SV,n1,k3,d5,t3];obtain⟨L4,hL4⟩:∃L,L=[(nA l,q),(nB l,q),(nC l,q),(N3-(nA l+nB l+nC l),n-3*q)]:=⟨_,rfl⟩;have hH:Sf wl l n=GJ (wC wl) (l.drop 6) L4:=by
      unfold Sf;rw[if_neg hd,<-hq,if_neg h3,if_neg (by omega),<-hN3,if_neg hneg,hL4]
     have cells:∀i,i<4->∃(k m:Nat),L4[i]?=some (k,m)/\(l4 l 3 D)[i]?=some (.int .i64 (k:Nat))/\[Value.int .i64 (q:Nat),.int .i64 (q:Nat),.int .i64 (q:Nat),.int .i64 ((n:Int)-3*(q:Int))][i]?=some (.int .i64 (m:Nat))/\m<=n:=λi hi=>by
      rcases(show i=0∨i=1∨i=2∨i=3 by omega)with rfl|rfl|rfl|rfl
      .exact ⟨nA l,q,by rw[hL4]<;>rfl,by rw[<-g0]<;>rfl,rfl,by omega⟩
      .exact ⟨nB l,q,by rw[hL4]<;>rfl,by rw[<-g1]<;>rfl,rfl,by omega⟩
      .exact ⟨nC l,q,by rw[hL4]<;>rfl,by rw[<-g2]<;>rfl,rfl,by omega⟩
      .refine ⟨N3-(nA l+nB l+nC l),n-3*q,by rw[hL4]<;>rfl, ?_, ?_,by omega⟩
       .show some (Value.int .i64 D)=_;rw[show D=((N3-(nA l+nB l+nC l):Nat):Int)from by omega]
       .show some (Value.int .i64 ((n:Int)-3*(q:Int)))=_;rw[show(n:Int)-3*(q:Int)=((n-3*q:Nat):Int)from by omega]
     have hsum:(L4.map (·.1)).sum=(l.drop 6).length:=by rw[hL4,<-hN3];simp;omega
     have z0b:=x0b.size;have z9b:=x9b.size;have o8b:=o38.ext x9b (by omega);have o10b:=o68.ext x9b (by omega);have obb:=ob8.ext x9b (by omega);unfold Kb Ka W6
     try simp(disch:=omega)only[SV]
     unfold B1;refine aN.rule (λz (t:a7C×a7C) w'=>∃(i:Nat) (acc:List Nat) (li:List UInt8) (ov:a7C),z=4-i/\t=(ov,.int .i64 i)/\i<=4/\mH w' wc.heap.size 1 ov acc.length (u8n acc)/\Is w' w6.heap.size w7.heap.size p li 0/\
      GJ (wC wl) (l.drop 6) L4=ZG acc (GJ (wC wl) li (L4.drop i))/\li.length=((L4.drop i).map (·.1)).sum/\li.length<=l.length/\acc.length<=i*131072/\aE wc w' (λy=>y=p)) 4
      ⟨0,[],l.drop 6,_,rfl,rfl,by omega,mH.nil _ _ _,hrb, ?_,by rw[a1F,hsum],by rw[a1L];omega,by simp,aE.refl _ _⟩ ?_
     .rw [a1F];cases GJ (wC wl) (l.drop 6) L4 with
      |error e=>rfl
      |ok m=>simp[ZG]
     rintro z t wd ⟨i,acc,li,ov,rfl,rfl,hi4,os,hrd4,hres,hls,hll,hal,xd⟩;have zd4:=xd.size;unfold W5;by_cases hlt4:i<4
     .have d6:decide ((i:Int)<4)=true:=by simp;omega
      obtain⟨k,m,hLi,hc1,hc2,hmn⟩:=cells i hlt4;have hdrop:L4.drop i=(k,m)::L4.drop (i+1):=by
       rw[a2J (a4N.1 hLi).1,(a4N.1 hLi).2]
      rw[hdrop]at hres hls;rw[a4D,List.sum_cons]at hls;simp only at hls;have od13:=aH (o_b.ext xd (by omega));have m1:=od13.cell (off:=i);rw[hc1]at m1;have t8':∀{w':a7B},aE wd w' (λy=>y=p)->(cK 246 (.pointer (some ⟨p8,0,none⟩))).run pg w'= .ok (.value (.agg #[.int .i64 (gJ (wC wl):Nat),.slice (some ⟨b,0,none⟩) (2^gJ (wC wl)) (2^gJ (wC wl))])) w':=λx=>by
       have:=Og (off:=0) ((o8b.ext xd (by omega)).ext x (by omega)) (by simp);simp only[a1F,a1C,a1G]at this;exact this
      have q1:=t8' (aE.dr wd _);have m2d:=(aH (o10b.ext xd (by omega))).cell (off:=i);rw[hc2]at m2d;simp(disch:=omega)only[SV,d6,q1,m1,a1H,a1Q];refine(Mn (n:=k) (hrd4.ext (aE.dr wd aP) (λ_ _ _ h=>h)) (by omega) (by omega)).mono ?_;rintro r we ⟨hbs,_,hre,xe⟩;have htk:gH li 0 k=(li.take k,li.drop k,0):=by unfold gH;rw[if_neg (by simp),if_neg (by omega)]
      rw[htk]at hbs hre;simp only at hbs hre;have xde:aE wd we (λy=>y=p):=(aE.dr wd _).seq xe;have zde:=xde.size;have q2:=t8' xde;have m2:=((o10b.ext xd (by omega)).ext xde (by omega)).cell (off:=i);rw[hc2]at m2;simp(disch:=omega)only[SV,q2,m2,m2d,a1H,a1Q];have hbs2:=hbs;obtain⟨sa,sn,sc,rfl,_,_⟩:=hbs2;refine(aI6 (base:=0) hF hm hC ⟨b,rfl,a4G _,(obb.ext xd (by omega)).ext xde (by omega)⟩ hbs (by rw[a1N];omega) (by omega)).mono ?_;rintro r wf ⟨hr,xf⟩;have zf:=xf.size;have x0f:aE w wf aP:=((x0b.trans xd λy hy h=>by omega).trans xde λy hy h=>by omega).seq xf;cases hs:qB (wC wl) (li.take k) m with
      |error e=>
       rw[hs]at hr;obtain rfl:r= .tuple #[.slice none 0 0,.int .i64 e]:=hr;have n2:(e !=0)=true:=by have:=agA hs;simp;omega
       simp(disch:=omega)only[SV,n2];exact err (by rw[hH,hres,aAq,hs]) x0f
      |ok mm=>
       rw[hs]at hr;obtain⟨sv,rfl,osv⟩:=hr;have hml:=UD hs;have e2:(i:Int)+1=((i+1:Nat):Int):=by omega
       simp(disch:=omega)only[SV,n1];have osf:=(os.ext xde (λy hy h=>by omega)).ext xf (λ_ _ h=>h);refine mM (m:=mm.length) (news:=u8n mm) osf osv.cl (λy hy=>by obtain⟨z,_,rfl⟩:=a4J.1 hy;rfl) (by omega) (by omega) λvg wg og xg=> ?_;have e3:u8n acc++u8n mm=u8n (acc++mm):=by unfold u8n;rw[a2I]
       rw[e3,<-a1O]at og
       try simp(disch:=omega)only[SV,e2]
       refine⟨4-(i+1),by omega,i+1,acc++mm,li.drop k,vg,rfl,rfl,by omega,og, ?_, ?_, ?_, ?_, ?_, ?_⟩
       .exact (hre.ext xf (λ_ _ _ h=>h)).ext xg (λy _ hy h=>by omega)
       .rw [hres,aAq,hs]
       .rw [a1L];omega
       .rw [a1L];omega
       .rw [a1O];omega
       .exact ((xd.seq xde).more xf).trans xg λy hy h=>by omega
     .have d6:decide ((i:Int)<4)=false:=by simp;omega
      obtain rfl:i=4:=by omega
      unfold J9;simp(disch:=omega)only[SV,d6];have hnil:L4.drop 4=[]:=by rw[hL4]<;>rfl
      rw[hnil]at hres;have hfin:Sf wl l n= .ok acc:=by rw[hH,hres];simp[GJ,ZG]
      rw[hRR,hfin];exact⟨⟨ov,rfl,HM os (by omega)⟩,x0b.trans xd λy hy h=>by omega⟩
end Go.Proofs.YthohephggmkeeaaGreatDoor
namespace Go.Pu
open Go Go.En
structure LH where
 kind:Nat
 form:Nat
 size:Nat
 count:Nat
 bytes:Nat
def eK(kind form:Nat):Nat:=if kind<2 then(if form=1 then 2 else if form=3 then 3 else 1)else(if form=2 then 4 else if form=3 then 5 else 3)
def aaC(form:Nat):Nat:=if form=2 then 14 else if form=3 then 18 else 10
def jX(kind form:Nat):Nat:=if kind<2/\eK kind form=1 then 3 else 4
def oQ(kind form:Nat):Nat:=if kind<2 then 20 else aaC form
def iA:List UInt8->LH×Int
 |[]=>(⟨0,0,0,0,0⟩,10)
 |c::r=>
  if(c::r).length<eK (c.toNat%4) (c.toNat/4%4)then(⟨c.toNat%4,c.toNat/4%4,eK (c.toNat%4) (c.toNat/4%4),0,0⟩,10)
  else
   (⟨c.toNat%4,c.toNat/4%4,eK (c.toNat%4) (c.toNat/4%4),
     cG ((c::r).take (eK (c.toNat%4) (c.toNat/4%4)))/2^jX (c.toNat%4) (c.toNat/4%4)%2^oQ (c.toNat%4) (c.toNat/4%4),
     cG ((c::r).take (eK (c.toNat%4) (c.toNat/4%4)))/2^jX (c.toNat%4) (c.toNat/4%4)/2^oQ (c.toNat%4) (c.toNat/4%4)⟩,
     if 131072<cG ((c::r).take (eK (c.toNat%4) (c.toNat/4%4)))/2^jX (c.toNat%4) (c.toNat/4%4)%2^oQ (c.toNat%4) (c.toNat/4%4)then 12 else 0)
theorem asF(k f:Nat):1<=eK k f/\eK k f<=5:=by
 unfold eK;split<;>(try split)<;>(try split)<;>omega
theorem aJd(f:Nat):10<=aaC f/\aaC f<=18:=by
 unfold aaC;split<;>(try split)<;>omega
theorem aQ3 (k f:Nat):3<=jX k f/\jX k f<=4:=by
 unfold jX;split<;>omega
theorem aQ4 (k f:Nat):10<=oQ k f/\oQ k f<=20:=by
 have:=aJd f;unfold oQ;split<;>omega
theorem anJ{l:List UInt8}{n:Nat}(h:n<=5):cG (l.take n)<2^40:=by
 have h1:=AE (l.take n);have h2:(l.take n).length<=5:=by rw[a1N];omega
 have h3:256^(l.take n).length<=256^5:=a1K (by omega) h2;have:(256:Nat)^5=2^40:=by decide
 omega
theorem aJg{k f:Nat}{l:List UInt8}(hk:k<2):cG (l.take (eK k f))/2^jX k f<2^20:=by
 have h1:=AE (l.take (eK k f));have h2:(l.take (eK k f)).length<=eK k f:=by rw[a1N];omega
 have h3:256^(l.take (eK k f)).length<=256^eK k f:=a1K (by omega) h2;rw[a5O (a2G _)];have h4:256^eK k f<=2^20*2^jX k f:=by
  unfold jX eK;rw[if_pos hk];by_cases h1:f=1
  .subst h1;simp
  .by_cases h3:f=3
   .subst h3;simp
   .rw [if_neg h1,if_neg h3];simp[hk]
 omega
end Go.Pu
namespace Go.Proofs.YthohephggmkeeaaGreatDoor
open Go Go.En Go.Pu
set_option maxRecDepth 4000
variable{B:List Bool}{b:a7C}{fm hi kd lo n:Nat}{left:Int}{w:a7B}
theorem aNb{x:Nat}(h:x<256):yK .u8 (x:Int) 3=((x%4:Nat):Int):=by
 have:∀k:Fin 256,yK .u8 (k.val:Int) 3=((k.val%4:Nat):Int):=by decide+kernel
 exact this ⟨x,h⟩
def lhV(H:LH):a7C:= .agg #[.int .i64 (H.kind:Nat),.int .i64 (H.form:Nat),.int .i64 (H.size:Nat),.int .i64 (H.count:Nat),.int .i64 (H.bytes:Nat)]
def lh0:a7C:= .agg #[.int .i64 0,.int .i64 0,.int .i64 0,.int .i64 0,.int .i64 0]
theorem aJB{R:K1}{v:a7C}{l:List UInt8}{p2 p4 sz d b:Nat}{c:List a7C}(hb:Bs w v l)(hl:l.length<=1000000)(o2:aT w p2 c)(hc:c.length=5)(o4:aT w p4 [.int .i64 (kd:Nat),.int .i64 (fm:Nat),.int .i64 (sz:Nat),.int .i64 0,.int .i64 0])
 (hne:p2≠p4) (h1:1<=sz) (h5:sz<=5) (hd:3<=d/\d<=4) (hbt:10<=b/\b<=20)
 (hk:∀w' r,(r=if l.length<sz then .tuple #[lh0,.int .i64 10]else if 131072<cG (l.take sz)/2^d%2^b then .tuple #[lh0,.int .i64 12]else .tuple #[lhV ⟨kd,fm,sz,cG (l.take sz)/2^d%2^b,cG (l.take sz)/2^d/2^b⟩,.int .i64 0])->aE w w' (λy=>y=p2∨y=p4)->R r w'):
 lK R v (.pointer (some ⟨p2,0,none⟩)) (.pointer (some ⟨p4,0,none⟩)) (.int .i64 (d:Nat)) (.int .i64 (b:Nat)) w:=by
 have hne':p4≠p2:=λh=>hne h.symm;unfold lK;refine(rN hb (by omega)).mono ?_;rintro r w1 ⟨p,rfl,hr1,x1⟩;have z1:=x1.size;have hp:=hr1.1;have hp2:=hr1.2.1;have l2:=o2.lt;have l4:=o4.lt;have o41:=o4.ext x1 (λh=>h);have o21:=o2.ext x1 (λh=>h);have k2:=o41.cell (off:=2);simp only[a1A,a1B]at k2;simp(disch:=omega)only[SV,k2];refine(jV (n:=sz) hr1 (by omega) ⟨h1,by omega⟩).mono ?_;rintro r w2 ⟨rfl,hr2,x2⟩;have o22:=o21.ext x2 (by omega);have o42:=o41.ext x2 (by omega);have x02:aE w w2 aP:=x1.trans x2 λy hy h=>by omega
 rcases a1Y l.length sz with hs|hs
 .have ht:gH l 0 sz=([],l,10):=by unfold gH;rw[if_neg (by simp),if_pos hs]
  rw[ht]at hr2⊢;simp only at hr2⊢;have e1:=aHO (x:=cG []) (n:=d) (by omega);simp(disch:=omega)only[SV,e1,a1H];refine(qD hr2).mono ?_;rintro r w3 ⟨rfl,rfl⟩;have n1:((10:Int) !=0)=true:=rfl;simp(disch:=omega)only[SV,n1];refine(qD hr2).mono ?_;rintro r w4 ⟨rfl,rfl⟩
  match c,hc with
  |[c0,c1,c2,c3,c4],_=>
   refine kB o22 rfl (by simp[one]) (by simp) λw5 o5 x5 s5=> ?_;refine xS o5 (by simp[aF]) ?_;simp only[aF,a1E,a1D,a1F,a1C,a1G];exact hk w5 _ (by rw[if_pos hs]<;>rfl) ((x02.mono λ_ _ h=>h.elim).seq (x5.mono λ_ _ h=> .inl h))
 .have ht:gH l 0 sz=(l.take sz,l.drop sz,0):=by unfold gH;rw[if_neg (by simp),if_neg (by omega)]
  rw[ht]at hr2⊢;simp only at hr2⊢;have hx:=anJ (l:=l) h5;have e1:=aHO (x:=cG (l.take sz)) (n:=d) (by omega);have hy:cG (l.take sz)/2^d<=cG (l.take sz):=a3Q _ _;obtain⟨Y,hY⟩:∃Y,Y=cG (l.take sz)/2^d:=⟨_,rfl⟩;rw[<-hY]at e1 hy hk;have hpb:2^b<=2^20:=a1K (by omega) hbt.2;have hpb0:=a2G b;simp(disch:=omega)only[SV,e1,a1H];refine(qD hr2).mono ?_;rintro r w3 ⟨rfl,rfl⟩;have n1:((0:Int) !=0)=false:=rfl;have e2:IntKind.u64.wrap (1*2^min b IntKind.u64.bits)=((2^b:Nat):Int):=by
   have h64:IntKind.u64.bits=64:=rfl;rw[h64,a2T (by omega),Int.one_mul];have:(2:Int)^b=((2^b:Nat):Int):=by push_cast;rfl
   rw[this];exact eL (by omega) (by omega)
  have e3:IntKind.u64.wrap (((2^b:Nat):Int)-1)=((2^b-1:Nat):Int):=by rw[eL (by omega) (by omega)];omega
  have e4:=aCZ (x:=Y) (n:=b) (by omega) (by omega);have e5:=aHO (x:=Y) (n:=b) (by omega);have hm1:=Nat.mod_le Y (2^b);have hm2:=a3Q Y (2^b);have ew:∀z:Nat,z<2^62->IntKind.i64.wrap (z:Int)=z:=λz hz=>dM (by omega) (by omega);have e6:=ew (Y%2^b) (by omega);have e7:=ew (Y/2^b) (by omega);simp(disch:=omega)only[SV,n1,e2,e3,e4,e5,e6,e7,a1H];refine eZ o42 rfl (by simp) λw4 o44 x4 s4=> ?_;simp only[a1E,a1D]at o44
  try simp(disch:=omega)only[SV,n1,e2,e3,e4,e5,e6,e7,a1H]
  refine eZ o44 rfl (by simp) λw5 o45 x5 s5=> ?_;simp only[a1E,a1D]at o45;have k3:=o45.cell (off:=3);simp only[a1A,a1B]at k3;have x25:=x4.seq x5;have o25:=o22.ext x25 hne;have x05:aE w w5 (λy=>y=p2∨y=p4):=(x02.mono λ_ _ h=>h.elim).seq (x25.mono λ_ _ h=> .inr h)
  match c,hc with
  |[c0,c1,c2,c3,c4],_=>
   by_cases hbig:131072<Y%2^b
   .have d1:decide (131072<((Y%2^b:Nat):Int))=true:=decide_eq_true (by omega);simp(disch:=omega)only[SV,k3,d1];refine kB o25 rfl (by simp[one]) (by simp) λw6 o6 x6 s6=> ?_;refine xS o6 (by simp[aF]) ?_;simp only[aF,a1E,a1D,a1F,a1C,a1G];exact hk w6 _ (by rw[if_neg (by omega),if_pos hbig]<;>rfl) (x05.seq (x6.mono λ_ _ h=> .inl h))
   .have d1:decide (131072<((Y%2^b:Nat):Int))=false:=decide_eq_false (by omega);have q1:=QN (off:=0) o45 (by simp);simp only[a1F,a1C,a1G]at q1;simp(disch:=omega)only[SV,k3,d1,q1];refine kB o25 rfl (by simp[one]) (by simp) λw6 o6 x6 s6=> ?_;refine xS o6 (by simp[aF]) ?_;simp only[aF,a1E,a1D,a1F,a1C,a1G];exact hk w6 _ (by rw[if_neg (by omega),if_neg hbig]<;>rfl) (x05.seq (x6.mono λ_ _ h=> .inl h))
def OpR(l:List UInt8)(r:a7C):Prop:=r=if(iA l).2=0 then .tuple #[lhV (iA l).1,.int .i64 0]else .tuple #[lh0,.int .i64 (iA l).2]
theorem aVW{x0:UInt8}{rs:List UInt8}{r:a7C}(hk:kd=x0.toNat%4)(hf:fm=x0.toNat/4%4)
 (hr:r=if(x0::rs).length<eK kd fm then .tuple #[lh0,.int .i64 10]else if 131072<cG ((x0::rs).take (eK kd fm))/2^jX kd fm%2^oQ kd fm then .tuple #[lh0,.int .i64 12]else .tuple #[lhV ⟨kd,fm,eK kd fm,cG ((x0::rs).take (eK kd fm))/2^jX kd fm%2^oQ kd fm,cG ((x0::rs).take (eK kd fm))/2^jX kd fm/2^oQ kd fm⟩,.int .i64 0]):OpR (x0::rs) r:=by
 subst hk hf;by_cases h1:(x0::rs).length<eK (x0.toNat%4) (x0.toNat/4%4)
 .rw [if_pos h1]at hr;simp only[OpR,iA,if_pos h1];rw[hr]<;>rfl
 .rw [if_neg h1]at hr;simp only[OpR,iA,if_neg h1];by_cases h2:131072<cG ((x0::rs).take (eK (x0.toNat%4) (x0.toNat/4%4)))/2^jX (x0.toNat%4) (x0.toNat/4%4)%2^oQ (x0.toNat%4) (x0.toNat/4%4)
  .rw [if_pos h2]at hr;simp only[if_pos h2];rw[hr]<;>rfl
  .rw [if_neg h2]at hr;simp only[if_neg h2];rw[hr]<;>rfl
theorem aRs{v:a7C}{l:List UInt8}(h:Bs w v l)(hl:l.length<=1000000):
 aL pg DN #[v] w (λr w'=>OpR l r/\aE w w' aP):=by
 refine aaG ?_;obtain⟨RR,hRR⟩:∃RR:a7C->a7B->Prop,RR=λr w'=>OpR l r/\aE w w' aP:=⟨_,rfl⟩;rw[<-hRR];unfold Xj LM Oj;refine Ak λw1 o1 x1 s1=> ?_;have z1:=x1.size;rcases a3J l.length with h0|h0
 .have hnil:=a2K.1 h0;obtain⟨va,vn,vc,rfl,hvn,_⟩:=h;rw[a1M,h0]at hvn;subst hvn;have n1:(((0:Nat):Int)==0)=true:=rfl;simp(disch:=omega)only[SV,n1];refine kB o1 rfl (by simp[one]) (by simp) λw2 o2 x2 s2=> ?_;refine xS o2 (by simp[aF]) ?_;simp only[aF,a1E,a1D,a1F,a1C,a1G];rw[hRR];refine⟨?_,x1.new x2 (a1J _)⟩;rw[hnil]<;>rfl
 .have hb:=h;obtain⟨b,off,c,rfl,hc,hcell⟩:=Vs h h0;obtain⟨x0,rs,rfl⟩:∃x0 rs,l=x0::rs:=by
   cases l with
   |nil=>simp at h0
   |cons x rs=>exact⟨x,rs,rfl⟩
  have hx0:x0.toNat<256:=a2D x0;have g0:=hcell 0 h0;rw[a3I]at g0;have g0:w.cell? ⟨b,off,none⟩=some (.int .u8 (x0.toNat:Nat)):=g0;have g1:=aqQ g0 x1 (λh=>h);have gd:(dr w1).cell? ⟨b,off,none⟩=some (.int .u8 (x0.toNat:Nat)):=g1;have n1:((((x0::rs).length:Nat):Int)==0)=false:=by simp;omega
  have t0:(0:Int).toNat=0:=rfl;have t2:(2:Int).toNat=2:=rfl;have e1:=aNb hx0;have e2:=aXX (x:=x0.toNat) (n:=2) (by omega);have e3:=aNb (x:=x0.toNat/2^2) (by have:x0.toNat/2^2<=x0.toNat:=a3Q _ _;omega);have ew:∀z:Nat,z<2^62->IntKind.i64.wrap (z:Int)=z:=λz hz=>dM (by omega) (by omega);obtain⟨kd,hkd⟩:∃kd,kd=x0.toNat%4:=⟨_,rfl⟩;obtain⟨fm,hfm⟩:∃fm,fm=x0.toNat/4%4:=⟨_,rfl⟩;have hfm2:x0.toNat/2^2%4=fm:=by rw[hfm]
  rw[<-hkd]at e1;rw[hfm2]at e3;have hkd4:kd<4:=by omega
  have hfm4:fm<4:=by omega
  have e4:=ew kd (by omega);have e5:=ew fm (by omega);have hpos:0<(x0::rs).length:=h0;simp(disch:=omega)only[SV,n1,g1,gd,t0,t2,e1,e2,e3,e4,e5,a3I,Nat.zero_mul];refine Ak λw2 o2 x2 s2=> ?_;have g2:=aqQ gd x2 (λh=>h);simp(disch:=omega)only[SV,g2];refine kB o2 rfl (by simp[one]) (by simp) λw3 o3 x3 s3=> ?_;simp only[aF,a1E,a1D]at o3;have zd:(dr w1).heap.size=w1.heap.size:=rfl;rw[zd]at o3 x3⊢;have x13:aE w1 w3 aP:=((aE.dr w1 aP).seq x2).new x3 (by omega);have o13:=o1.ext x13 (λh=>h);have x03:=x1.seq x13;have hb3:=h.ext x03 (aR _);obtain⟨p4,hp4⟩:∃p,p=w1.heap.size:=⟨_,rfl⟩;obtain⟨p2,hp2⟩:∃p,p=w.heap.size:=⟨_,rfl⟩;have l1:=o1.lt;rw[<-hp4]at o3⊢;rw[<-hp2]at o13⊢;have hne:p2≠p4:=by omega
  have k0:=o3.cell (off:=0);simp only[a1A,a1B]at k0
  have fin:∀(w4:a7B) (sz d bt:Nat),sz=eK kd fm->d=jX kd fm->bt=oQ kd fm->aT w4 p4 [.int .i64 (kd:Nat),.int .i64 (fm:Nat),.int .i64 (sz:Nat),.int .i64 0,.int .i64 0]->aE w3 w4 (λy=>y=p4)→
      lK RR (.slice (some ⟨b,off,none⟩) (x0::rs).length c) (.pointer (some ⟨p2,0,none⟩)) (.pointer (some ⟨p4,0,none⟩)) (.int .i64 (d:Nat)) (.int .i64 (bt:Nat)) w4:=by
   intro w4 sz d bt h1 h2 h3 o4 x4;subst h1 h2 h3;have x04:aE w w4 aP:=x03.trans x4 λy hy h=>by omega
   refine aJB (h.ext x04 (aR _)) hl (o13.ext x4 hne) rfl o4 hne (asF _ _).1 (asF _ _).2 (aQ3 _ _) (aQ4 _ _) λw5 r hr x5=> ?_;rw[hRR];exact⟨aVW hkd hfm hr,x04.trans x5 λy hy h=>by omega⟩
  unfold CQ CP Oi;simp(disch:=omega)only[SV,k0];unfold CO Oh;have k1:=o3.cell (off:=1);simp only[a1A,a1B]at k1;have t1:(1:Int).toNat=1:=rfl;have t3:(3:Int).toNat=3:=rfl;have c0:(((0:Nat):Int)).toNat=0:=rfl;have c1:(((1:Nat):Int)).toNat=1:=rfl;have c2:(((2:Nat):Int)).toNat=2:=rfl;have c3:(((3:Nat):Int)).toNat=3:=rfl;by_cases hk2:kd<2
  .have P2:dG (λbJ t2 h_4 CM CK w=>lK RR bJ t2 h_4 CM CK w) (.slice (some ⟨b,off,none⟩) (x0::rs).length c) (.pointer (some ⟨p2,0,none⟩)) (.pointer (some ⟨p4,0,none⟩)) (.int .i64 4) (.int .i64 20) (.bool true) w3:=by
    rcases(show fm=0∨fm=1∨fm=2∨fm=3 by omega)with rfl|rfl|rfl|rfl
    .unfold dG;simp(disch:=omega)only[SV,k1,t0,t1,t2,t3,c0,c1,c2,c3];refine eZ o3 rfl (by simp) λw4 o4 x4 s4=> ?_;simp only[a1E,a1D]at o4;have k2:=o4.cell (off:=2);have k1':=o4.cell (off:=1);simp only[a1A,a1B]at k2 k1';have n5:((1:Int)==1)=true:=rfl;simp(disch:=omega)only[SV,k2,n5];exact fin w4 1 3 20 (by unfold eK;rw[if_pos hk2]<;>rfl) (by unfold jX eK;simp[hk2]) (by unfold oQ;rw[if_pos hk2]) o4 x4
    .unfold dG;simp(disch:=omega)only[SV,k1,t0,t1,t2,t3,c0,c1,c2,c3];refine eZ o3 rfl (by simp) λw4 o4 x4 s4=> ?_;simp only[a1E,a1D]at o4;have k2:=o4.cell (off:=2);have k1':=o4.cell (off:=1);simp only[a1A,a1B]at k2 k1';have n5:((2:Int)==1)=false:=rfl;simp(disch:=omega)only[SV,k2,n5];exact fin w4 2 4 20 (by unfold eK;rw[if_pos hk2]<;>rfl) (by unfold jX eK;simp[hk2]) (by unfold oQ;rw[if_pos hk2]) o4 x4
    .unfold dG;simp(disch:=omega)only[SV,k1,t0,t1,t2,t3,c0,c1,c2,c3];refine eZ o3 rfl (by simp) λw4 o4 x4 s4=> ?_;simp only[a1E,a1D]at o4;have k2:=o4.cell (off:=2);have k1':=o4.cell (off:=1);simp only[a1A,a1B]at k2 k1';have n5:((1:Int)==1)=true:=rfl;simp(disch:=omega)only[SV,k2,n5];exact fin w4 1 3 20 (by unfold eK;rw[if_pos hk2]<;>rfl) (by unfold jX eK;simp[hk2]) (by unfold oQ;rw[if_pos hk2]) o4 x4
    .unfold dG;simp(disch:=omega)only[SV,k1,t0,t1,t2,t3,c0,c1,c2,c3];refine eZ o3 rfl (by simp) λw4 o4 x4 s4=> ?_;simp only[a1E,a1D]at o4;have k2:=o4.cell (off:=2);have k1':=o4.cell (off:=1);simp only[a1A,a1B]at k2 k1';have n5:((3:Int)==1)=false:=rfl;simp(disch:=omega)only[SV,k2,n5];exact fin w4 3 4 20 (by unfold eK;rw[if_pos hk2]<;>rfl) (by unfold jX eK;simp[hk2]) (by unfold oQ;rw[if_pos hk2]) o4 x4
   rcases(show kd=0∨kd=1 by omega)with rfl|rfl
   .have n2:(((0:Nat):Int)==0)=true:=rfl;simp(disch:=omega)only[SV,n2];exact P2
   .have n2:(((1:Nat):Int)==0)=false:=rfl;have n3:(((1:Nat):Int)==1)=true:=rfl;simp(disch:=omega)only[SV,n2,n3];exact P2
  .have n2:((kd:Int)==0)=false:=by simp;omega
   have n3:((kd:Int)==1)=false:=by simp;omega
   simp(disch:=omega)only[SV,n2,n3];rcases(show fm=0∨fm=1∨fm=2∨fm=3 by omega)with rfl|rfl|rfl|rfl
   .unfold dG;simp(disch:=omega)only[SV,k1,t0,t1,t2,t3,c0,c1,c2,c3];refine eZ o3 rfl (by simp) λw4 o4 x4 s4=> ?_;simp only[a1E,a1D]at o4;have k2:=o4.cell (off:=2);have k1':=o4.cell (off:=1);simp only[a1A,a1B]at k2 k1';simp(disch:=omega)only[SV,k1',t0,t1,t2,t3,c0,c1,c2,c3];exact fin w4 3 4 10 (by unfold eK;rw[if_neg hk2]<;>rfl) (by unfold jX;rw[if_neg (λh=>hk2 h.1)]) (by unfold oQ;rw[if_neg hk2]<;>rfl) o4 x4
   .unfold dG;simp(disch:=omega)only[SV,k1,t0,t1,t2,t3,c0,c1,c2,c3];refine eZ o3 rfl (by simp) λw4 o4 x4 s4=> ?_;simp only[a1E,a1D]at o4;have k2:=o4.cell (off:=2);have k1':=o4.cell (off:=1);simp only[a1A,a1B]at k2 k1';simp(disch:=omega)only[SV,k1',t0,t1,t2,t3,c0,c1,c2,c3];exact fin w4 3 4 10 (by unfold eK;rw[if_neg hk2]<;>rfl) (by unfold jX;rw[if_neg (λh=>hk2 h.1)]) (by unfold oQ;rw[if_neg hk2]<;>rfl) o4 x4
   .unfold dG;simp(disch:=omega)only[SV,k1,t0,t1,t2,t3,c0,c1,c2,c3];refine eZ o3 rfl (by simp) λw4 o4 x4 s4=> ?_;simp only[a1E,a1D]at o4;have k2:=o4.cell (off:=2);have k1':=o4.cell (off:=1);simp only[a1A,a1B]at k2 k1';simp(disch:=omega)only[SV,k1',t0,t1,t2,t3,c0,c1,c2,c3];exact fin w4 4 4 14 (by unfold eK;rw[if_neg hk2]<;>rfl) (by unfold jX;rw[if_neg (λh=>hk2 h.1)]) (by unfold oQ;rw[if_neg hk2]<;>rfl) o4 x4
   .unfold dG;simp(disch:=omega)only[SV,k1,t0,t1,t2,t3,c0,c1,c2,c3];refine eZ o3 rfl (by simp) λw4 o4 x4 s4=> ?_;simp only[a1E,a1D]at o4;have k2:=o4.cell (off:=2);have k1':=o4.cell (off:=1);simp only[a1A,a1B]at k2 k1';simp(disch:=omega)only[SV,k1',t0,t1,t2,t3,c0,c1,c2,c3];exact fin w4 5 4 18 (by unfold eK;rw[if_neg hk2]<;>rfl) (by unfold jX;rw[if_neg (λh=>hk2 h.1)]) (by unfold oQ;rw[if_neg hk2]<;>rfl) o4 x4
theorem aLW{c:UInt8}(hn:n<=131072):
 aL pg RA #[kH c,.int .i64 n] w (λr w'=>r= .string ⟨(List.replicate n c).toArray⟩/\aE w w' aP):=by
 refine azW ?_;obtain⟨RR,hRR⟩:∃RR:a7C->a7B->Prop,RR=λr w'=>r= .string ⟨(List.replicate n c).toArray⟩/\aE w w' aP:=⟨_,rfl⟩;rw[<-hRR];unfold aBd acV acU;refine aaM (by omega) (by omega) λw1 o1 x1 s1=> ?_;simp only[a1H]at o1⊢;obtain⟨p,hp⟩:∃p,p=w.heap.size:=⟨_,rfl⟩;rw[<-hp]at o1⊢;unfold O6 O5 acT FZ;refine aN.rule (λm (t:a7C) w'=>∃i:Nat,m=n-i/\t= .int .i64 i/\i<=n/\aT w' p (List.replicate i (kH c)++List.replicate (n-i) (.int .u8 0))/\aE w1 w' (λy=>y=p)) n
  ⟨0,rfl,rfl,by omega,by simpa using o1,aE.refl _ _⟩ ?_
 rintro m t w2 ⟨i,rfl,rfl,hi,o2,x2⟩;unfold acS;by_cases hlt:i<n
 .have d1:decide ((i:Int)<(n:Int))=true:=by simp;omega
  have ti:(i:Int).toNat=i:=a1H _;have e1:(i:Int)+1=((i+1:Nat):Int):=by omega
  simp(disch:=omega)only[SV,d1,ti,a1Q,a2Z];refine awN o2 (by simp[one,kH]) (by simp;omega) λw3 o3 x3 s3=> ?_;rw[a3H _ _ (by simp),a2C,a5N,show n-i=(n-(i+1))+1 from by omega,a2S,a1E]at o3;simp(disch:=omega)only[SV,e1];refine⟨n-(i+1),by omega,i+1,rfl,rfl,by omega, ?_,x2.seq x3⟩;rw[a5C,a2R];exact o3
 .have d1:decide ((i:Int)<(n:Int))=false:=by simp;omega
  have hin:i=n:=by omega
  subst hin;unfold O4;have hb:Bs w2 (.slice (some ⟨p,0,none⟩) i i) (List.replicate i c):=by
   have:=o2.bs (off:=0) (c:=i) (l:=List.replicate i c) (by simp) (λj hj=>by
    rw[a2C]at hj;rw[a1Q,a1V (by simp;omega)];simp[a5F,hj])
   rw[a2C]at this;exact this
  have hcv:=cU hb;simp(disch:=omega)only[SV,d1,hcv];rw[hRR];exact⟨rfl,x1.trans x2 λy hy h=>by omega⟩
abbrev rhC(H:LH):List a7C:=[.int .u64 (H.kind:Nat),.int .u64 (H.form:Nat),.int .i64 (H.size:Nat),.int .u64 (H.count:Nat),.int .u64 (H.bytes:Nat)]
def rhV(H:LH):a7C:= .agg #[.int .u64 (H.kind:Nat),.int .u64 (H.form:Nat),.int .i64 (H.size:Nat),.int .u64 (H.count:Nat),.int .u64 (H.bytes:Nat)]
theorem aOq{RR:a7C->a7B->Prop}{H:LH}{p q:Nat}{z:List a7C}(oq:aT w q (rhC H))(op:aT w p z)(hz:z.length=5)(hne:p≠q)(hc:H.count<2^62)
 (hk:∀w',aE w w' (λy=>y=p)->RR (.tuple #[rhV H,.int .i64 (if 131072<H.count then 12 else 0:Int)]) w'):
 BG RR (.pointer (some ⟨p,0,none⟩)) (.pointer (some ⟨q,0,none⟩)) w:=by
 unfold BG;have k3:=oq.cell (off:=3);simp only[a1A,a1B]at k3;have l:=wR (off:=0) oq (by simp);simp only[a1F,a1C,a1G]at l;obtain⟨z0,z1,z2,z3,z4,rfl⟩:∃z0 z1 z2 z3 z4,z=[z0,z1,z2,z3,z4]:=by
  match z,hz with
  |[z0,z1,z2,z3,z4],_=>exact⟨_,_,_,_,_,rfl⟩
 by_cases h:131072<H.count
 .have d1:decide ((H.count:Int)>131072)=true:=decide_eq_true (by omega);have d2:decide ((131072:Int)<(H.count:Int))=true:=decide_eq_true (by omega);rw[if_pos h]at hk;simp(disch:=omega)only[SV,k3,d1,d2,l];refine lD op rfl (by simp[one]) (by simp) λw1 o1 x1 s1=> ?_;refine qG o1 (by simp[aF]) ?_;simp only[aF,a1E,a1D,a1F,a1C,a1G];exact hk w1 x1
 .have d1:decide ((H.count:Int)>131072)=false:=decide_eq_false (by omega);have d2:decide ((131072:Int)<(H.count:Int))=false:=decide_eq_false (by omega);rw[if_neg h]at hk;simp(disch:=omega)only[SV,k3,d1,d2,l];refine lD op rfl (by simp[one]) (by simp) λw1 o1 x1 s1=> ?_;refine qG o1 (by simp[aF]) ?_;simp only[aF,a1E,a1D,a1F,a1C,a1G];exact hk w1 x1
theorem aOr{RR:a7C->a7B->Prop}{W p q:Nat}{b:ByteArray}{z:List a7C}{x0:UInt8}{rs:List UInt8}(hb:aM b=x0::rs)(hkd:kd=x0.toNat%4)(hfm:fm=x0.toNat/4%4)
 (oq:aT w q [.int .u64 kd,.int .u64 fm,.int .i64 (eK kd fm:Nat),.int .u64 0,.int .u64 0]) (op:aT w p z) (hz:z.length=5) (hne:p≠q) (hW:2<=kd->W=2^aaC fm)
 (hk:∀w',aE w w' (λy=>y=p∨y=q)->RR (.tuple #[rhV (iA (x0::rs)).1,.int .i64 (iA (x0::rs)).2]) w'):
 BH RR (.string b) (.pointer (some ⟨p,0,none⟩)) (.pointer (some ⟨q,0,none⟩)) (.int .u64 W) w:=by
 unfold BH akK;have k2:=oq.cell (off:=2);simp only[a1A,a1B]at k2;have hsz:=asF kd fm
 have hL:iA (x0::rs)=if(x0::rs).length<eK kd fm then(⟨kd,fm,eK kd fm,0,0⟩,10)
     else(⟨kd,fm,eK kd fm,cG ((x0::rs).take (eK kd fm))/2^jX kd fm%2^oQ kd fm,cG ((x0::rs).take (eK kd fm))/2^jX kd fm/2^oQ kd fm⟩,
      if 131072<cG ((x0::rs).take (eK kd fm))/2^jX kd fm%2^oQ kd fm then 12 else 0):=by
  subst hkd hfm;rfl
 rw[hL]at hk;have hkd4:kd<4:=by omega
 have hfm4:fm<4:=by omega
 clear hL hkd hfm;generalize hszg:eK kd fm=sz at*;simp(disch:=omega)only[SV,k2];refine(jQ (x:=b) (e:=0) (n:=sz) (by omega)).mono ?_;rintro r w1 ⟨y,rfl,hy,x1⟩;rw[hb]at hy⊢;generalize x0::rs=l at*;obtain⟨z0,z1,z2,z3,z4,rfl⟩:∃z0 z1 z2 z3 z4,z=[z0,z1,z2,z3,z4]:=by
  match z,hz with
  |[z0,z1,z2,z3,z4],_=>exact⟨_,_,_,_,_,rfl⟩
 simp(disch:=omega)only[SV];refine bD λw2 o2 x2 s2=> ?_;refine aS o2 rfl (by simp[one]) (by simp) λw3 o3 x3 s3=> ?_;simp only[aF,a1E,a1D]at o3;have x13:aE w1 w3 aP:=x2.new x3 (by omega);have x03:=x1.seq x13;have z1':=x1.size;have lq:=oq.lt;have lp:=op.lt;have oq3:=oq.ext x03 (λh=>h);have op3:=op.ext x03 (λh=>h);by_cases hs:l.length<sz
 .have ht:gH l 0 sz=([],l,10):=by unfold gH;rw[if_neg (by simp),if_pos hs]
  rw[ht]at o3⊢;rw[if_pos hs]at hk;simp only at o3⊢;have k1:=o3.cell (off:=1);have k1d:=(aH o3).cell (off:=1);simp only[a1A,a1B]at k1 k1d;have n1:((10:Int) !=0)=true:=rfl;have lh:=wR (off:=0) (aH oq3) (by simp);simp only[a1F,a1C,a1G]at lh;simp(disch:=omega)only[SV,k1,n1,lh,k1d];refine lD (aH op3) rfl (by simp[one]) (by simp) λw4 o4 x4 s4=> ?_;have k1e:=(((aH o3).ext x4 (by omega))).cell (off:=1);simp only[a1A,a1B]at k1e;simp(disch:=omega)only[SV,k1e];refine qG o4 (by simp[aF]) ?_;simp only[aF,a1E,a1D,a1F,a1C,a1G];exact hk w4 (((x03.seq (aE.dr _ _)).mono λ_ _ h=>h.elim).seq (x4.mono λ_ _ h=> .inl h))
 have ht:gH l 0 sz=(l.take sz,l.drop sz,0):=by unfold gH;rw[if_neg (by simp),if_neg hs]
 rw[ht]at o3⊢;rw[if_neg hs]at hk;simp only at o3⊢;have k1:=o3.cell (off:=1);have k0:=oq3.cell (off:=0);have k2:=oq3.cell (off:=2);simp only[a1A,a1B]at k0 k1 k2;have n1:((0:Int) !=0)=false:=rfl;have hx40:=anJ (l:=l) hsz.2;obtain⟨X,hX⟩:∃X,X=cG (l.take sz):=⟨_,rfl⟩;rw[<-hX]at hx40 hk⊢
 have endg:∀(H:LH) (w4:a7B),aT w4 q (rhC H)->aE w3 w4 (λy=>y=q)->H=⟨kd,fm,sz,X/2^jX kd fm%2^oQ kd fm,X/2^jX kd fm/2^oQ kd fm⟩→
     BG RR (.pointer (some ⟨p,0,none⟩)) (.pointer (some ⟨q,0,none⟩)) w4:=by
  intro H w4 o4 x4 hH;have hcb:H.count<2^62:=by
   rw[hH];have h1:=Nat.mod_le (X/2^jX kd fm) (2^oQ kd fm);have h2:=a3Q X (2^jX kd fm);show X/2^jX kd fm%2^oQ kd fm<2^62;omega
  refine aOq o4 (op3.ext x4 hne) rfl hne hcb λw5 x5=> ?_;rw[hH];exact hk w5 (((x03.mono λ_ _ h=>h.elim).seq (x4.mono λ_ _ h=> .inr h)).seq (x5.mono λ_ _ h=> .inl h))
 by_cases hk2:kd<2
 .have hW20:oQ kd fm=20:=by unfold oQ;rw[if_pos hk2]
  have hp:=aJg (k:=kd) (f:=fm) (l:=l) hk2;rw[hszg,<-hX]at hp;have m1:X/2^jX kd fm%2^oQ kd fm=X/2^jX kd fm:=by rw[hW20];exact a3B hp
  have m2:X/2^jX kd fm/2^oQ kd fm=0:=by rw[hW20];exact Nat.div_eq_of_lt hp
  have d1:decide ((kd:Int)<2)=true:=decide_eq_true (by omega);by_cases hs1:sz=1
  .have n2:((sz:Int)==1)=true:=by rw[hs1]<;>rfl
   have hdn:jX kd fm=3:=by unfold jX;rw[if_pos ⟨hk2,by rw[hszg];exact hs1⟩]
   have e1:((X:Int)).tdiv 8=((X/8:Nat):Int):=by rw[a1R (by omega)];omega
   simp(disch:=omega)only[SV,k1,n1,k0,d1,k2,n2,e1];refine jK oq3 rfl (by simp) λw4 o4 x4 s4=> ?_;simp only[a1E,a1D]at o4;exact endg ⟨kd,fm,sz,X/8,0⟩ w4 o4 x4 (by rw[m1,m2,hdn])
  .have n2:((sz:Int)==1)=false:=beq_eq_false_iff_ne.2 (by omega);have hdn:jX kd fm=4:=by unfold jX;rw[if_neg (by rw[hszg];exactλh=>hs1 h.2)]
   have e1:((X:Int)).tdiv 16=((X/16:Nat):Int):=by rw[a1R (by omega)];omega
   simp(disch:=omega)only[SV,k1,n1,k0,d1,k2,n2,e1];refine jK oq3 rfl (by simp) λw4 o4 x4 s4=> ?_;simp only[a1E,a1D]at o4;exact endg ⟨kd,fm,sz,X/16,0⟩ w4 o4 x4 (by rw[m1,m2,hdn])
 .have d1:decide ((kd:Int)<2)=false:=decide_eq_false (by omega);have hWd:oQ kd fm=aaC fm:=by unfold oQ;rw[if_neg hk2]
  have hdn:jX kd fm=4:=by unfold jX;rw[if_neg (λh=>hk2 h.1)]
  have hW':=hW (by omega);have hlb:=aJd fm;have hWp:0<W:=by rw[hW'];exact a2G _
  have e1:((X:Int)).tdiv 16=((X/16:Nat):Int):=by rw[a1R (by omega)];omega
  have e2:(((X/16:Nat):Int)).tmod (W:Int)=((X/16%W:Nat):Int):=by rw[a2B (by omega)]<;>rfl
  have hdl:X/16/W<=X/16:=a3Q _ _;have wq:IntKind.u64.wrap ((X/16/W:Nat):Int)=((X/16/W:Nat):Int):=by generalize X/16/W=D at*;exact eL (by omega) (by omega)
  have e3:(((X/16:Nat):Int)).tdiv (W:Int)=((X/16/W:Nat):Int):=by rw[a1R (by omega)]<;>rfl
  simp(disch:=omega)only[SV,k1,n1,k0,d1,e1,e2,e3,wq];refine jK oq3 rfl (by simp) λw4 o4 x4 s4=> ?_;simp only[a1E,a1D]at o4;refine jK o4 rfl (by simp) λw5 o5 x5 s5=> ?_;simp only[a1E,a1D]at o5;exact endg ⟨kd,fm,sz,X/16%W,X/16/W⟩ w5 o5 (x4.seq x5) (by rw[hWd,hdn,hW'])
theorem aOR{b:ByteArray}:
 aL pg Va #[.string b] w (λr w'=>r= .tuple #[rhV (iA (aM b)).1,.int .i64 (iA (aM b)).2]/\aE w w' aP):=by
 refine aCb ?_;obtain⟨RR,hRR⟩:∃RR:a7C->a7B->Prop,RR=λr w'=>r= .tuple #[rhV (iA (aM b)).1,.int .i64 (iA (aM b)).2]/\aE w w' aP:=⟨_,rfl⟩;rw[<-hRR];have key:∀w',aE w w' aP->RR (.tuple #[rhV (iA (aM b)).1,.int .i64 (iA (aM b)).2]) w':=λw' h2=>by rw[hRR];exact⟨rfl,h2⟩
 unfold aEv akM akL;refine yV λw1 o1 x1 s1=> ?_;refine yV λw2 o2 x2 s2=> ?_;have z1:=x1.size;obtain⟨p,hp⟩:∃p,p=w.heap.size:=⟨_,rfl⟩;obtain⟨q,hq⟩:∃q,q=w1.heap.size:=⟨_,rfl⟩;rw[<-hp]at o1⊢;rw[<-hq]at o2⊢;have l1:=o1.lt;have hne:p≠q:=by omega
 have o12:=o1.ext x2 (λh=>h);have x02:=x1.seq x2;have hsz:=aI b;cases hl:aM b with
 |nil=>
  rw[hl]at key;have hbe:b=⟨#[]⟩:=Fs (by rw[hl]<;>rfl);subst hbe;have l:=wR (off:=0) o2 (by simp);simp only[a1F,a1C,a1G]at l;simp(disch:=omega)only[SV,oI,Vy,l];refine lD o12 rfl (by simp[one]) (by simp) λw3 o3 x3 s3=> ?_;refine qG o3 (by simp[aF]) ?_;simp only[aF,a1E,a1D,a1F,a1C,a1G];exact key w3 (x02.trans x3 λy hy h=>by omega)
 |cons x0 rs=>
  rw[hl]at key hsz;rw[a1U]at hsz;have hen:=ZM (x:=b) (by omega);have hx0:x0.toNat<256:=a2D x0;have g0:(b[0]'(by omega)).toNat=x0.toNat:=by
   have:=Fq b 0 (by omega);rw[this];simp only[hl,a3Z]
  have t0:(0:Int).toNat=0:=rfl;obtain⟨kd,hkd⟩:∃kd,kd=x0.toNat%4:=⟨_,rfl⟩;obtain⟨fm,hfm⟩:∃fm,fm=x0.toNat/4%4:=⟨_,rfl⟩;have f1:((x0.toNat:Int)).tmod 4=(kd:Int):=by rw[a2B (by omega)];omega
  have f2:((x0.toNat:Int)).tdiv 4=((x0.toNat/4:Nat):Int):=by rw[a1R (by omega)];omega
  have f3:(((x0.toNat/4:Nat):Int)).tmod 4=(fm:Int):=by rw[a2B (by omega)];omega
  have hkd4:kd<4:=by omega
  have hfm4:fm<4:=by omega
  have tf:(fm:Int).toNat=fm:=a1H _
  have mid:∀(W:Nat) (w4:a7B),aT w4 q [.int .u64 kd,.int .u64 fm,.int .i64 (eK kd fm:Nat),.int .u64 0,.int .u64 0]->aE w2 w4 (λy=>y=q)->(2<=kd->W=2^aaC fm)→
      BH RR (.string b) (.pointer (some ⟨p,0,none⟩)) (.pointer (some ⟨q,0,none⟩)) (.int .u64 W) w4:=by
   intro W w4 o4 x4 hW;refine aOr hl hkd hfm o4 (o12.ext x4 hne) rfl hne hW λw5 x5=>key w5 ?_;exact(x02.trans x4 λy hy h=>by omega).trans x5 λy hy h=>by omega
  simp(disch:=omega)only[SV,oI,hen,t0,g0,f1,f2,f3];refine jK o2 rfl (by simp) λw3 o3 x3 s3=> ?_;simp only[a1E,a1D]at o3
  try simp(disch:=omega)only[SV,oI,hen,t0,g0,f1,f2,f3]
  refine jK o3 rfl (by simp) λw4 o4 x4 s4=> ?_;simp only[a1E,a1D]at o4;have k0:=o4.cell (off:=0);simp only[a1A]at k0;have x24:=x3.seq x4;by_cases hk2:kd<2
  .have d1:decide ((kd:Int)<2)=true:=decide_eq_true (by omega);simp(disch:=omega)only[SV,k0,d1];refine pD (cells:= #[.int .i64 1,.int .i64 2,.int .i64 1,.int .i64 3]) (by decide) (by decide) (by kernel_rfl) λw5 o5 x5 s5=> ?_;have o45:=o4.ext x5 (λh=>h);have k1:=o45.cell (off:=1);simp only[a1A,a1B]at k1;have kf:=o5.cell (off:=fm);have kf2:([.int .i64 1,.int .i64 2,.int .i64 1,.int .i64 3]:List a7C)[fm]?=some (.int .i64 (eK kd fm:Nat)):=by
    unfold eK;rw[if_pos hk2];rcases(show fm=0∨fm=1∨fm=2∨fm=3 by omega)with h|h|h|h<;>(rw[h]<;>rfl)
   have kf:w5.cell? ⟨w4.heap.size,fm,none⟩=some (.int .i64 (eK kd fm:Nat)):=kf.trans kf2;simp(disch:=omega)only[SV,k1,tf,kf,a2Z,a1Q];refine eZ o45 rfl (by simp) λw6 o6 x6 s6=> ?_;simp only[a1E,a1D]at o6;exact mid 1024 w6 o6 ((x24.seq (x5.mono λ_ _ h=>h.elim)).seq x6) (λh=>by omega)
  .have d1:decide ((kd:Int)<2)=false:=decide_eq_false (by omega);simp(disch:=omega)only[SV,k0,d1];refine pD (cells:= #[.int .i64 3,.int .i64 3,.int .i64 4,.int .i64 5]) (by decide) (by decide) (by kernel_rfl) λw5 o5 x5 s5=> ?_;have o45:=o4.ext x5 (λh=>h);have k1:=o45.cell (off:=1);simp only[a1A,a1B]at k1;have kf:=o5.cell (off:=fm);have kf2:([.int .i64 3,.int .i64 3,.int .i64 4,.int .i64 5]:List a7C)[fm]?=some (.int .i64 (eK kd fm:Nat)):=by
    unfold eK;rw[if_neg hk2];rcases(show fm=0∨fm=1∨fm=2∨fm=3 by omega)with h|h|h|h<;>(rw[h]<;>rfl)
   have kf:w5.cell? ⟨w4.heap.size,fm,none⟩=some (.int .i64 (eK kd fm:Nat)):=kf.trans kf2;simp(disch:=omega)only[SV,k1,tf,kf,a2Z,a1Q];refine eZ o45 rfl (by simp) λw6 o6 x6 s6=> ?_;simp only[a1E,a1D]at o6;refine aqN (cells:= #[.int .u64 1024,.int .u64 1024,.int .u64 16384,.int .u64 262144]) (by decide) (by decide) (by kernel_rfl) λw7 o7 x7 s7=> ?_;have o67:=o6.ext x7 (λh=>h);have k7:=o67.cell (off:=1);simp only[a1A,a1B]at k7;have kg:=o7.cell (off:=fm);have kg2:([.int .u64 1024,.int .u64 1024,.int .u64 16384,.int .u64 262144]:List a7C)[fm]?=some (.int .u64 (2^aaC fm:Nat)):=by
    unfold aaC;rcases(show fm=0∨fm=1∨fm=2∨fm=3 by omega)with h|h|h|h<;>(rw[h]<;>rfl)
   have kg:w7.cell? ⟨w6.heap.size,fm,none⟩=some (.int .u64 (2^aaC fm:Nat)):=kg.trans kg2;simp(disch:=omega)only[SV,k7,tf,kg,a2Z,a1Q];exact mid (2^aaC fm) w7 o67 (((x24.seq (x5.mono λ_ _ h=>h.elim)).seq x6).seq (x7.mono λ_ _ h=>h.elim)) (λh=>rfl)
def RBh(w:a7B)(lo hi:Nat)(b:a7C)(B:List Bool)(left:Int):Prop:=RB w lo hi b (B.take left.toNat) (-left).toNat
theorem RBh.ext {w':a7B}{M:Nat->Prop}(h:RBh w lo hi b B left)(x:aE w w' M)(hM:∀b,lo<=b->b<hi->¬M b):RBh w' lo hi b B left:=RB.ext h x hM
theorem RBh.form (h:RBh w lo hi b B left):∃a k c i,b= .agg #[.slice a k c,.int .i64 i]:=by
 obtain⟨v,rfl,hs,_⟩:=h;obtain⟨a,c,rfl,_⟩:=Dh hs;exact⟨_,_,_,_,rfl⟩
theorem RBh.step (hl:left<=B.length)
 (h:RB w lo hi b ((B.take left.toNat).take ((B.take left.toNat).length-min n (B.take left.toNat).length)) ((-left).toNat+(n-min n (B.take left.toNat).length))):RBh w lo hi b B (left-n):=by
 have hlen:(B.take left.toNat).length=left.toNat:=by rw[a1N];omega
 rw[hlen,a5R]at h;have e1:min (left.toNat-min n left.toNat) left.toNat=(left-n).toNat:=by omega
 have e2:(-left).toNat+(n-min n left.toNat)=(-(left-n)).toNat:=by omega
 rw[e1,e2]at h;exact h
theorem aRQ(h:RBh w lo hi b B left)(hn:n<=56)(hl:left<=B.length)(hB:B.length<=10000000)(hk: -1000000000<=left):
 aL pg DQ #[b,.int .i64 n] w (λr w'=>∃b',r= .tuple #[b',.int .u64 (B6 B left n:Nat)]/\RBh w' lo hi b' B (left-n)/\aE w w' aP):=by
 have hlen:(B.take left.toNat).length<=10000000:=by rw[a1N];omega
 refine(afW h hn hlen (by omega)).mono ?_;rintro r w1 ⟨b',rfl,h1,x1⟩;exact⟨b',rfl,RBh.step hl h1,x1⟩
theorem aVy{cb cap m:Nat}{C:List (Nat×Nat)}{rest:List a7C}{bv:a7C}(hF:amC C m)(hm:m<=11)(hC:C.length<=256)(oc:aT w cb (cc C++rest))(h:RBh w lo hi bv B left)(hhi:hi<=w.heap.size)(hl:left<=B.length)(hB:B.length<=10000000)(hk: -100000000<=left):
 aL pg Zh #[.slice (some ⟨cb,0,none⟩) C.length cap,bv] w (λr w'=>∃b',r= .tuple #[b',.int .u8 (Gr C m (B6 B left m):Nat)]/\RBh w' lo hi b' B (left-bitsOf C (Gr C m (B6 B left m)))/\aE w w' aP):=by
 refine aEu ?_;obtain⟨RR,hRR⟩:∃RR:a7C->a7B->Prop,RR=λr w'=>∃b',r= .tuple #[b',.int .u8 (Gr C m (B6 B left m):Nat)]/\RBh w' lo hi b' B (left-bitsOf C (Gr C m (B6 B left m)))/\aE w w' aP:=⟨_,rfl⟩;rw[<-hRR];have hX:=OD B left m;have hhit:=aAr hF hX;obtain⟨bs,c0,hsy,hbs0,hc0⟩:=TS.1 hhit;have hun:∀s,GH C m (B6 B left m) s=true->Gr C m (B6 B left m)=s:=λs hs=>aKv hF hX hs;generalize hsye:Gr C m (B6 B left m)=sy at*;have hbo:=aFP hsy;rw[hbo]at hRR;have hsyl:=(a4N.1 hsy).1;have hbm:=(hF.le sy bs c0 hsy).1;have hdiv:∀b,b<=m->B6 B left m/2^(m-b)=B6 B left b:=λb hb=>(aNL hl hb).1;rw[hdiv bs hbm]at hc0;unfold aGr akJ akI;have hz:=oc.lt;refine bY λw1 o1 x1 s1=> ?_;refine bM λw2 o2 x2 s2=> ?_;have z1:=x1.size;obtain⟨p3,hp3⟩:∃p,p=w.heap.size:=⟨_,rfl⟩;obtain⟨p4,hp4⟩:∃p,p=w1.heap.size:=⟨_,rfl⟩;rw[<-hp3]at o1⊢;rw[<-hp4]at o2⊢;have x02:=x1.seq x2;have oc2:=oc.ext x02 (λh=>h);unfold SC SB akH IL;refine aN.rule (λk (t:a7C×a7C) w'=>∃(bits:Nat) (bv':a7C),k=12-bits/\t=(.int .i64 (B6 B left (bits-1):Nat),.int .i64 (bits:Nat))/\1<=bits/\bits<=bs/\aT w' p3 bv'.cells.toList/\RBh w' lo hi bv' B (left-(bits-1:Nat))/\aE w2 w' (λy=>y=p3)) 11
  ⟨1,bv,rfl, ?_,by omega,by omega,o1.ext x2 (λh=>h), ?_,aE.refl _ _⟩ ?_
 .have:B6 B left (1-1)=0:=by have:=OD B left 0;simpa using this
  rw[this]<;>rfl
 .have e:left-((1-1:Nat):Int)=left:=by omega
  rw[e];exact h.ext x02 (λ_ _ _ h=>h)
 rintro k t w3 ⟨bits,bv',rfl,rfl,hb1,hbb,o3,h3,x3⟩;have z2:=x2.size;have z3:=x3.size;unfold akG akF;have d1:decide ((bits:Int)<=11)=true:=by simp;omega
 simp(disch:=omega)only[SV,d1];unfold Wg Wf avC;obtain⟨a',k',c',i',rfl⟩:=h3.form;have o3:aT w3 p3 [.slice a' k' c',.int .i64 i']:=o3;have q3:=aQ (off:=0) o3 (by simp);simp only[a1F,a1C,a1G]at q3;have q3:(cK 128 (.pointer (some ⟨p3,0,none⟩))).run pg w3= .ok (.value (.agg #[.slice a' k' c',.int .i64 i'])) w3:=q3;simp(disch:=omega)only[SV,q3];refine(aRQ (n:=1) h3 (by omega) (by omega) hB (by omega)).mono ?_;rintro r w4 ⟨b4,rfl,h4,x4⟩;have z4:=x4.size;obtain⟨a4,k4,c4,i4,rfl⟩:=h4.form;simp(disch:=omega)only[SV];refine bM λw5 o5 x5 s5=> ?_;refine aJ o5 rfl (by simp[one]) (by simp) λw6 o6 x6 s6=> ?_;simp only[aF,a1E,a1D]at o6;have q6:=aQ (off:=0) o6 (by simp);simp only[a1F,a1C,a1G]at q6;have x46:aE w4 w6 aP:=x5.new x6 (by omega);have x36:=x4.seq x46;have o36:=o3.ext x36 (λh=>h);simp(disch:=omega)only[SV,q6];refine aJ o36 rfl (by simp[one]) (by simp) λw7 o7 x7 s7=> ?_;simp only[aF,a1E,a1D]at o7;have l1:=o1.lt;have h7:=(h4.ext x46 (λ_ _ _ h=>h)).ext x7 (λb h1 h2 h3=>by omega);have x27:aE w2 w7 (λy=>y=p3):=(x3.seq (x36.mono λ_ _ h=>h.elim)).seq x7;have o72:=o2.ext x27 (by omega);have ocr:=oc2.ext x27 (by omega);have hadd:=aHF (B:=B) (left:=left) (bits-1) 1 hl;rw[show bits-1+1=bits from by omega,show(2:Nat)^1=2 from rfl]at hadd;have r1:=OD B (left-(bits-1:Nat)) 1;have r2:=OD B left (bits-1);have hp:2^(bits-1)<=2^11:=a1K (by omega) (by omega);have e1:IntKind.i64.wrap ((B6 B (left-(bits-1:Nat)) 1:Nat):Int)=((B6 B (left-(bits-1:Nat)) 1:Nat):Int):=dM (by omega) (by omega);have e2:((B6 B left (bits-1):Nat):Int)*2+((B6 B (left-(bits-1:Nat)) 1:Nat):Int)=((B6 B left bits:Nat):Int):=by omega
 have rb:=OD B left bits;have hpb:2^bits<=2^11:=a1K (by omega) (by omega);simp(disch:=omega)only[SV,e1,e2];have hl7:left-((bits-1:Nat):Int)-((1:Nat):Int)=left-(bits:Nat):=by omega
 rw[hl7]at h7;unfold Mh;refine aN.rule (λk (t:a7C) w'=>∃s:Nat,k=C.length-s/\t= .int .i64 s/\s<=C.length/\(bits=bs->s<=sy)/\w'=w7) C.length
  ⟨0,rfl,rfl,by omega,by omega,rfl⟩ ?_
 rintro k t w8 ⟨s,rfl,rfl,hs,hsb,rfl⟩;unfold avB;by_cases hlt:s<C.length
 .have d2:decide ((s:Int)<(C.length:Int))=true:=by simp;omega
  have ts:(s:Int).toNat=s:=a1H _;have g:=aQx hlt;have hcl:=Dj C;have g0:=ocr.cell (off:=s*2);rw[a1V (by omega),g.1]at g0;have g1:=ocr.cell (off:=s*2+1);rw[a1V (by omega),g.2]at g1;have hse:C[s]?=some C[s]:=a1I hlt;generalize C[s]=e at*;obtain⟨b,c⟩:=e;simp only at g0 g1;by_cases hbe:b=bits
  .have d3:((b:Int)==(bits:Int))=true:=by simp[hbe]
   by_cases hce:c=B6 B left bits
   .have d4:((c:Int)==((B6 B left bits:Nat):Int))=true:=by simp[hce]
    have hit:GH C m (B6 B left m) s=true:=by
     rw[TS];refine⟨b,c,hse,by omega, ?_⟩;rw[hdiv b (by omega),hbe,hce]
    have hss:sy=s:=hun s hit;have hbb2:bs=bits:=by
     rw[hss,hse]at hsy;have:=a1Z hsy;cases this;exact hbe
    have q7:=aQ (off:=0) o7 (by simp);simp only[a1F,a1C,a1G]at q7;have w8e:IntKind.u8.wrap (s:Int)=s:=aFA (by omega) (by omega);simp(disch:=omega)only[SV,d2,ts,g0,g1,d3,d4,q7,w8e,a1Q];refine aJ o72 rfl (by simp[one]) (by simp) λw9 o9 x9 s9=> ?_;refine cR o9 (by simp[aF]) ?_;simp only[aF,a1E,a1D,a1F,a1C,a1G];rw[hRR];have l2:=o2.lt;refine⟨_,by rw[hss], ?_,(x02.trans x27 λy hy h=>by omega).trans x9 λy hy h=>by omega⟩;rw[hbb2];exact h7.ext x9 (λb h1 h2 h3=>by omega)
   .have d4:((c:Int)==((B6 B left bits:Nat):Int))=false:=beq_eq_false_iff_ne.2 (by omega);simp(disch:=omega)only[SV,d2,ts,g0,g1,d3,d4,a1Q];refine⟨C.length-(s+1),by omega,s+1,rfl,by simp,by omega,λhbq=> ?_⟩;have:=hsb hbq;rcases a1Y s sy with h9|h9
    .omega
    .exfalso;obtain rfl:s=sy:=by omega
     rw[hse]at hsy;cases a1Z hsy;exact hce (by rw[<-hbe];exact hc0.symm)
  .have d3:((b:Int)==(bits:Int))=false:=beq_eq_false_iff_ne.2 (by omega);simp(disch:=omega)only[SV,d2,ts,g0,g1,d3,a1Q];refine⟨C.length-(s+1),by omega,s+1,rfl,by simp,by omega,λhbq=> ?_⟩;have:=hsb hbq;rcases a1Y s sy with h9|h9
   .omega
   .exfalso;obtain rfl:s=sy:=by omega
    rw[hse]at hsy;cases a1Z hsy;exact hbe hbq.symm
 .have d2:decide ((s:Int)<(C.length:Int))=false:=by simp;omega
  have hne:bits<bs:=by
   rcases a1Y bits bs with h9|h9
   .exact h9
   .have:=hsb (by omega);omega
  have e3:(bits:Int)+1=((bits+1:Nat):Int):=by omega
  simp(disch:=omega)only[SV,d2];unfold We;simp(disch:=omega)only[SV,e3];refine⟨12-(bits+1),by omega,bits+1,.agg #[.slice a4 k4 c4,.int .i64 i4],rfl,rfl,by omega,by omega,o7, ?_,x27⟩;exact h7
end Go.Proofs.YthohephggmkeeaaGreatDoor
namespace Go.Pu
open Go Go.En
def arS(b:List Nat)(i:Nat):Nat:=if i%2=0 then b.getD (i/2) 0/16 else b.getD (i/2) 0%16
def hZ(b:List Nat)(n:Nat):List Nat:=(List.range n).map (arS b)
theorem Fl(b:List Nat)(n:Nat):(hZ b n).length=n:=by simp[hZ]
theorem arT(b:List Nat)(n:Nat):hZ b (n+1)=hZ b n++[arS b n]:=by
 unfold hZ;rw[a5Y,a2I]<;>rfl
theorem aI4 {b:List Nat}(h:∀x∈b,x<256)(i:Nat):arS b i<16:=by
 unfold arS;have:b.getD (i/2) 0<256:=by
  rcases a1Y (i/2) b.length with hi|hi
  .exact h _ (rK hi)
  .rw [a1P,a1X hi];decide
 split<;>omega
theorem amU{b:List Nat}(h:∀x∈b,x<256)(n:Nat):∀x∈hZ b n,x<16:=λx hx=>by
 obtain⟨i,_,rfl⟩:=a4J.1 hx;exact aI4 h i
end Go.Pu
namespace Go.Proofs.YthohephggmkeeaaGreatDoor
open Go Go.En Go.Pu
set_option maxRecDepth 4000
variable{L:List T3}{R:a7C->a7B->Prop}{b hi i lo log n p8 x:Nat}{l:List UInt8}{m:List Nat}{rest:List a7C}{v:a7C}{w:a7B}
abbrev lI(m:List Nat):List UInt8:=m.map UInt8.ofNat
theorem ayS(h:∀x∈m,x<256):bL (lI m)=m:=by
 unfold bL lI;rw[List.map_map]
 conv=>rhs;rw[<-List.map_id m]
 apply a2Y;intro x hx;show(UInt8.ofNat x).toNat=x;exact a5U (h x hx)
theorem aKU(h:x<256):kH (UInt8.ofNat x)= .int .u8 (x:Nat):=by
 unfold kH;rw[a5U h]
theorem aXo(h:x<256):yK .u8 (x:Int) 15=((x%16:Nat):Int):=by
 have:∀k:Fin 256,yK .u8 (k.val:Int) 15=((k.val%16:Nat):Int):=by decide+kernel
 exact this ⟨x,h⟩
theorem aAS{base c:Nat}{bv t15 t16 v':a7C}{cells:List a7C}(o:mH w base 1 v' i cells)(hb:base<=w.heap.size)(hi:i<=100000)(hc:c<256){kn:a7C->a7C->a7C->a7C->a7B->Prop}
 (hK:∀v2 w2,mH w2 base 1 v2 (i+1) (cells++[.int .u8 (c%16:Nat)])->aE w w2 (λy=>base<=y)->kn bv v2 t15 t16 w2):yC kn bv v' (.int .u8 c) t15 t16 w:=by
 unfold yC;have e6:=aXo (x:=c) hc;obtain⟨av,cv,rfl⟩:=o.len;simp(disch:=omega)only[SV,e6];refine mO (cells:= #[.int .u8 (c%16:Nat)]) (by decide) (by decide) (by kernel_rfl) λw5 o5 x5 s5=> ?_;have z5:=x5.size;refine mM (m:=1) (news:=[.int .u8 (c%16:Nat)]) (o.ext x5 (λ_ _ h=>h)) (o5.cl (off:=0) (l:=[.int .u8 (c%16:Nat)]) (n:=1) rfl (λi hi=>by rw[a1Q])) (by simp[one]) (by omega) (by omega) λv6 w6 o6 x6=> ?_;exact hK v6 w6 o6 ((x5.mono λ_ _ h=>h.elim).seq x6)
theorem aQR(h:Bs w v l)(hl:l.length<=100000)(hn:n<=100000):
 aL pg Hv #[v,.int .i64 n] w (λr w'=>((l.length<(n+1)/2/\r= .tuple #[.slice none 0 0,.int .i64 10])∨
  ((n+1)/2<=l.length/\∃v',r= .tuple #[v',.int .i64 0]/\mH w' w.heap.size 1 v' n ((lI (hZ (bL l) n)).map kH)))/\aE w w' aP):=by
 refine agY ?_;obtain⟨a,n',c,rfl,hn',hc,hh⟩:=id h;rw[a1M]at hn';subst hn';have e1:(n:Int)+1=((n+1:Nat):Int):=by omega
 have e2:((n+1:Nat):Int).tdiv 2=(((n+1)/2:Nat):Int):=by rw[a1R (by omega)];omega
 unfold aeX PY PX;by_cases hsh:l.length<(n+1)/2
 .have d1:decide ((l.length:Int)<(((n+1)/2:Nat):Int))=true:=by simp only[decide_eq_true_eq];omega
  simp(disch:=omega)only[SV,e1,e2,d1];exact⟨.inl hsh,aE.refl _ _⟩
 have d1:decide ((l.length:Int)<(((n+1)/2:Nat):Int))=false:=by simp only[decide_eq_false_iff_not];omega
 simp(disch:=omega)only[SV,e1,e2,d1];unfold Dc Db PW vD;refine aN.rule (λm (t:a7C×a7C) w'=>∃(i:Nat) (v':a7C),m=n-i/\t=(v',.int .i64 i)/\i<=n/\mH w' w.heap.size 1 v' i ((lI (hZ (bL l) i)).map kH)/\aE w w' aP) n
  ⟨0,_,rfl,rfl,by omega,mH.nil _ _ _,aE.refl _ _⟩ ?_
 rintro m t w1 ⟨i,v',rfl,rfl,hi,o1,x1⟩;unfold Rg Rf;by_cases hlt:i<n
 .have d2:decide ((i:Int)<(n:Int))=true:=by simp;omega
  obtain⟨b,off,rfl,hcell⟩:=slA (h.ext x1 (aR _)) (by omega);have e3:(i:Int).tdiv 2=((i/2:Nat):Int):=by rw[a1R (by omega)];omega
  have e4:(i:Int).tmod 2=((i%2:Nat):Int):=by rw[a2B (by omega)];omega
  have hi2:i/2<l.length:=by omega
  have g1:=hcell (i/2) hi2;rw[a2F,a1I hi2]at g1;simp only[a2Q,kH]at g1;have hgd:=aRh hi2;have hs:=arT (bL l) i;have hf:arS (bL l) i=if i%2=0 then(bL l).getD (i/2) 0/16 else(bL l).getD (i/2) 0%16:=rfl
  rw[hgd]at hf;have hx:(l[i/2]).toNat<256:=a2D _;have hf16:=aI4 (QS l) i;generalize(l[i/2]).toNat=x at*;generalize arS (bL l) i=y at*;have z1:=x1.size;have hy:kH (UInt8.ofNat y)= .int .u8 (y:Nat):=aKU (by omega);have hcells:∀c:Nat,c%16=y->((lI (hZ (bL l) i)).map kH++[.int .u8 (c%16:Nat)])=(lI (hZ (bL l) (i+1))).map kH:=λc hc=>by
   rw[hs,hc];simp only[lI,a2I,a4D,a6Y,hy]
  unfold GB GA Re;by_cases hev:i%2=0
  .have n2:(((i%2:Nat):Int)==0)=true:=by rw[hev]<;>rfl
   rw[if_pos hev]at hf;have e5:(x:Int).fdiv (2^(min 4 IntKind.u8.bits))=((x/16:Nat):Int):=by
    rw[show min 4 IntKind.u8.bits=4 from rfl,a3A _ (by omega)];omega
   have t4:(4:Int).toNat=4:=rfl;simp(disch:=omega)only[SV,d2,e3,g1,e4,n2,t4,e5];refine aAS (c:=x/16) o1 (by omega) (by omega) (by omega) λv2 w2 o2 x2=> ?_;rw[hcells _ (by omega)]at o2;unfold yB;simp(disch:=omega)only[SV];exact⟨n-(i+1),by omega,i+1,_,rfl,rfl,by omega,o2,x1.trans x2 λb hb h=>by omega⟩
  .have n2:(((i%2:Nat):Int)==0)=false:=beq_eq_false_iff_ne.2 (by omega);rw[if_neg hev]at hf;simp(disch:=omega)only[SV,d2,e3,g1,e4,n2];refine aAS (c:=x) o1 (by omega) (by omega) (by omega) λv2 w2 o2 x2=> ?_;rw[hcells _ (by omega)]at o2;unfold yB;simp(disch:=omega)only[SV];exact⟨n-(i+1),by omega,i+1,_,rfl,rfl,by omega,o2,x1.trans x2 λb hb h=>by omega⟩
 .have d2:decide ((i:Int)<(n:Int))=false:=by simp;omega
  obtain rfl:i=n:=by omega
  unfold Gz;simp(disch:=omega)only[SV,d2];exact⟨.inr ⟨by omega,v',rfl,o1⟩,x1⟩
def Mt(w:a7B)(base:Nat)(h:Nat)(rest:List UInt8)(r:a7C):Prop:=
 if rest.length<(h-127+1)/2 then r= .tuple #[.slice none 0 0,.int .i64 0,.int .i64 10]
 else match sJ (hZ (bL rest) (h-127))with
  |none=>r= .tuple #[.slice none 0 0,.int .i64 0,.int .i64 11]
  |some k=>∃v,r= .tuple #[v,.int .i64 (1+(h-127+1)/2:Nat),.int .i64 0]/\mH w base 1 v (h-127+1) ((lI (hZ (bL rest) (h-127))++[UInt8.ofNat k]).map kH)
theorem aHG{h:Nat}{rest:List UInt8}(hb:Bs w v l)(hle:l=UInt8.ofNat h::rest)(hh:128<=h)(hh2:h<256)(hl:rest.length<=100000):
 aL pg DW #[v] w (λr w'=>Mt w' w.heap.size h rest r/\aE w w' aP):=by
 refine Gy ?_;obtain⟨RR,hRR⟩:∃RR:a7C->a7B->Prop,RR=λr w'=>Mt w' w.heap.size h rest r/\aE w w' aP:=⟨_,rfl⟩;rw[<-hRR];have key:∀r w',Mt w' w.heap.size h rest r->aE w w' aP->RR r w':=λr w' h1 h2=>by rw[hRR];exact⟨h1,h2⟩
 have hll:l.length=rest.length+1:=by rw[hle]<;>rfl
 obtain⟨b,off,c,rfl,hc,hcell⟩:=Vs hb (by omega);have g0:=hcell 0 (by omega);have hl0:(l[0]'(by omega)).toNat=h:=by
  subst hle;exact a5U hh2
 rw[hl0]at g0;have hsub:=hb.drop' (k:=1) (by omega);rw[<-a3M]at hsub;have hdr:l.drop 1=rest:=by rw[hle]<;>rfl
 rw[hdr,hll]at hsub;have n0:((l.length:Int)==0)=false:=beq_eq_false_iff_ne.2 (by omega);have d1:decide ((128:Int)<=(h:Int))=true:=by simp;omega
 have e1:(h:Int)-128=((h-128:Nat):Int):=by omega
 have e2:((h-128:Nat):Int)+2=((h-126:Nat):Int):=by omega
 have e3:((h-126:Nat):Int).tdiv 2=(((h-127+1)/2:Nat):Int):=by rw[a1R (by omega)];omega
 have e4:((h-128:Nat):Int)+1=((h-127:Nat):Int):=by omega
 have t0:(0:Int).toNat=0:=rfl;have t1:(1:Int).toNat=1:=rfl;unfold Mm CE CD;simp(disch:=omega)only[SV,n0,g0,t0,t1,d1,e1,e2,e3,e4];rw[hll];refine(aQR hsub (by omega) (by omega)).mono ?_;rintro r w1 ⟨⟨hsh,rfl⟩|⟨hsh,v1,rfl,o1⟩,x1⟩
 .have n1:((10:Int) !=0)=true:=rfl;unfold kO;simp(disch:=omega)only[SV,n1];refine key _ _ ?_ x1;unfold Mt;rw[if_pos hsh]
 .have n1:((0:Int) !=0)=false:=rfl;have hlt:∀x∈hZ (bL rest) (h-127),x<256:=λx hx=>by have:=amU (QS rest) _ x hx;omega
  have hbs:Bs w1 v1 (lI (hZ (bL rest) (h-127))):=o1.sl;have z1:=x1.size;obtain⟨av,cv,rfl⟩:=o1.len;unfold kO;simp(disch:=omega)only[SV,n1];refine(aNX hbs (by simp[Fl];omega)).mono ?_;rintro r w2 ⟨hwo,x2⟩;rw[ayS hlt]at hwo;cases hw:sJ (hZ (bL rest) (h-127))with
  |none=>
   rw[hw]at hwo;obtain rfl:=hwo;have n2:((11:Int) !=0)=true:=rfl;simp(disch:=omega)only[SV,n2];refine key _ _ ?_ (x1.seq x2);unfold Mt;rw[if_neg (by omega),hw]
  |some k=>
   rw[hw]at hwo;obtain⟨v2,rfl,o2⟩:=hwo;have e5:(1:Int)+(((h-127+1)/2:Nat):Int)=((1+(h-127+1)/2:Nat):Int):=by omega
   have hlen:(lI (hZ (bL rest) (h-127))).length=h-127:=by simp[Fl]
   rw[hlen]at o2;simp(disch:=omega)only[SV,n1,e5];refine key _ _ ?_ (x1.seq x2);unfold Mt;rw[if_neg (by omega),hw];refine⟨v2,rfl,o2.1, ?_⟩;rcases o2.2 with h|⟨b,c,rest',q1,q2,q3⟩
   .exact .inl h
   .exact .inr ⟨b,c,rest',q1,by omega,q3⟩
def jM(L:List T3)(s:Nat):Nat:=match L[s]? with|some e=>e.1.toNat|none=>0
def stN(L:List T3)(B:List Bool):Nat->Nat->Nat->Nat->List Nat->Option (List Nat)
 |0,_,_,_,_=>none
 |f+1,a,b,left,out=>
  if left<cM L a then(if 255<out.length+2 then none else some (out++[jM L a,jM L b]))
  else stN L B f b (oH L a (iI (B.take left) (cM L a))).toNat (left-cM L a) (out++[jM L a])
structure Vld(L:List T3):Prop where
 low:Low L
 sy:∀e∈L,0<=e.1/\e.1<256
 nx:∀s:Nat,s<L.length->∀x:Nat,x<2^cM L s->0<=oH L s x/\(oH L s x).toNat<L.length
 len:L.length<=32768
theorem amI{ps:List Int}(hm:May log ps):Vld (fL log ps):=by
 have hl:=eN log ps;have h15:=hm.log15;have hp:2^log<=2^15:=a1K (by omega) h15;refine⟨aDa hm,aN9 hm,λs hs x hx=> ?_,by omega⟩;rw[hl]at hs⊢;obtain⟨sy,hsy,h1,h2,h3,h4,h5⟩:=anD hm (C9 hm 0) hs;have hat:=axN (ps:=ps) hs;have hb:cM (fL log ps) s=log+1-bl (kAt ps (eE 0 log ps) s):=by
  unfold cM;rw[if_pos (by omega),a1H,hat];simp[Nu,Dx]
 have hn:oH (fL log ps) s x=((kAt ps (eE 0 log ps) s*2^(log+1-bl (kAt ps (eE 0 log ps) s)):Nat):Int)-2^log+x:=by
  unfold oH;rw[if_pos (by omega),a1H,hat];simp[Nu,Dx]
 rw[hb]at hx;rw[hn];have hk:kAt ps (eE 0 log ps) s<2^(log+1):=by rw[h4,a2O];omega
 have hk1:1<=kAt ps (eE 0 log ps) s:=by rw[h4];omega
 obtain⟨q1,q2,q3,q4⟩:=aDl hk1 hk;generalize kAt ps (eE 0 log ps) s=k at*;generalize log+1-bl k=n at*;rw[a3D,a5J,a2O]at q2;have hpow:((2^log:Nat):Int)=(2:Int)^log:=by simp
 rw[<-hpow];generalize k*2^n=q at*;generalize 2^n=r at*;generalize 2^log=N at*;omega
abbrev u8s (m:List Nat):List a7C:=m.map λ(x:Nat)=>Value.int .u8 x
theorem aeS(h:∀x∈m,x<256):(lI m).map kH=u8s m:=by
 show List.map kH (m.map UInt8.ofNat)=_;rw[List.map_map];exact a2Y λx hx=>aKU (h x hx)
theorem PN(h:Vld L)(s:Nat):jM L s<256:=by
 unfold jM;cases hs:L[s]? with
 |none=>simp
 |some e=>have:=h.sy e (a3E hs);simp only;omega
theorem aL9 {B:List Bool}(h:Vld L):∀{f a b left:Nat} {out m:List Nat},stN L B f a b left out=some m->(∀x∈out,x<256)->(∀x∈m,x<256)/\m.length<=255
 |0,_,_,_,_,_,e,_=>by cases e
 |f+1,a,b,left,out,m,e,ho=>by
  rw[stN]at e;split at e
  .split at e
   .cases e
   .cases e;refine⟨λx hx=> ?_,by rw[a1O];simp;omega⟩;rcases a2X.1 hx with hx|hx
    .exact ho x hx
    .simp only[a3C,List.not_mem_nil,or_false]at hx;rcases hx with rfl|rfl
     .exact PN h a
     .exact PN h b
  .refine aL9 h e λx hx=> ?_;rcases a2X.1 hx with hx|hx
   .exact ho x hx
   .rw [a3W.1 hx];exact PN h a
theorem aIH{base px:Nat}{cells:List a7C}(o:BR w (λb=>base<=b/\b≠px) 1 v i cells)(hb:base<=w.heap.size)(hp:px<w.heap.size)(hi:i<=1000000){K:a7C->a7B->Prop}
 (hK:∀v2 w2,BR w2 (λb=>base<=b/\b≠px) 1 v2 (i+1) (cells++[.int .u8 x])->aE w w2 (λy=>base<=y/\y≠px)->K v2 w2):
 bF pg (fX 22 1 [(0,.int .u8 x)]) w λt w=>bF pg (yM .append #[22,22] 22 [v,t]) w λt' w=>K t' w:=by
 refine mO (cells:= #[.int .u8 x]) (by decide) (by decide) (by kernel_rfl) λw5 o5 x5 s5=> ?_;have z5:=x5.size;refine Q9 (m:=1) (news:=[.int .u8 x]) (i:=Tryz.t5) Tryz.underlying22 Tryz.underlying22 T2 rfl rfl rfl (o.ext x5 (λ_ _ h=>h)) (o5.cl (off:=0) (l:=[.int .u8 x]) (n:=1) rfl (λi hi=>by rw[a1Q])) (by simp[one]) (λb hb=>⟨by omega,by omega⟩) (by omega) (by rw[show Tryz.t5.bytes=1 from rfl];omega) (by decide) λv6 w6 o6 x6=> ?_;exact hK v6 w6 o6 ((x5.mono λ_ _ h=>h.elim).seq x6)
theorem aG2 (h:Vld L){s:Nat}(hs:s<L.length):∃bs:Int,L[s]=((jM L s:Int),(cM L s:Int),bs):=by
 have hsome:L[s]?=some L[s]:=a1I hs;obtain⟨n,hn,hn2,_,_⟩:=h.low _ (a2P hs);have hsy:=h.sy _ (a2P hs);refine⟨L[s].2.2, ?_⟩;have e1:cM L s=n:=by unfold cM;simp[hsome,hn]
 have e2:((jM L s:Nat):Int)=L[s].1:=by unfold jM;simp only[hsome];omega
 rw[e1,e2,<-hn]
def two(i a b:Nat):List a7C:=if i%2=0 then[.int .i64 a,.int .i64 b]else[.int .i64 b,.int .i64 a]
theorem aH0 (i a b:Nat):(two i a b)[i%2]?=some (.int .i64 a):=by
 unfold two;rcases a4Y i with h|h<;>rw[h]<;>simp
theorem aTW(i a b:Nat):(two i a b)[(i+1)%2]?=some (.int .i64 b):=by
 unfold two;rcases a4Y i with h|h
 .rw [h,show(i+1)%2=1 from by omega];simp
 .rw [h,show(i+1)%2=0 from by omega];simp
theorem aTX(i a b c:Nat):(two i a b).set (i%2) (.int .i64 c)=two (i+1) b c:=by
 unfold two;rcases a4Y i with h|h
 .rw [h,show(i+1)%2=1 from by omega];simp
 .rw [h,show(i+1)%2=0 from by omega];simp
theorem aTV(i a b:Nat):(two i a b).length=2:=by unfold two;split<;>rfl
theorem aHY{p9:Nat}{a0 b0 left0:Nat}(hv:Vld L)(hl:l.length<=100000)
 (o8:aT w p8 [.int .i64 log,.slice (some ⟨b,0,none⟩) L.length L.length]) (ob:aT w b (fe .u8 L)) (o9:aT w p9 (two 0 a0 b0)) (hbw:UP w lo hi l left0)
 (hne:p8≠hi/\b≠hi/\p9≠hi/\p8≠p9/\b≠p9/\lo<=hi/\hi<p9) (ha:a0<L.length) (hb:b0<L.length) (hleft:left0<=8*l.length) {G:Option (List Nat)} (hG:stN L (aG l) 256 a0 b0 left0 []=G)
  (hR:∀v w' e,(match G with|none=>v= .slice none 0 0/\e=11|some m=>mH w' w.heap.size 1 v m.length (u8s m)/\e=0)->aE w w' (λy=>y=p9∨y=hi)->R (.tuple #[v,.int .i64 e]) w'):
 yF R (.pointer (some ⟨hi,0,none⟩)) (.pointer (some ⟨p8,0,none⟩)) (.pointer (some ⟨p9,0,none⟩)) (.slice none 0 0) w:=by
 obtain⟨n1,n2,n3,n4,n5,n6,n7⟩:=hne;have q8:=o8.lt;have q9:=o9.lt;have qb:=ob.lt;have qh:=hbw.choose_spec.1.lt;unfold yF GC Ri yE;refine aN.rule (λm (t:a7C×a7C) w'=>∃(i a b' left:Nat) (out:List Nat) (ov:a7C),m=256-i/\t=(ov,.int .i64 i)/\i<=256/\out.length=i/\a<L.length/\b'<L.length/\left<=8*l.length/\
  aT w' p9 (two i a b')/\UP w' lo hi l left/\stN L (aG l) (256-i) a b' left out=G/\mH w' w.heap.size 1 ov i (u8s out)/\aE w w' (λy=>y=p9∨y=hi∨w.heap.size<=y)) 256
  ⟨0,a0,b0,left0,[],_,rfl,rfl,by omega,rfl,ha,hb,hleft,o9,hbw,hG,mH.nil _ _ _,aE.refl _ _⟩ ?_
 clear o9 hbw hG hleft ha hb;rintro m t w1 ⟨i,a,b',left,out,ov,rfl,rfl,hi6,hol,ha,hb',hleft,o9,hbw,hG,oo,x1⟩;have z1:=x1.size;have x1n:∀w2,aE w1 w2 (λy=>y=p9∨y=hi∨w.heap.size<=y)->aE w w2 (λy=>y=p9∨y=hi):=λw2 x2=>(x1.seq x2).mono λy hy h=>by
  rcases h with h|h|h
  .exact .inl h
  .exact .inr h
  .omega
 have hos:∀{w2:a7B},aE w1 w2 (λy=>w.heap.size<=y)->aE w w2 (λy=>y=p9∨y=hi∨w.heap.size<=y):=λx2=>x1.seq (x2.mono λ_ _ h=> .inr (.inr h));unfold Rh;by_cases hlt:i<256
 case neg=>
  have d1:decide ((i:Int)<256)=false:=by simp;omega
  obtain rfl:i=256:=by omega
  obtain⟨ao,co,rfl⟩:=oo.len;have d2:decide ((256:Int)<=((256:Nat):Int))=true:=by decide
  unfold yD;simp(disch:=omega)only[SV,d1,d2];refine hR _ _ 11 ?_ (x1n _ (aE.refl _ _));rw[<-hG];exact⟨rfl,rfl⟩
 have d1:decide ((i:Int)<256)=true:=by simp;omega
 have e1:(i:Int).tmod 2=((i%2:Nat):Int):=by rw[a2B (by omega)];simp
 have e2:((i:Int)+1).tmod 2=(((i+1)%2:Nat):Int):=by rw[a2B (by omega)];omega
 have hj:=a4X i (show 0<2 by omega);have hj1:=a4X (i+1) (show 0<2 by omega);have tj:((i%2:Nat):Int).toNat=i%2:=a1H _;have tj1:(((i+1)%2:Nat):Int).toNat=(i+1)%2:=a1H _;have ta:(a:Int).toNat=a:=a1H _;have tb:(b':Int).toNat=b':=a1H _;obtain⟨bs,hea⟩:=aG2 hv ha;obtain⟨bs2,heb⟩:=aG2 hv hb';have hta:=aG4 (k:= .u8) ha;have htb:=ZQ .u8 L b' hb';rw[hea]at hta;rw[heb]at htb;have hbl:=aFO hv.low a;have hsa:=PN hv a;have hsb:=PN hv b';have ho8:∀{w2:a7B},aE w w2 (λy=>y=p9∨y=hi∨w.heap.size<=y)->aT w2 p8 [.int .i64 log,.slice (some ⟨b,0,none⟩) L.length L.length]:=λx=>o8.ext x (by omega);have hob:∀{w2:a7B},aE w w2 (λy=>y=p9∨y=hi∨w.heap.size<=y)->aT w2 b (fe .u8 L):=λx=>ob.ext x (by omega);have hent:∀{w2:a7B},aT w2 b (fe .u8 L)->(cK 232 (.pointer (some ⟨b,a*3,none⟩))).run pg w2= .ok (.value (.agg #[.int .u8 (jM L a),.int .i64 (cM L a),.int .i64 bs])) w2:=λo=>by
  have:=ajB (off:=a*3) o (by rw[fR];omega);rw[hta]at this;exact this
 have x1d:aE w (dr w1) (λy=>y=p9∨y=hi∨w.heap.size<=y):=x1.seq (aE.dr _ _);have c8:=(ho8 x1d).cell (off:=1);have c9:=(aH o9).cell (off:=i%2);rw[aH0]at c9;simp only[a1A,a1B]at c8;have l1:=hent (hob x1d);simp(disch:=omega)only[SV,d1,e1,c8,c9,tj,ta,l1];refine aqG λw2 o2 x2 s2=> ?_;have x12:aE w1 w2 aP:=(aE.dr _ _).seq x2;have xw2:=x1.seq (x12.mono λ_ _ h=>h.elim);have c8':=(ho8 xw2).cell (off:=1);have c9':=(o9.ext x12 (λh=>h)).cell (off:=i%2);rw[aH0]at c9';simp only[a1A,a1B]at c8';have l1':=hent (hob xw2);simp(disch:=omega)only[SV,d1,e1,c8',c9',tj,ta,l1'];refine alQ o2 rfl (by simp[one]) (by simp) λw3 o3 x3 s3=> ?_;simp only[aF,a1E,a1D]at o3;have hsz2:(dr w1).heap.size=w1.heap.size:=rfl;rw[hsz2]at o3 x3;simp only[hsz2];have x13:aE w1 w3 aP:=x12.new x3 (a1J _);have z3:=o3.lt;have k0:=o3.cell (off:=0);simp only[a1A,a1B]at k0;simp(disch:=omega)only[SV,k0];have os3:=(oo.ne (p:=w1.heap.size) (a1J _)).ext x13 (λ_ _ h=>h);refine aIH os3 (by omega) (by omega) (by omega) λv4 w4 o4 x4=> ?_;have x14:aE w1 w4 (λy=>w.heap.size<=y):=(x13.mono λ_ _ h=>h.elim).seq (x4.mono λ_ _ h=>h.1);have z4:=x14.size;have z34:=x4.size;have hob4:u8s out++[.int .u8 (jM L a:Nat)]=u8s (out++[jM L a]):=by show _=List.map _ (out++[jM L a]);rw[a2I]<;>rfl
 rw[hob4]at o4;have o34:=o3.ext x4 (by omega);have hbw4:UP (dr w4) lo hi l left:=(hbw.ext x14 (λb h1 h2=>by omega) n6).ext (aE.dr _ aP) (λ_ _ _ h=>h) n6;refine(Tp hbw4).mono ?_;rintro r w5 ⟨rfl,rfl⟩;have k1:=(aH o34).cell (off:=1);simp only[a1A,a1B]at k1;have xw4:=hos x14;have xw5:aE w (dr (dr w4)) (λy=>y=p9∨y=hi∨w.heap.size<=y):=(xw4.seq (aE.dr _ _)).seq (aE.dr _ _);have x15:aE w1 (dr (dr w4)) (λy=>w.heap.size<=y):=(x14.seq (aE.dr _ _)).seq (aE.dr _ _);have c8:=(ho8 xw5).cell (off:=1);simp only[a1A,a1B]at c8;have o9d:=o9.ext x15 (by omega);obtain⟨f,hf⟩:∃f,256-i=f+1:=⟨255-i,by omega⟩;rw[hf,stN]at hG;by_cases hsh:left<cM L a
 .have d3:decide ((left:Int)<((cM L a:Nat):Int))=true:=by simp only[decide_eq_true_eq];omega
  rw[if_pos hsh]at hG;have c9:=o9d.cell (off:=(i+1)%2);rw[aTW]at c9;have m0:=(hob xw5).cell (off:=b'*3);rw[htb.1]at m0;simp(disch:=omega)only[SV,k1,d3,c8,e2,tj1,c9,tb,m0];have o5:=(o4.ext (aE.dr w4 aP) (λ_ _ h=>h)).ext (aE.dr (dr w4) aP) (λ_ _ h=>h);have hszd:(dr (dr w4)).heap.size=w4.heap.size:=rfl;refine aIH o5 (by rw[hszd];omega) (by rw[hszd];omega) (by omega) λv6 w6 o6 x6=> ?_;have hob6:u8s (out++[jM L a])++[.int .u8 (jM L b':Nat)]=u8s (out++[jM L a,jM L b']):=by show List.map _ (out++[jM L a])++_=List.map _ (out++[jM L a,jM L b']);rw[a2I,a2I,a2R]<;>rfl
  rw[hob6]at o6;have o6l:=o6.osl;obtain⟨a6,c6,rfl⟩:=o6.len;unfold yD;have x16:aE w1 w6 (λy=>y=p9∨y=hi∨w.heap.size<=y):=(x15.mono λ_ _ h=> .inr (.inr h)).seq (x6.mono λ_ _ h=> .inr (.inr h.1));by_cases h255:255<out.length+2
  .rw [if_pos h255]at hG;have d4:decide ((256:Int)<=((i+1+1:Nat):Int))=true:=by simp only[decide_eq_true_eq];omega
   simp(disch:=omega)only[SV,d4];refine hR _ _ 11 ?_ (x1n _ x16);rw[<-hG];exact⟨rfl,rfl⟩
  .rw [if_neg h255]at hG;have d4:decide ((256:Int)<=((i+1+1:Nat):Int))=false:=by simp only[decide_eq_false_iff_not];omega
   simp(disch:=omega)only[SV,d4];refine hR _ _ 0 ?_ (x1n _ x16);rw[<-hG];refine⟨?_,rfl⟩;rw[show(out++[jM L a,jM L b']).length=i+1+1 from by rw[a1O];simp;omega];exact o6l
 .have d3:decide ((left:Int)<((cM L a:Nat):Int))=false:=by simp only[decide_eq_false_iff_not];omega
  rw[if_neg hsh]at hG;have c9:=o9d.cell (off:=i%2);rw[aH0]at c9;have l8:=dX (off:=0) (ho8 xw5) (by simp);simp only[a1F,a1C,a1G]at l8;simp(disch:=omega)only[SV,k1,d3,e1,tj,c9,l8];have hbw5:UP (dr (dr w4)) lo hi l left:=hbw4.ext (aE.dr _ aP) (λ_ _ _ h=>h) n6;have hszd:(dr (dr w4)).heap.size=w4.heap.size:=rfl;refine(aF2 (base:=0) (b:=b) (L:=L) (s:=a) ⟨rfl,a4G _,hob xw5⟩ hv.low (by have:=hv.len;omega) hbw5 n6 (by omega) n2 (by omega) (by omega) (by omega)).mono ?_;rintro r w6 ⟨rfl,hbw6,x6⟩;have tl:(left:Int).toNat=left:=a1H _;rw[tl];have hln:=kY ((aG l).take left) (cM L a);obtain⟨g1,g2⟩:=hv.nx a ha _ hln;obtain⟨c,hc⟩:∃c:Nat,oH L a (iI ((aG l).take left) (cM L a))=c:=⟨_,(Int.toNat_of_nonneg g1).symm⟩;rw[hc]at g2 hG⊢;rw[a1H]at g2 hG;have o96:=o9d.ext x6 (by omega);refine eZ o96 rfl (by rw[aTV];omega) λw7 o7 x7 s7=> ?_;rw[aTX]at o7;have x17:aE w1 w7 (λy=>y=p9∨y=hi∨w.heap.size<=y):=((x15.mono λ_ _ h=> .inr (.inr h)).seq (x6.mono λ_ _ h=> .inr (.inl h))).seq (x7.mono λ_ _ h=> .inl h);have hbw7:=hbw6.ext x7 (λb h1 h2=>by omega) n6;have o47:=((o4.ext (aE.dr w4 aP) (λ_ _ h=>h)).ext (aE.dr (dr w4) aP) (λ_ _ h=>h)).ext x6 (λb h hh=>by omega)|>.ext x7 (λb h hh=>by omega);refine⟨f,by omega,i+1,b',c,left-cM L a,out++[jM L a],v4,by omega,rfl,by omega,by rw[a1O,hol]<;>rfl,hb',g2,by omega,o7, ?_, ?_,o47.osl,x1.seq x17⟩
  .rw [show((left-cM L a:Nat):Int)=(left:Int)-(cM L a:Nat)from by omega];exact hbw7
  .rw [show 256-(i+1)=f from by omega];exact hG
def qL(l:List UInt8):Except Int (List Nat):=match uB (aG l) 6 12 with
 | .error e=> .error e
 | .ok (lg,ps,n)=>match YM (l.drop n)with
   |none=> .error 11
   |some k=>if k<2*lg then .error 11 else
    match stN (fL lg ps) (aG (l.drop n)) 256 (iI ((aG (l.drop n)).take k) lg) (iI ((aG (l.drop n)).take (k-lg)) lg) (k-2*lg) []with
    |none=> .error 11
    |some m=> .ok m
def aU7 (w:a7B)(base:Nat)(o:Except Int (List Nat))(r:a7C):Prop:=match o with
 | .error e=>r= .tuple #[.slice none 0 0,.int .i64 e]
 | .ok m=>∃v,r= .tuple #[v,.int .i64 0]/\mH w base 1 v m.length ((lI m).map kH)
theorem aEV(h:qL l= .ok m):(∀x∈m,x<256)/\m.length<=255:=by
 unfold qL at h;split at h
 .cases h
 .rename_i lg ps n hr;obtain⟨h1,h2,h3⟩:=Uh hr;have hm:=h1 (by omega);split at h
  .cases h
  .split at h
   .cases h
   .split at h
    .cases h
    .rename_i hs;cases h;exact aL9 (amI hm) hs (by simp)
theorem aR2 {p9 k:Nat}(hl:l.length<=100000)(hlog:log<=15)(hlen:L.length=2^log)
 (o8:aT w p8 [.int .i64 log,.slice (some ⟨b,0,none⟩) L.length L.length]) (o9:aT w p9 [.int .i64 0,.int .i64 0]) (hbw:UP w lo hi l k)
 (hne:p8≠hi/\p9≠hi/\p8≠p9/\lo<=hi/\hi<p9) (hk:k<=8*l.length) 
 (hR:∀w',aT w' p9 (two 0 (iI ((aG l).take k) log) (iI ((aG l).take (k-log)) log))->UP w' lo hi l ((k:Int)-log-log)->aE w w' (λy=>y=p9∨y=hi)→
  yG R (.pointer (some ⟨hi,0,none⟩)) (.pointer (some ⟨p8,0,none⟩)) (.pointer (some ⟨p9,0,none⟩)) w'):
 vF R (.pointer (some ⟨hi,0,none⟩)) (.pointer (some ⟨p8,0,none⟩)) (.pointer (some ⟨p9,0,none⟩)) w:=by
 obtain⟨n1,n3,n4,n6,n7⟩:=hne;have q9:=o9.lt;have qh:=hbw.choose_spec.1.lt;have hp:2^log<=2^15:=a1K (by omega) hlog;unfold vF Dd P0 vE;have hla:=kY ((aG l).take k) log;have hlb:=kY ((aG l).take (k-log)) log;obtain⟨a,ha⟩:∃a,iI ((aG l).take k) log=a:=⟨_,rfl⟩;obtain⟨b',hb'⟩:∃a,iI ((aG l).take (k-log)) log=a:=⟨_,rfl⟩;rw[ha,hb']at hR;refine aN.rule (λm (t:a7C) w'=>∃(i:Nat),m=2-i/\t= .int .i64 i/\i<=2/\aT w' p9 (if i=0 then[.int .i64 0,.int .i64 0]else if i=1 then[.int .i64 a,.int .i64 0]else[.int .i64 a,.int .i64 b'])/\UP w' lo hi l ((k:Int)-i*log)/\aE w w' (λy=>y=p9∨y=hi)) 2
  ⟨0,rfl,rfl,by omega,o9,by simpa using hbw,aE.refl _ _⟩ ?_
 rintro m t w1 ⟨i,rfl,rfl,hi2,o9,hbw,x1⟩;have z1:=x1.size;unfold PZ;have hcase:i=0∨i=1∨i=2:=by omega
 have o81:=o8.ext x1 (by omega);have l8:=dX (off:=0) o81 (by simp);simp only[a1F,a1C,a1G]at l8;rcases hcase with rfl|rfl|rfl
 .have d1:decide (((0:Nat):Int)<2)=true:=rfl;simp(disch:=omega)only[SV,d1,l8];refine(amT hbw n6 (by omega) (by omega) (by omega) (by omega) (by omega)).mono ?_;rintro r w2 ⟨rfl,hbw2,x2⟩;rw[show((k:Int)-((0:Nat):Int)*(log:Nat)).toNat=k from by omega,ha];refine eZ (o9.ext x2 (by omega)) rfl (by simp) λw3 o3 x3 s3=> ?_;refine⟨1,by omega,1,rfl,rfl,by omega,o3, ?_,(x1.seq (x2.mono λ_ _ h=> .inr h)).seq (x3.mono λ_ _ h=> .inl h)⟩;have:=hbw2.ext x3 (λb h1 h2=>by omega) n6
  rwa [show(k:Int)-((0:Nat):Int)*(log:Nat)-(log:Nat)=(k:Int)-((1:Nat):Int)*(log:Nat)from by omega]at this
 .have d1:decide (((1:Nat):Int)<2)=true:=rfl;have t1:((1:Nat):Int).toNat=1:=rfl;simp(disch:=omega)only[SV,d1,l8];refine(amT hbw n6 (by omega) (by omega) (by omega) (by omega) (by omega)).mono ?_;rintro r w2 ⟨rfl,hbw2,x2⟩;rw[show((k:Int)-((1:Nat):Int)*(log:Nat)).toNat=k-log from by omega,hb'];refine eZ (o9.ext x2 (by omega)) rfl (by simp) λw3 o3 x3 s3=> ?_;refine⟨0,by omega,2,rfl,rfl,by omega,o3, ?_,(x1.seq (x2.mono λ_ _ h=> .inr h)).seq (x3.mono λ_ _ h=> .inl h)⟩;have:=hbw2.ext x3 (λb h1 h2=>by omega) n6
  rwa [show(k:Int)-((1:Nat):Int)*(log:Nat)-(log:Nat)=(k:Int)-((2:Nat):Int)*(log:Nat)from by omega]at this
 .have d1:decide (((2:Nat):Int)<2)=false:=rfl;simp(disch:=omega)only[SV,d1];refine hR w1 o9 ?_ x1
  rwa [show(k:Int)-((2:Nat):Int)*(log:Nat)=(k:Int)-(log:Nat)-(log:Nat)from by omega]at hbw
theorem aR3 (h:Bs w v l)(hl:l.length<=1000):
 aL pg Hw #[v] w (λr w'=>aU7 w' w.heap.size (qL l) r/\aE w w' aP):=by
 refine agZ ?_;obtain⟨RR,hRR⟩:∃RR:a7C->a7B->Prop,RR=λr w'=>aU7 w' w.heap.size (qL l) r/\aE w w' aP:=⟨_,rfl⟩;rw[<-hRR];have key:∀r w',aU7 w' w.heap.size (qL l) r->aE w w' aP->RR r w':=λr w' h1 h2=>by rw[hRR];exact⟨h1,h2⟩
 obtain⟨av,nv,cv,hvv,hnv,hcv,_⟩:=id h;rw[a1M]at hnv;subst hnv;have hv':=hvv;subst hv';unfold aeZ P4 P3 De P1;refine(aDX (most:=6) (sym:=12) h (by omega) (by omega)).mono ?_;rintro r w1 ⟨hr,x1⟩;unfold qL at key;cases hrd:uB (aG l) 6 12 with
 |error e=>
  rw[hrd]at hr key;have he:=Ms hrd;obtain rfl:=hr;have n1:(e !=0)=true:=by simp[he]
  simp(disch:=omega)only[SV];refine lE λw2 o2 x2 s2=> ?_;refine dS o2 rfl (by simp[one]) (by simp) λw3 o3 x3 s3=> ?_;simp(disch:=omega)only[SV,n1];exact key _ _ rfl (x1.seq (x2.new x3 (by omega)))
 |ok x=>
  obtain⟨lg,ps,n⟩:=x;rw[hrd]at hr key;simp only at key;obtain⟨hmay,hlg6,hps12⟩:=Uh hrd;have hm:=hmay (by omega);have hused:=VU hrd;rw[cJ]at hused;obtain⟨pv,rfl,op⟩:=hr;obtain⟨pa,pc,rfl⟩:=op.len;have n1:((0:Int) !=0)=false:=rfl;simp(disch:=omega)only[SV];refine lE λw2 o2 x2 s2=> ?_;refine dS o2 rfl (by simp[one]) (by simp) λw3 o3 x3 s3=> ?_;simp only[aF,a1E,a1D]at o3;have x13:aE w1 w3 aP:=x2.new x3 (by omega);have x03:=x1.seq x13;have hb3:=h.ext x03 (aR _);have hdr:=hb3.drop' (k:=n) (by omega);rw[<-a3M]at hdr;have hdr:Bs w3 _ (l.drop n):=hdr;have tn:(n:Int).toNat=n:=a1H _;have hdl:(l.drop n).length<=1000:=by rw[a1L];omega
  simp(disch:=omega)only[SV,n1,tn];generalize l.drop n=l' at*;cases he:YM l' with
  |none=>
   rw[he]at key;refine(Kk hdr he (by omega)).mono ?_;rintro r w4 ⟨rfl,rfl⟩;have n2:((11:Int) !=0)=true:=rfl;simp(disch:=omega)only[SV,n2];exact key _ _ rfl x03
  |some k=>
   rw[he]at key;simp only at key;have hk:=Dw he;refine(Ov hdr he (by omega)).mono ?_;rintro r w4 ⟨hi,rfl,hlh,hhi,hbw,x4⟩;have o34:=o3.ext x4 (λh=>h);have l3:=fP (off:=0) o34 (by simp);simp only[a1F,a1C,a1G]at l3;simp(disch:=omega)only[SV,n1,l3];have op4:=(op.ext x13 (λ_ _ h=>h)).ext x4 (λ_ _ h=>h);refine(aGV hm op4.sl).mono ?_;rintro r w5 ⟨b,tv,rfl,⟨rfl,hb5,ob⟩,x5⟩;simp(disch:=omega)only[SV];refine gK λw6 o6 x6 s6=> ?_;refine cY o6 rfl (by simp[one]) (by simp) λw7 o7 x7 s7=> ?_;simp only[aF,a1E,a1D]at o7;simp(disch:=omega)only[SV,n1];refine aKO λw8 o8 x8 s8=> ?_;refine aKj o8 rfl (by simp[one]) (by simp) λw9 o9 x9 s9=> ?_;simp only[aF,a1E,a1D]at o9;have x57:aE w5 w7 aP:=x6.new x7 (by omega);have x79:aE w7 w9 aP:=x8.new x9 (by omega);have x59:=x57.seq x79;have x49:=x5.seq x59;have x39:=x4.seq x49;have z4:=x4.size;have z5:=x5.size;have z57:=x57.size;have z79:=x79.size;have qb:=ob.lt;have q6:=o7.lt;have o79:=o7.ext x79 (λh=>h);have hN:(fL lg ps).length=2^lg:=eN lg ps;have h15:=hm.log15;have hv:=amI hm;have hla:=kY ((aG l').take k) lg;have hlb:=kY ((aG l').take (k-lg)) lg;have ob9:=ob.ext x59 (λh=>h);rw[<-hN]at hla hlb;generalize fL lg ps=L at*;refine aR2 (L:=L) (l:=l') (k:=k) (by omega) h15 hN o79 o9 (hbw.ext x49 (λ_ _ _ h=>h) hlh) (by omega) (by omega) λw10 o10 hbw10 x10=> ?_;have x010:aE w w10 aP:=(x03.seq x39).trans x10 λy hy h=>by have:=x03.size;omega
   unfold yG Rj;refine(Tp hbw10).mono ?_;rintro r w11 ⟨rfl,rfl⟩;by_cases hlt:k<2*lg
   .rw [if_pos hlt]at key;have d1:decide ((k:Int)-(lg:Nat)-(lg:Nat)<0)=true:=by simp only[decide_eq_true_eq];omega
    simp(disch:=omega)only[SV,d1];exact key _ _ rfl x010
   .rw [if_neg hlt]at key;have d1:decide ((k:Int)-(lg:Nat)-(lg:Nat)<0)=false:=by simp only[decide_eq_false_iff_not];omega
    simp(disch:=omega)only[SV,d1];have z10:=x10.size;refine aHY (left0:=k-2*lg) (L:=L) (l:=l') (G:=stN L (aG l') 256 (iI ((aG l').take k) lg) (iI ((aG l').take (k-lg)) lg) (k-2*lg) []) hv (by omega) (o79.ext x10 (by omega)) (ob9.ext x10 (by omega)) o10
     (by rw[show((k-2*lg:Nat):Int)=(k:Int)-(lg:Nat)-(lg:Nat)from by omega];exact hbw10) (by omega) hla hlb (by omega) rfl λv' w12 e hG x12=> ?_
    have x012:aE w w12 aP:=x010.trans x12 λy hy h=>by have:=x03.size;omega
    refine key _ _ ?_ x012;cases hs:stN L (aG l') 256 (iI ((aG l').take k) lg) (iI ((aG l').take (k-lg)) lg) (k-2*lg) []with
    |none=>
     rw[hs]at hG;obtain⟨rfl,rfl⟩:=hG;exact rfl
    |some m=>
     rw[hs]at hG;obtain⟨om,rfl⟩:=hG;refine⟨v',rfl, ?_⟩;rw[aeS (aL9 hv hs (by simp)).1];exact om.lower (by have:=x03.size;omega)
theorem aQN{k:IntKind}(h:i<L.length):((fe k L++rest).drop (i*3)).take 3=[.int k L[i].1,.int .i64 L[i].2.1,.int .i64 L[i].2.2]:=by
 have hl:=fR k L;rw[a5D (by omega),a5E (by rw[a1L];omega),aG4 h]
def uD(o:Except Int (List Nat))(r:a7C):Prop:=match o with
 | .error e=>r= .tuple #[.string ⟨#[]⟩,.int .i64 e]
 | .ok m=>r= .tuple #[.string ⟨(lI m).toArray⟩,.int .i64 0]
theorem aTK{b:a7C}{B:List Bool}{left:Nat}(hl:left<=B.length)(hn:n<=left)
 (h:RB w lo hi b ((B.take left).take ((B.take left).length-min n (B.take left).length)) (0+(n-min n (B.take left).length))):RB w lo hi b (B.take (left-n)) 0:=by
 have e:(B.take left).length=left:=by rw[a1N];omega
 rw[e,show 0+(n-min n left)=0 from by omega,a5R,show min (left-min n left) left=left-n from by omega]at h;exact h
theorem aCm{p7 cc:Nat}{a0 b0 left0:Nat}{bv:a7C}{w0:a7B}(hv:Vld L)(hl:l.length<=100000)
 (o8:aT w p8 [.int .i64 log,.slice (some ⟨b,0,none⟩) L.length cc]) (ob:aT w b (fe .i64 L++rest)) (o7:aT w p7 bv.cells.toList) (hrb:RB w lo hi bv ((aG l).take left0) 0)
 (hne:p8≠p7/\b≠p7/\hi<=p7/\w0.heap.size<=p7) (ha:a0<L.length) (hb:b0<L.length) (hleft:left0<=8*l.length) {G:Option (List Nat)} (hG:stN L (aG l) 256 a0 b0 left0 []=G) (x0:aE w0 w aP)
  (hR:∀r w',uD (match G with|none=> .error 11|some m=> .ok m) r->aE w0 w' aP->R r w'):
 Cn R (.pointer (some ⟨p7,0,none⟩)) (.pointer (some ⟨p8,0,none⟩)) (.int .i64 a0) (.int .i64 b0) (.slice none 0 0) w:=by
 obtain⟨n1,n2,n3,n4⟩:=hne;have q8:=o8.lt;have q7:=o7.lt;have qb:=ob.lt;unfold Cn Cm;refine aN.rule (λm (t:a7C×a7C×a7C) w'=>∃(i a b' left:Nat) (out:List Nat) (ov bv:a7C),m=256-i/\t=(.int .i64 a,.int .i64 b',ov)/\i<=256/\out.length=i/\a<L.length/\b'<L.length/\left<=8*l.length/\
  aT w' p7 bv.cells.toList/\RB w' lo hi bv ((aG l).take left) 0/\stN L (aG l) (256-i) a b' left out=G/\mH w' w.heap.size 1 ov i (u8s out)/\(∀x∈out,x<256)/\aE w w' (λy=>y=p7∨w.heap.size<=y)) 256
  ⟨0,a0,b0,left0,[],_,bv,rfl,rfl,by omega,rfl,ha,hb,hleft,o7,hrb,hG,mH.nil _ _ _,by simp,aE.refl _ _⟩ ?_
 clear o7 hrb hG hleft ha hb;rintro m t w1 ⟨i,a,b',left,out,ov,bv,rfl,rfl,hi6,hol,ha,hb',hleft,o7,hrb,hG,oo,hout,x1⟩;have z1:=x1.size;have x0n:∀{w2:a7B},aE w w2 (λy=>y=p7∨w.heap.size<=y)->aE w0 w2 aP:=λx2=>x0.trans x2 λy hy h=>by have:=x0.size;omega
 have hrb':=hrb;obtain⟨v,rfl,hs,hat⟩:=hrb;obtain⟨a',c',rfl,hc⟩:=Dh hs;simp only[Value.cells]at o7;obtain⟨ao,co,rfl⟩:=oo.len;unfold Yb;by_cases hlt:i<256
 case neg=>
  have d1:decide ((i:Int)<256)=false:=by simp;omega
  obtain rfl:i=256:=by omega
  unfold KY;simp(disch:=omega)only[SV,d1];refine hR _ _ ?_ (x0n x1);rw[<-hG];exact rfl
 have d1:decide ((i:Int)<256)=true:=by simp;omega
 have ta:(a:Int).toNat=a:=a1H _;have tb:(b':Int).toNat=b':=a1H _;obtain⟨bs,hea⟩:=aG2 hv ha;obtain⟨bs2,heb⟩:=aG2 hv hb';have hta:=aQN (k:= .i64) (rest:=rest) ha;have htb:=ZQ .i64 L b' hb';have hfl:=fR .i64 L;rw[hea]at hta;rw[heb]at htb;have hbl:=aFO hv.low a;have hsa:=PN hv a;have hsb:=PN hv b';have ho8:∀{w2:a7B},aE w w2 (λy=>y=p7∨w.heap.size<=y)->aT w2 p8 [.int .i64 log,.slice (some ⟨b,0,none⟩) L.length cc]:=λx=>o8.ext x (by omega);have hob:∀{w2:a7B},aE w w2 (λy=>y=p7∨w.heap.size<=y)->aT w2 b (fe .i64 L++rest):=λx=>ob.ext x (by omega);have hos:∀{w2:a7B},aE w1 w2 (λy=>w.heap.size<=y)->aE w w2 (λy=>y=p7∨w.heap.size<=y):=λx2=>x1.seq (x2.mono λ_ _ h=> .inr h);have c8:=(ho8 x1).cell (off:=1);simp only[a1A,a1B]at c8;have l1:=YN (off:=a*3) (hob x1) (by rw[a1O,hfl];omega);rw[hta]at l1;have ew:IntKind.u8.wrap (jM L a:Nat)=(jM L a:Nat):=aFA (by omega) (by omega);have ewb:IntKind.u8.wrap (jM L b':Nat)=(jM L b':Nat):=aFA (by omega) (by omega);simp(disch:=omega)only[SV,d1,c8,ta,l1];refine Zq λw2 o2 x2 s2=> ?_;refine Y1 o2 rfl (by simp[one]) (by simp) λw3 o3 x3 s3=> ?_;simp only[aF,a1E,a1D]at o3;have x13:aE w1 w3 aP:=x2.new x3 (a1J _);have z3:=o3.lt;have k0:=o3.cell (off:=0);simp only[a1A,a1B]at k0;simp(disch:=omega)only[SV,k0,ew];have os3:=(oo.ne (p:=w1.heap.size) (a1J _)).ext x13 (λ_ _ h=>h);refine aIH os3 (by omega) (by omega) (by omega) λv4 w4 o4 x4=> ?_;have x14:aE w1 w4 (λy=>w.heap.size<=y):=(x13.mono λ_ _ h=>h.elim).seq (x4.mono λ_ _ h=>h.1);have z4:=x14.size;have z34:=x4.size;have hob4:u8s out++[.int .u8 (jM L a:Nat)]=u8s (out++[jM L a]):=by show _=List.map _ (out++[jM L a]);rw[a2I]<;>rfl
 rw[hob4]at o4;have o34:=o3.ext x4 (by omega);have o74:=o7.ext x14 (by omega);have l7:=aQ (off:=0) (aH o74) (by simp);simp only[a1F,a1C,a1G]at l7;have hrb4:=(hrb'.ext x14 (λb h1 h2=>by omega)).ext (aE.dr _ aP) (λ_ _ _ h=>h);have hBl:(aG l).length=8*l.length:=cJ l;have htl:((aG l).take left).length=left:=by rw[a1N];omega
 simp(disch:=omega)only[SV,l7];refine(afX hrb4 (by omega) (by omega)).mono ?_;rintro r w5 ⟨rfl,x5⟩;have x45:aE w4 w5 aP:=(aE.dr _ _).seq x5;have x15:aE w1 w5 (λy=>w.heap.size<=y):=x14.seq (x45.mono λ_ _ h=>h.elim);have xw5:=hos x15;have z5:=x45.size;rw[htl,show((left:Nat):Int)-((0:Nat):Int)=left from by omega];have k1d:=(aH o34).cell (off:=1);have k1:=(o34.ext x45 (λh=>h)).cell (off:=1);simp only[a1A,a1B]at k1 k1d;have c85:=(ho8 xw5).cell (off:=1);simp only[a1A,a1B]at c85;have o45:=o4.ext x45 (λ_ _ h=>h);have o75:=o74.ext x45 (λh=>h);obtain⟨f,hf⟩:∃f,256-i=f+1:=⟨255-i,by omega⟩;rw[hf,stN]at hG;by_cases hsh:left<cM L a
 .have d3:decide ((left:Int)<((cM L a:Nat):Int))=true:=by simp only[decide_eq_true_eq];omega
  rw[if_pos hsh]at hG;have m0:=(hob xw5).cell (off:=b'*3);rw[a1V (by omega),htb.1]at m0;simp(disch:=omega)only[SV,k1,k1d,d3,c85,tb,m0,ewb];refine aIH o45 (by omega) (by omega) (by omega) λv6 w6 o6 x6=> ?_;have hob6:u8s (out++[jM L a])++[.int .u8 (jM L b':Nat)]=u8s (out++[jM L a,jM L b']):=by show List.map _ (out++[jM L a])++_=List.map _ (out++[jM L a,jM L b']);rw[a2I,a2I,a2R]<;>rfl
  rw[hob6]at o6;have o6l:=o6.osl;have hm2:∀x∈out++[jM L a,jM L b'],x<256:=λx hx=>by
   rcases a2X.1 hx with hx|hx
   .exact hout x hx
   .simp only[a3C,List.not_mem_nil,or_false]at hx;rcases hx with rfl|rfl
    .exact hsa
    .exact hsb
  rw[<-aeS hm2]at o6l;have hb6:Bs w6 v6 (lI (out++[jM L a,jM L b'])):=o6l.sl;obtain⟨a6,c6,rfl⟩:=o6.len;have x16:aE w w6 (λy=>y=p7∨w.heap.size<=y):=xw5.seq (x6.mono λ_ _ h=> .inr h.1);by_cases h255:255<out.length+2
  .rw [if_pos h255]at hG;have d4:decide ((255:Int)<((i+1+1:Nat):Int))=true:=by simp only[decide_eq_true_eq];omega
   simp(disch:=omega)only[SV,d4];refine hR _ _ ?_ (x0n x16);rw[<-hG];exact rfl
  .rw [if_neg h255]at hG;have d4:decide ((255:Int)<((i+1+1:Nat):Int))=false:=by simp only[decide_eq_false_iff_not];omega
   have hcv:=cU hb6;simp(disch:=omega)only[SV,d4,hcv];refine hR _ _ ?_ (x0n x16);rw[<-hG];exact rfl
 .have d3:decide ((left:Int)<((cM L a:Nat):Int))=false:=by simp only[decide_eq_false_iff_not];omega
  rw[if_neg hsh]at hG;have l8:=aX (off:=0) (ho8 xw5) (by simp);have l75:=aQ (off:=0) o75 (by simp);simp only[a1F,a1C,a1G]at l8 l75;simp(disch:=omega)only[SV,k1,k1d,d3,l8,l75];have hrb5:=hrb4.ext x5 (λ_ _ _ h=>h);refine(aEJ (b:=b) (L:=L) (s:=a) ⟨cc,rest,rfl,hob xw5⟩ hv.low (by have:=hv.len;omega) hrb5 (by omega) (by omega) (by omega)).mono ?_;rintro r w6 ⟨bv6,rfl,hrb6,x6⟩;have hrb6:=aTK (by omega) (by omega) hrb6;have hln:=kY ((aG l).take left) (cM L a);obtain⟨g1,g2⟩:=hv.nx a ha _ hln;obtain⟨c,hc⟩:∃c:Nat,oH L a (iI ((aG l).take left) (cM L a))=c:=⟨_,(Int.toNat_of_nonneg g1).symm⟩;rw[hc]at g2 hG⊢;rw[a1H]at g2 hG;have hrb6':=hrb6;obtain⟨v6,rfl,hs6,hat6⟩:=hrb6;obtain⟨a6,c6,rfl,hc6⟩:=Dh hs6;simp(disch:=omega)only[SV];refine aJ (o75.ext x6 (λh=>h)) rfl (by simp[one]) (by simp) λw7 o7' x7 s7=> ?_;simp only[aF,a1E,a1D]at o7';have x17:aE w w7 (λy=>y=p7∨w.heap.size<=y):=(xw5.seq (x6.mono λ_ _ h=>h.elim)).seq (x7.mono λ_ _ h=> .inl h);have o47:=(o45.ext x6 (λ_ _ h=>h)).ext x7 (λb h hh=>by omega);refine⟨f,by omega,i+1,b',c,left-cM L a,out++[jM L a],v4,.agg #[.slice a6 ((aG l).take (left-cM L a)).length c6,.int .i64 (0:Nat)],by omega,rfl,by omega,by rw[a1O,hol]<;>rfl,hb',g2,by omega,o7',hrb6'.ext x7 (λb h1 h2=>by omega), ?_,o47.osl, ?_,x17⟩
  .rw [show 256-(i+1)=f from by omega];exact hG
  .intro x hx;rcases a2X.1 hx with hx|hx
   .exact hout x hx
   .rw [a3W.1 hx];exact hsa
theorem aBj{cb cap:Nat}{C:List (Nat×Nat)}{x:ByteArray}(hF:amC C (gJ C))(hm:gJ C<=11)(hC:C.length<=256)(oc:aT w cb (cc C++rest))(hx:x.size<=1000000)(hn:n<=131072):
 aL pg MD #[.slice (some ⟨cb,0,none⟩) C.length cap,.string x,.int .i64 n] w (λr w'=>uD (qB C (aM x) n) r/\aE w w' aP):=by
 refine avE ?_;obtain⟨RR,hRR⟩:∃RR:a7C->a7B->Prop,RR=λr w'=>uD (qB C (aM x) n) r/\aE w w' aP:=⟨_,rfl⟩;rw[<-hRR];have key:∀r w',uD (qB C (aM x) n) r->aE w w' aP->RR r w':=λr w' h1 h2=>by rw[hRR];exact⟨h1,h2⟩
 unfold avD Yi Yh;have hll:=aI x;have hlc:=oc.lt;cases he:YM (aM x)with
 |none=>
  refine(apE he hx).mono ?_;rintro r w1 ⟨rfl,x1⟩;have n0:((11:Int) !=0)=true:=rfl;simp(disch:=omega)only[SV];refine bM λw2 o2 x2 s2=> ?_;refine aJ o2 rfl (by simp[one]) (by simp) λw3 o3 x3 s3=> ?_;simp(disch:=omega)only[SV,n0];exact key _ _ (by unfold qB;rw[he]<;>rfl) (x1.seq (x2.new x3 (by omega)))
 |some k=>
  have hk:=Dw he
  have hstr:qB C (aM x) n=if(BB C (gJ C) (aG (aM x)) n (k:Int)).2<0 then .error 11
      else if 0<(BB C (gJ C) (aG (aM x)) n (k:Int)).2 then .error 15
      else .ok (BB C (gJ C) (aG (aM x)) n (k:Int)).1:=by unfold qB;rw[he]
  rw[hstr]at key;refine(aAj he hx).mono ?_;rintro r w1 ⟨bv,hi,rfl,hhi,hrb,x1⟩;have z1:=x1.size;have hBl:=cJ (aM x);generalize aM x=l at*;have hrb:RBh w1 w.heap.size hi bv (aG l) k:=by
   unfold RBh;rw[show((k:Int)).toNat=k from a1H k,show(-(k:Int)).toNat=0 from by omega];exact hrb
  obtain⟨a1,k1,c1,i1,rfl⟩:=hrb.form;have n0:((0:Int) !=0)=false:=rfl;simp(disch:=omega)only[SV];refine bM λw2 o2 x2 s2=> ?_;refine aJ o2 rfl (by simp[one]) (by simp) λw3 o3 x3 s3=> ?_;simp only[aF,a1E,a1D]at o3;have x13:aE w1 w3 aP:=x2.new x3 (by omega);have x03:=x1.seq x13;have z13:=x13.size;have hrb3:=hrb.ext x13 (λ_ _ _ h=>h);have oc3:=oc.ext x03 (λh=>h);obtain⟨p8,hp8⟩:∃p,p=w1.heap.size:=⟨_,rfl⟩;rw[<-hp8]at o3⊢;have l3:=o3.lt;simp(disch:=omega)only[SV,n0];unfold Lb La Yg Co;have hbit:∀s,bitsOf C s<=11:=λs=>by
   unfold bitsOf;rw[a1P];cases hs:C[s]? with
   |none=>simp
   |some e=>
    have:=(hF.le s e.1 e.2 hs).1;simp only[a5H];omega
  refine aN.rule (λm (t:a7C×a7C) w'=>∃(i:Nat) (ov bv:a7C),m=n-i/\t=(ov,.int .i64 i)/\i<=n/\
   aT w' p8 bv.cells.toList/\RBh w' w.heap.size hi bv (aG l) (BB C (gJ C) (aG l) i (k:Int)).2/\mH w' w3.heap.size 1 ov i (u8s (BB C (gJ C) (aG l) i (k:Int)).1)/\aE w3 w' (λy=>y=p8∨w3.heap.size<=y)) n
   ⟨0,_,.agg #[.slice a1 k1 c1,.int .i64 i1],rfl,rfl,by omega,o3,hrb3,mH.nil _ _ _,aE.refl _ _⟩ ?_
  rintro m t w4 ⟨i,ov,bv,rfl,rfl,hi',o4,h4,os4,x4⟩;have z4:=x4.size;have bd:=aHa (C:=C) (m:=gJ C) (B:=aG l) hbit i (k:Int);have hBs:=ayG (C:=C) (m:=gJ C) (B:=aG l) i (k:Int);have hsy:=aDy (C:=C) (m:=gJ C) (B:=aG l) hF (n:=i) (left:=(k:Int));obtain⟨a4,k4,c4,i4,rfl⟩:=h4.form;obtain⟨g,hg⟩:∃g,BB C (gJ C) (aG l) i (k:Int)=g:=⟨_,rfl⟩;rw[hg]at bd hBs hsy h4 os4;obtain⟨gs,gl⟩:=g;simp only at bd hBs hsy h4 os4;have o4:aT w4 p8 [.slice a4 k4 c4,.int .i64 i4]:=o4;have q4:=aQ (off:=0) o4 (by simp);simp only[a1F,a1C,a1G]at q4;unfold Yf;by_cases hlt:i<n
  .have d1:decide ((i:Int)<(n:Int))=true:=by simp;omega
   have ex:∀y:Nat,(y=p8∨w3.heap.size<=y)->¬y=cb:=by omega
   have oc4:=oc3.ext x4 (by omega);simp(disch:=omega)only[SV,d1,q4];refine(aVy hF hm hC oc4 h4 (by omega) (by omega) (by omega) (by omega)).mono ?_;rintro r w5 ⟨b5,rfl,h5,x5⟩;have z5:=x5.size;obtain⟨a5,k5,c5,i5,rfl⟩:=h5.form;simp(disch:=omega)only[SV];refine bM λw6 o6 x6 s6=> ?_;refine aJ o6 rfl (by simp[one]) (by simp) λw7 o7 x7 s7=> ?_;simp only[aF,a1E,a1D]at o7;have q7:=aQ (off:=0) o7 (by simp);simp only[a1F,a1C,a1G]at q7;have x57:aE w5 w7 aP:=x6.new x7 (by omega);have x47:=x5.seq x57;have l7:=o7.lt;simp(disch:=omega)only[SV,q7];refine aJ (o4.ext x47 (λh=>h)) rfl (by simp[one]) (by simp) λw8 o8 x8 s8=> ?_;simp only[aF,a1E,a1D]at o8;have x48:aE w4 w8 (λy=>y=p8):=(x47.mono λ_ _ h=>h.elim).seq x8;have z48:=x48.size;have os8:=((os4.ne (p:=w4.heap.size) (a1J _)).ext x48 (λb hb h=>by have:=hb.1;omega));obtain⟨sy,hsye⟩:∃sy,sy=Gr C (gJ C) (B6 (aG l) gl (gJ C)):=⟨_,rfl⟩;rw[<-hsye]at h5 hBs⊢;have z57:=x57.size;refine aIH os8 (by omega) (by omega) (by omega) λv9 w9 o9 x9=> ?_;have e2:(i:Int)+1=((i+1:Nat):Int):=by omega
   simp(disch:=omega)only[SV,e2];refine⟨n-(i+1),by omega,i+1,_,.agg #[.slice a5 k5 c5,.int .i64 i5],rfl,rfl,by omega,o8.ext x9 (by omega), ?_, ?_, ?_⟩
   .rw [hBs];exact((h5.ext x57 (λ_ _ _ h=>h)).ext x8 (λb h1 h2 h3=>by omega)).ext x9 (λb h1 h2 h3=>by have:=h3.1;omega)
   .rw [hBs];have:=o9.osl;rw[show u8s gs++[.int .u8 (sy:Nat)]=u8s (gs++[sy])from by show _=List.map _ (gs++[sy]);rw[a2I]<;>rfl]at this;exact this
   .exact (x4.seq (x48.mono λ_ _ h=> .inl h)).seq (x9.mono λy _ h=> .inr (by have:=h.1;omega))
  .have d1:decide ((i:Int)<(n:Int))=false:=by simp;omega
   have hin:i=n:=by omega
   subst hin;rw[hg]at key;simp only at key;have x04:aE w w4 aP:=x03.trans x4 λy hy h=>by omega
   unfold KZ;simp(disch:=omega)only[SV,d1,q4];refine(afX (lo:=w.heap.size) (hi:=hi) (lack:=(-gl).toNat) (L:=(aG l).take gl.toNat) h4 (by rw[a1N];omega) (by omega)).mono ?_;rintro r w5 ⟨rfl,x5⟩;have hgl:(((aG l).take gl.toNat).length:Int)-((-gl).toNat:Nat)=gl:=by rw[a1N];omega
   rw[hgl];by_cases h1:gl<0
   .have d2:decide (gl<0)=true:=decide_eq_true h1;rw[if_pos h1]at key;simp(disch:=omega)only[SV,d2];exact key _ _ rfl (x04.seq x5)
   have d2:decide (gl<0)=false:=decide_eq_false h1;rw[if_neg h1]at key;by_cases h2:0<gl
   .have d3:decide (0<gl)=true:=decide_eq_true h2;have d4:decide (gl>0)=true:=decide_eq_true h2;rw[if_pos h2]at key;simp(disch:=omega)only[SV,d2,d3,d4];exact key _ _ rfl (x04.seq x5)
   have d3:decide (0<gl)=false:=decide_eq_false h2;have d4:decide (gl>0)=false:=decide_eq_false h2;rw[if_neg h2]at key;have hb:=(os4.ext x5 (λ_ _ h=>h)).sl;rw[<-aeS (λs hs=>by have:=hsy s hs;omega)]at hb;have hcv:=cU hb;simp(disch:=omega)only[SV,d2,d3,d4,hcv];exact key _ _ rfl (x04.seq x5)
end Go.Proofs.YthohephggmkeeaaGreatDoor
namespace Go.Pu
open Go Go.En
structure aPF(ns out:List Nat):Prop where
 len:out.length=ns.length
 off:∀i,i<ns.length->ns.getD i 0=0->out.getD i 0=0
 on:∀i,i<ns.length->0<ns.getD i 0->1<=out.getD i 0/\out.getD i 0<=11
theorem aPF.set {ns out:List Nat}{i o:Nat}(h:aPF ns out)(hi:i<ns.length)(hn:0<ns.getD i 0)(h1:1<=o)(h2:o<=11):aPF ns (out.set i o):=by
 have hl:=h.len;refine⟨by rw[List.length_set];exact hl,λj hj h0=> ?_,λj hj h0=> ?_⟩
 .rw [aI2 _ (by omega) (by omega)];split
  .rename_i e;subst e;omega
  .exact h.off j hj h0
 .rw [aI2 _ (by omega) (by omega)];split
  .exact ⟨h1,h2⟩
  .exact h.on j hj h0
theorem aPF.le {ns out:List Nat}(h:aPF ns out){i:Nat}(hi:i<out.length):out[i]<=11:=by
 rw[<-afP hi];have hl:=h.len;rcases a3J (ns.getD i 0)with h0|h0
 .rw [h.off i (by omega) h0];omega
 .exact (h.on i (by omega) h0).2
end Go.Pu
namespace Go.Proofs.YthohephggmkeeaaGreatDoor
open Go Go.En Go.Pu
set_option maxRecDepth 4000
variable{A:Nat->Prop}{C:List (Nat×Nat)}{H:LH}{L:Bool}{RR:a7C->a7B->Prop}{a:Nat->Option Addr}{all b l old s wl:List UInt8}{bound hi k lo most n p pg6 pr pt pt9 px q sz win:Nat}{c:Nat->Nat}{cs gc:List a7C}{e:Int}{lv v va vo wv:a7C}{m:List Nat}{o t:Nat->TT}{w w':a7B}{x xa xw:ByteArray}
abbrev oc(out:List Nat):List a7C:=out.map λ(n:Nat)=>Value.int .i64 n
theorem JC(x:ByteArray):(bL (aM x)).length=x.size:=by rw[uA,aI]
theorem asO{i:Nat}(h:i<x.size):(x[i]'h).toNat=(bL (aM x)).getD i 0:=by
 rw[aRh (by rw[aI];exact h),<-Fq]
theorem aEO(hl:x.size<=100000):
 aL pg Rz #[.string x] w (λr w'=>r= .int .i64 (if jR 11 (bL (aM x))=true then(bB (bL (aM x)):Nat)else-1)/\w'=w):=by
 refine azT ?_;have hsz:=JC x;obtain⟨l,hlx⟩:∃l,bL (aM x)=l:=⟨_,rfl⟩;rw[hlx]at hsz⊢;unfold aBc X7 X6 O3 O2 acP FX;refine aN.rule (λm (t:a7C×a7C) w'=>∃i:Nat,m=x.size-i/\t=(.int .i64 (bB (l.take i):Nat),.int .i64 i)/\i<=x.size/\jR 11 (l.take i)=true/\w'=w) x.size
  ⟨0,rfl,by simp[bB],by omega,by simp[jR],rfl⟩ ?_
 rintro m t w1 ⟨i,rfl,rfl,hi,hle,rfl⟩;unfold acO acN;by_cases hlt:i<x.size
 .have d1:decide ((i:Int)<(x.size:Int))=true:=by simp;omega
  have hg:=asO hlt;rw[hlx]at hg;have ht:=aMh (ns:=l) (i:=i) (by omega);have hwl:=Ik (lF.1 hle);rw[a1N]at hwl;have hsn:jR 11 (l.take (i+1))=(jR 11 (l.take i)&&decide (l.getD i 0<=11)):=by rw[ht,aCX]
  have hwn:bB (l.take (i+1))=bB (l.take i)+H9 (l.getD i 0):=by rw[ht,IZ,iD]<;>rfl
  have hbad:jR 11 (l.take (i+1))=false->jR 11 l=false:=aCY;have hy:l.getD i 0<256:=by rw[<-hlx];exact QS _ _ (rK (by rw[JC];exact hlt))
  generalize l.getD i 0=y at*;unfold O1;by_cases h11:11<y
  .have d2:decide ((11:Int)<(y:Int))=true:=by simp;omega
   have hf:=hbad (by rw[hsn,hle,decide_eq_false (by omega)]<;>rfl);simp(disch:=omega)only[SV,d1,hg,d2];rw[hf];simp
  .have d2:decide ((11:Int)<(y:Int))=false:=by simp;omega
   have hle1:jR 11 (l.take (i+1))=true:=by rw[hsn,hle,decide_eq_true (by omega)]<;>rfl
   have hwp:=aH1 (w:=y) (by omega);by_cases h0:0<y
   .have d3:decide ((0:Int)<(y:Int))=true:=by simp;omega
    have e1:(y:Int)-1=((y-1:Nat):Int):=by omega
    have hpw:H9 y=2^(y-1):=by unfold H9;rw[if_neg (by omega)]
    have hpow:((2^(y-1):Nat):Int)=(2:Int)^(y-1):=by simp
    have e2:((bB (l.take i):Nat):Int)+((2^(y-1):Nat):Int)=((bB (l.take i)+2^(y-1):Nat):Int):=by omega
    rw[hpw]at hwp hwn;simp(disch:=omega)only[SV,d1,hg,d2,d3,e1];refine(IE (y-1) (by omega) w1).mono ?_;rintro r w2 ⟨rfl,rfl⟩;rw[<-hpow];simp(disch:=omega)only[SV,e2];exact⟨x.size-(i+1),by omega,i+1,rfl,by rw[hwn]<;>rfl,by omega,hle1⟩
   .have d3:decide ((0:Int)<(y:Int))=false:=by simp;omega
    have hpw:H9 y=0:=by unfold H9;rw[if_pos (by omega)]
    simp(disch:=omega)only[SV,d1,hg,d2,d3];exact⟨x.size-(i+1),by omega,i+1,rfl,by rw[hwn,hpw]<;>rfl,by omega,hle1⟩
 .have d1:decide ((i:Int)<(x.size:Int))=false:=by simp;omega
  obtain rfl:i=x.size:=by omega
  rw[a1T (by omega)]at*;unfold O0;simp(disch:=omega)only[SV,d1];rw[hle];simp
theorem aEI(x:Int)(w:a7B):aL pg Zg #[.int .i64 x] w (λr w'=>((∃d:Nat,d<20/\x=(2:Int)^d/\r= .int .i64 d)∨((∀d:Nat,d<20->x≠(2:Int)^d)/\r= .int .i64 (-1)))/\w'=w):=by
 refine aEt ?_;unfold aGq auV auU Wd Wc auT Mg;refine aN.rule (λm (t:a7C) w'=>∃d:Nat,m=20-d/\t= .int .i64 d/\d<=20/\(∀e:Nat,e<d->x≠(2:Int)^e)/\w'=w) 20 ⟨0,rfl,rfl,by omega,λe h=>by omega,rfl⟩ ?_;rintro m t w1 ⟨d,rfl,rfl,hd,hno,rfl⟩;unfold auS;by_cases hlt:d<20
 .have d1:decide ((d:Int)<20)=true:=by simp;omega
  simp(disch:=omega)only[SV,d1];refine(IE d (by omega) w1).mono ?_;rintro r w2 ⟨rfl,rfl⟩;by_cases he:(2:Int)^d=x
  .have d2:((2:Int)^d==x)=true:=by simpa using he
   simp(disch:=omega)only[SV,d2];exact .inl ⟨d,hlt,he.symm,rfl⟩
  .have d2:((2:Int)^d==x)=false:=by simpa using he
   simp(disch:=omega)only[SV,d2];refine⟨20-(d+1),by omega,d+1,rfl,rfl,by omega,λe h=> ?_⟩;rcases a1Y e d with h'|h'
   .exact hno e h'
   .have:e=d:=by omega
    subst this;exactλh=>he h.symm
 .have d1:decide ((d:Int)<20)=false:=by simp;omega
  unfold Wb;simp(disch:=omega)only[SV,d1];exact .inr (λe h=>hno e (by omega))
theorem aNC{s:Nat}(h0:0<s)(hs:s<2^20){r:a7C}(h:(∃d:Nat,d<20/\(s:Int)=(2:Int)^d/\r= .int .i64 d)∨((∀d:Nat,d<20->(s:Int)≠(2:Int)^d)/\r= .int .i64 (-1))):
 (2^s.log2=s/\r= .int .i64 (s.log2:Nat))∨(2^s.log2≠s/\r= .int .i64 (-1)):=by
 rcases h with⟨d,h1,h2,h3⟩|⟨h1,h2⟩
 .have:s=2^d:=by
   have e:((2^d:Nat):Int)=(2:Int)^d:=by simp
   omega
  subst this;rw[a6S];exact .inl ⟨rfl,h3⟩
 .refine .inr ⟨λhe=> ?_,h2⟩;have hl:s.log2<20:=(Nat.log2_lt (by omega)).2 hs;apply h1 _ hl;have e:((2^s.log2:Nat):Int)=(2:Int)^s.log2:=by simp
  rw[<-e,he]
theorem aEH(hl:x.size<=100000):
 aL pg Rx #[.string x] w (λr w'=>r= .int .i64 (gO (bL (aM x)):Nat)/\w'=w):=by
 refine azR ?_;have hsz:=JC x;obtain⟨l,hlx⟩:∃l,bL (aM x)=l:=⟨_,rfl⟩;have hnl:=hlx;rw[hlx]at hsz⊢;have no:¬(jR 11 l=true/\2<=l.length/\l.length<=256/\l.getLast?≠some 0/\2^(bB l).log2=bB l/\(bB l).log2<=11/\jR (bB l).log2 l=true)->gO l=0:=λh=>by
  unfold gO;rw[if_neg h]
 unfold aBa acJ acI;by_cases h2:x.size<2
 .have d2:decide ((x.size:Int)<2)=true:=by simp;omega
  have:=no (by omega);simp(disch:=omega)only[SV,d2];rw[this]<;>rfl
 have d2:decide ((x.size:Int)<2)=false:=by simp;omega
 by_cases h3:256<x.size
 .have d3:decide ((256:Int)<(x.size:Int))=true:=by simp;omega
  have:=no (by omega);simp(disch:=omega)only[SV,d2,d3];rw[this]<;>rfl
 have d3:decide ((256:Int)<(x.size:Int))=false:=by simp;omega
 have e1:(x.size:Int)-1=((x.size-1:Nat):Int):=by omega
 have hg:=asO (x:=x) (i:=x.size-1) (by omega);rw[hlx]at hg;have hlast:l.getLast?=some (l.getD (x.size-1) 0):=by
  rw[a5Q,hsz,a1P,a1I (by omega)]<;>rfl
 have hmem:l.getD (x.size-1) 0∈l:=rK (by omega);generalize l.getD (x.size-1) 0=y at*;by_cases h4:y=0
 .have d4:((y:Int)==0)=true:=by rw[h4]<;>rfl
  have:=no (λh=>h.2.2.2.1 (by rw[hlast,h4]));simp(disch:=omega)only[SV,d2,d3,e1,hg,d4];rw[this]<;>rfl
 have d4:((y:Int)==0)=false:=beq_eq_false_iff_ne.2 (by omega);have hwp:=awV hmem;have hwx:1<=H9 y:=by unfold H9;rw[if_neg h4];exact Nat.one_le_two_pow
 have hlast':l.getLast?≠some 0:=λh=>by rw[hlast]at h;exact h4 (a1Z h)
 simp(disch:=omega)only[SV,d2,d3,e1,hg,d4];refine(aEO hl).mono ?_;rintro r w1 ⟨rfl,rfl⟩;rw[hnl];cases hok:jR 11 l with
 |false=>
  have:=no (by rw[hok];simp);simp only[a2A,if_false];refine(aEI (-1) w1).mono ?_;rintro r w2 ⟨hlog,rfl⟩;have hr:r= .int .i64 (-1):=by
   rcases hlog with⟨d,_,h,_⟩|⟨_,h⟩
   .have:(0:Int)<(2:Int)^d:=Int.pow_pos (by omega);omega
   .exact h
  subst hr;have d5:decide ((-1:Int)<1)=true:=rfl;simp(disch:=omega)only[SV,d5];rw[this]<;>rfl
 |true=>
  have hw:=Ik (lF.1 hok);simp only[if_true];refine(aEI _ w1).mono ?_;rintro r w2 ⟨hlog,rfl⟩;obtain⟨s,hs⟩:∃s,bB l=s:=⟨_,rfl⟩;rw[hs]at no hw hwp hlog;rcases aNC (by omega) (by omega) hlog with⟨hp,rfl⟩|⟨hp,rfl⟩
  .have hlg:s.log2<20:=(Nat.log2_lt (by omega)).2 (by omega);by_cases h5:s.log2<1
   .have d5:decide (((s.log2:Nat):Int)<1)=true:=by simp;omega
    have hz:gO l=0:=by
     unfold gO;rw[hs];split
     .omega
     .rfl
    simp(disch:=omega)only[SV,d5];rw[hz]<;>rfl
   have d5:decide (((s.log2:Nat):Int)<1)=false:=by simp;omega
   by_cases h6:11<s.log2
   .have d6:decide ((11:Int)<((s.log2:Nat):Int))=true:=by simp;omega
    have:=no (by omega);simp(disch:=omega)only[SV,d5,d6];rw[this]<;>rfl
   have d6:decide ((11:Int)<((s.log2:Nat):Int))=false:=by simp;omega
   simp(disch:=omega)only[SV,d5,d6];unfold OX OW acH FV;refine aN.rule (λm (t:a7C) w'=>∃i:Nat,m=x.size-i/\t= .int .i64 i/\i<=x.size/\(∀j,j<i->l.getD j 0<=s.log2)/\w'=w2) x.size ⟨0,rfl,rfl,by omega,λj h=>by omega,rfl⟩ ?_;rintro m t w3 ⟨i,rfl,rfl,hi,hle,rfl⟩;unfold acG;by_cases hlt:i<x.size
   .have d7:decide ((i:Int)<(x.size:Int))=true:=by simp;omega
    have hgi:=asO hlt;rw[hnl]at hgi;have hz256:l.getD i 0<256:=by rw[<-hnl];exact QS _ _ (rK (by rw[JC];exact hlt))
    have hzm:l.getD i 0∈l:=rK (by omega);generalize hzz:l.getD i 0=z at*;by_cases h8:s.log2<z
    .have d8:decide (((s.log2:Nat):Int)<(z:Int))=true:=by simp;omega
     have:=no (λh=>by have:=lF.1 h.2.2.2.2.2.2 z hzm;omega);simp(disch:=omega)only[SV,d7,hgi,d8];rw[this]<;>rfl
    .have d8:decide (((s.log2:Nat):Int)<(z:Int))=false:=by simp;omega
     simp(disch:=omega)only[SV,d7,hgi,d8];refine⟨x.size-(i+1),by omega,i+1,rfl,rfl,by omega,λj hj=> ?_⟩;rcases a1Y j i with h'|h'
     .exact hle j h'
     .have:j=i:=by omega
      subst this;omega
   .have d7:decide ((i:Int)<(x.size:Int))=false:=by simp;omega
    have hyes:gO l=s.log2:=by
     unfold gO
     rw[hs,if_pos ⟨hok,by omega,by omega,hlast',hp,by omega,lF.2 λy hy=>by
       obtain⟨j,hj,rfl⟩:=a4K hy;rw[<-afP hj];exact hle j (by omega)⟩]
    unfold OV;simp(disch:=omega)only[SV,d7];rw[hyes]
  .have:=no (λh=>hp h.2.2.2.2.1);have d5:decide ((-1:Int)<1)=true:=rfl;simp(disch:=omega)only[SV,d5];rw[this]<;>rfl
def aCJ(x:ByteArray)(o:Option Nat)(r:a7C):Prop:=match o with
 |none=>r= .tuple #[.string ⟨#[]⟩,.int .i64 11]
 |some k=>∃y:ByteArray,aM y=aM x++[UInt8.ofNat k]/\r= .tuple #[.string y,.int .i64 0]
theorem aLX(hl:x.size<=100000):
 aL pg Ry #[.string x] w (λr w'=>aCJ x (sJ (bL (aM x))) r/\aE w w' aP):=by
 refine azS ?_;have hsz:=JC x;obtain⟨l,hnl⟩:∃l,bL (aM x)=l:=⟨_,rfl⟩;rw[hnl]at hsz⊢;have no:¬(jR 11 l=true/\1<=l.length/\l.length<=255/\0<bB l/\bl (bB l)<=11/\2^(2^bl (bB l)-bB l).log2=2^bl (bB l)-bB l)->sJ l=none:=λh=>by
  unfold sJ;rw[if_neg h]
 unfold aBb acM acL;refine(aEO hl).mono ?_;rintro r w1 ⟨rfl,rfl⟩;rw[hnl];rcases a3J x.size with h0|h0
 .have hx:x=⟨#[]⟩:=Fs (a2K.1 (by rw[aI,h0]));have:=no (by omega);subst hx;simp(disch:=omega)only[SV,oI,Vy];rw[this];exact⟨rfl,aE.refl _ _⟩
 have hne:=ZM h0;by_cases h3:255<x.size
 .have d3:decide ((255:Int)<(x.size:Int))=true:=by simp;omega
  have:=no (by omega);simp(disch:=omega)only[SV,oI,hne,d3];rw[this];exact⟨rfl,aE.refl _ _⟩
 have d3:decide ((255:Int)<(x.size:Int))=false:=by simp;omega
 cases hok:jR 11 l with
 |false=>
  have:=no (by rw[hok];simp);have d4:decide ((-1:Int)<1)=true:=rfl;simp only[a2A,if_false];simp(disch:=omega)only[SV,oI,hne,d3,d4];rw[this];exact⟨rfl,aE.refl _ _⟩
 |true=>
  have hw:=Ik (lF.1 hok);simp only[if_true];obtain⟨s,hs⟩:∃s,bB l=s:=⟨_,rfl⟩;rw[hs]at no hw⊢;by_cases h4:s<1
  .have d4:decide ((s:Int)<1)=true:=by simp;omega
   have:=no (by omega);simp(disch:=omega)only[SV,oI,hne,d3,d4];rw[this];exact⟨rfl,aE.refl _ _⟩
  have d4:decide ((s:Int)<1)=false:=by simp;omega
  have hbl19:bl s<=19:=rH (by omega);have hlt:=Zz s;have hle:=ahM (k:=s) (by omega);have hbl0:=M9 (k:=s) (by omega);simp(disch:=omega)only[SV,oI,hne,d3,d4];unfold OZ FW;refine aN.rule (λm (t:a7C) w'=>∃d:Nat,m=bl s-d/\t= .int .i64 d/\1<=d/\d<=bl s/\w'=w1) (bl s-1) ⟨1,rfl,rfl,by omega,by omega,rfl⟩ ?_;rintro m t w2 ⟨d,rfl,rfl,hd1,hd2,rfl⟩;unfold acK;refine(IE d (by omega) w2).mono ?_;rintro r w3 ⟨rfl,rfl⟩;have hpow:((2^d:Nat):Int)=(2:Int)^d:=by simp
  rw[<-hpow];by_cases hq:d<bl s
  .have hp:2^d<=2^(bl s-1):=a1K (by omega) (by omega);have d5:decide (((2^d:Nat):Int)<=(s:Int))=true:=by simp only[decide_eq_true_eq];omega
   simp(disch:=omega)only[SV,d5];exact⟨bl s-(d+1),by omega,d+1,rfl,rfl,by omega,by omega⟩
  .have hde:d=bl s:=by omega
   rw[<-hde]at no hlt hle;have d5:decide (((2^d:Nat):Int)<=(s:Int))=false:=by simp only[decide_eq_false_iff_not];omega
   unfold OY;simp(disch:=omega)only[SV,d5];refine(IE d (by omega) w3).mono ?_;rintro r w4 ⟨rfl,rfl⟩;rw[<-hpow];have hp20:2^d<=2^19:=a1K (by omega) (by omega);have e1:((2^d:Nat):Int)-(s:Int)=((2^d-s:Nat):Int):=by omega
   obtain⟨q,hqq⟩:∃q,2^d-s=q:=⟨_,rfl⟩;rw[hqq]at no e1;simp(disch:=omega)only[SV,e1];refine(aEI _ w4).mono ?_;rintro r w5 ⟨hlog,rfl⟩;by_cases h6:11<d
   .have d6:decide ((11:Int)<(d:Int))=true:=by simp;omega
    have:=no (by omega);obtain⟨kr,hkr⟩:∃kr:Int,r= .int .i64 kr:=by
     rcases hlog with⟨e,_,_,h⟩|⟨_,h⟩
     .exact ⟨_,h⟩
     .exact ⟨_,h⟩
    subst hkr;simp(disch:=omega)only[SV,d6];rw[this];exact⟨rfl,aE.refl _ _⟩
   have d6:decide ((11:Int)<(d:Int))=false:=by simp;omega
   rcases aNC (by omega) (by omega) hlog with⟨hp,rfl⟩|⟨hp,rfl⟩
   .have hlg:q.log2<20:=(Nat.log2_lt (by omega)).2 (by omega);have d7:decide (((q.log2:Nat):Int)<0)=false:=by simp
    have hyes:sJ l=some (q.log2+1):=by
     unfold sJ;rw[hs,<-hde,hqq,if_pos ⟨hok,by omega,by omega,by omega,by omega,hp⟩]
    have e2:((q.log2:Nat):Int)+1=((q.log2+1:Nat):Int):=by omega
    have e8:IntKind.u8.wrap ((q.log2+1:Nat):Int)=((q.log2+1:Nat):Int):=aFA (by omega) (by omega);rw[hyes];simp(disch:=omega)only[SV,d6,d7,e2,e8];refine mO (cells:= #[.int .u8 (q.log2+1:Nat)]) (by decide) (by decide) (by kernel_rfl) λw6 o6 x6 s6=> ?_;have hb6:Bs w6 (.slice (some ⟨w5.heap.size,0,none⟩) 1 1) [UInt8.ofNat (q.log2+1)]:=by
     refine⟨_,_,_,rfl,rfl,a1J _,λ_=>⟨_,_,rfl,λi hi=> ?_⟩⟩;rw[o6.cell,a1Q,a4D,a6Y,aKU (by omega)]
    have hcv:=cU hb6;have hcat:=anM (P:=pg) (t:=9) (ox:= .tmp 0) (oy:= .tmp 0) (w:=w6) x ⟨([UInt8.ofNat (q.log2+1)]:List UInt8).toArray⟩ (by
     have:(⟨([UInt8.ofNat (q.log2+1)]:List UInt8).toArray⟩:ByteArray).size=1:=rfl;omega)
    have hsz1:(⟨([UInt8.ofNat (q.log2+1)]:List UInt8).toArray⟩:ByteArray).size=1:=rfl;simp(disch:=omega)only[SV,hcv,anM,hsz1];refine⟨⟨_, ?_,rfl⟩,x6⟩;rw[CR]<;>rfl
   .have:=no (λh=>hp h.2.2.2.2.2);have d7:decide ((-1:Int)<0)=true:=rfl;simp(disch:=omega)only[SV,d6,d7];rw[this];exact⟨rfl,aE.refl _ _⟩
def aIo(l:List Nat)(d q i code bits:Nat):Prop:=
 (bits=0/\code=0/\DH l q i=0)∨(∃q0,1<=q0/\q0<=q/\q0<=d/\bits=d+1-q0/\(code+1)*2^(q0-1)=DH l q i)
theorem aGw{dv outv sv:a7C}{c0 b0 now:Nat}(hc:c0<2^40)(hb:b0<=100)(hnow:now<=100){kn:a7C->a7C->a7C->a7C->a7C->a7C->a7C->a7B->Prop}
 (hK:zV kn lv dv outv (.int .i64 (c0/2^(b0-now):Nat)) wv sv (.int .i64 now) w):
 FU kn lv dv outv (.int .i64 c0) (.int .i64 b0) wv sv (.int .i64 now) w:=by
 unfold FU FT;refine aN.rule (λm (t:a7C×a7C) w'=>∃j:Nat,m=b0-j/\t=(.int .i64 (c0/2^j:Nat),.int .i64 (b0-j:Nat))/\j<=b0-now/\w'=w) b0 ⟨0,rfl,by simp,by omega,rfl⟩ ?_;rintro m t w1 ⟨j,rfl,rfl,hj,rfl⟩;have hcl:=a3Q c0 (2^j);have hs:c0/2^(j+1)=c0/2^j/2:=by rw[a2O,a5I]
 unfold acE;by_cases hlt:j<b0-now
 .have d1:decide ((now:Int)<((b0-j:Nat):Int))=true:=by simp only[decide_eq_true_eq];omega
  have e1:((c0/2^j:Nat):Int).tdiv 2=((c0/2^(j+1):Nat):Int):=by
   rw[hs];generalize c0/2^j=z;rw[a1R (by omega)];omega
  have e2:((b0-j:Nat):Int)-1=((b0-(j+1):Nat):Int):=by omega
  generalize c0/2^j=x at*;simp(disch:=omega)only[SV,d1,e1,e2];exact⟨b0-(j+1),by omega,j+1,rfl,rfl,by omega⟩
 .have d1:decide ((now:Int)<((b0-j:Nat):Int))=false:=by simp only[decide_eq_false_iff_not];omega
  have:j=b0-now:=by omega
  subst this;simp(disch:=omega)only[SV,d1];exact hK
theorem aEG{d:Nat}(hd:gO (bL (aM x))=d)(hd0:d≠0):
 aL pg Ir #[.string x] w (λr w'=>∃b cap rest,r= .tuple #[.slice (some ⟨b,0,none⟩) x.size cap,.int .i64 0]/\aT w' b (cc (gN (bL (aM x)) d)++rest)/\aE w w' aP):=by
 refine Um ?_;have hsz:=JC x;obtain⟨l,hnl⟩:∃l,bL (aM x)=l:=⟨_,rfl⟩;rw[hnl]at hsz hd⊢;obtain⟨hall,hd11,hl2,hl256,hlast,hsum⟩:=Mo hd hd0;have hp2:2^d<=2^11:=a1K (by omega) hd11;unfold acD KU KT;refine(aEH (by omega)).mono ?_;rintro r w1 ⟨rfl,rfl⟩;rw[hnl,hd];have n1:((d:Int)==0)=false:=beq_eq_false_iff_ne.2 (by omega);simp(disch:=omega)only[SV,n1];unfold KS KR X5 Ci;refine aN.rule (λm (t:a7C×a7C) w'=>∃(i:Nat) (v:a7C),m=x.size-i/\t=(v,.int .i64 i)/\i<=x.size/\mH w' w1.heap.size 2 v i (cc (List.replicate i (0,0)))/\aE w1 w' aP) x.size
  ⟨0,_,rfl,rfl,by omega,mH.nil _ _ _,aE.refl _ _⟩ ?_
 rintro m t w2 ⟨i,v,rfl,rfl,hi,o2,x2⟩;have z2:=x2.size;unfold X4;by_cases hlt:i<x.size
 .have d1:decide ((i:Int)<(x.size:Int))=true:=by simp;omega
  obtain⟨av,cv,rfl⟩:=o2.len;simp(disch:=omega)only[SV,d1];refine To (cells:= #[.int .i64 0,.int .i64 0]) (by decide) (by decide) (by kernel_rfl) λw3 o3 x3 s3=> ?_;have z3:=x3.size;refine sZ (m:=1) (news:=[.int .i64 0,.int .i64 0]) (o2.ext x3 (λ_ _ h=>h)) (o3.cl (off:=0) (l:=[.int .i64 0,.int .i64 0]) (n:=1) rfl (λi hi=>by rw[a1Q])) (by simp[one]) (by omega) (by omega) λv4 w4 o4 x4=> ?_;have e1:cc (List.replicate i (0,0))++[Value.int .i64 0,Value.int .i64 0]=cc (List.replicate (i+1) (0,0)):=by
   rw[a5C,aFS]<;>rfl
  rw[e1]at o4;obtain⟨av4,cv4,rfl⟩:=o4.len;exact⟨x.size-(i+1),by omega,i+1,_,rfl,rfl,by omega,o4,(x2.seq x3).trans x4 λb hb h=>by omega⟩
 .have d1:decide ((i:Int)<(x.size:Int))=false:=by simp;omega
  obtain rfl:i=x.size:=by omega
  rcases o2.2 with⟨_,h0⟩|⟨pb,cap,rest,rfl,hpb,ob2,hcap,hcap2⟩
  .omega
  simp(disch:=omega)only[SV,d1];unfold KQ X3
  try simp(disch:=omega)only[SV]
  unfold KP KO X2 Ch;rw[<-hsz,<-ahP l d]at ob2;refine aN.rule (λm (t:a7C×a7C×a7C) w'=>∃q code bits:Nat,m=d+1-q/\t=(.int .i64 code,.int .i64 bits,.int .i64 q)/\1<=q/\q<=d+1/\code<2^20/\aIo l d q 0 code bits/\aT w' pb (cc (oD l d q 0)++rest)/\aE w2 w' (λy=>y=pb)) d
   ⟨1,0,0,by omega,rfl,by omega,by omega,by decide,.inl ⟨rfl,rfl,aC0 l⟩,ob2,aE.refl _ _⟩ ?_
  rintro m t w3 ⟨q,code,bits,rfl,rfl,hq1,hqd,hcode,hlast8,o3,x3⟩;unfold X1 X0;by_cases hq:q<=d
  .have d2:decide ((q:Int)<=(d:Int))=true:=by simp;omega
   simp(disch:=omega)only[SV,d2];unfold KN KM XZ Cg;refine aN.rule (λm (t:a7C×a7C×a7C) w'=>∃i code bits:Nat,m=x.size-i/\t=(.int .i64 code,.int .i64 bits,.int .i64 i)/\i<=x.size/\code<2^20/\aIo l d q i code bits/\aT w' pb (cc (oD l d q i)++rest)/\aE w2 w' (λy=>y=pb)) x.size
    ⟨0,code,bits,rfl,rfl,by omega,hcode,hlast8,o3,x3⟩ ?_
   rintro m t w4 ⟨i,code,bits,rfl,rfl,hi,hcode,hlast8,o4,x4⟩;unfold XY XX;by_cases hlt:i<x.size
   .have d3:decide ((i:Int)<(x.size:Int))=true:=by simp;omega
    have hg:=asO hlt;rw[hnl]at hg;have hstep:=axL (l:=l) (w:=q) (i:=i) (by omega);have hskip:=aqV (l:=l) (d:=d) (w:=q) (i:=i) (by omega);have hset:=aAK (l:=l) (d:=d) (w:=q) (i:=i) (by omega);have hof:=aGS (l:=l) (w:=q) (i:=i);have hle:=aNd (l:=l) (d:=d) (w:=q) (i:=i) hsum hall hq1 hq;have hco:Ey l d i=if l.getD i 0=0 then(0,0)else(d+1-l.getD i 0,M1 l i/2^(l.getD i 0-1)):=rfl
    have hdv:=aKS (l:=l) (s:=i) (d:=d) (by omega);have hy:l.getD i 0<256:=by rw[<-hnl];exact QS _ _ (rK (by rw[JC];exact hlt))
    generalize l.getD i 0=y at*;unfold KL KK XW acF;by_cases hyq:y=q
    .subst hyq;have n2:((y:Int) !=(y:Int))=false:=by simp
     have e1:(d:Int)+1-(y:Int)=((d+1-y:Nat):Int):=by omega
     rw[if_neg (by omega),<-hof rfl]at hco;rw[if_pos rfl]at hstep;have hset:=hset rfl;have hdv:=hdv (by omega) hsum hq;rw[<-hof rfl]at hdv;rw[hco]at hset;have hpx:=a2G (y-1);obtain⟨cd,hcd⟩:=hdv;have hdiv:DH l y i/2^(y-1)=cd:=by rw[hcd,a5W _ hpx]
     rw[hdiv]at hset;have hcdl:cd<=DH l y i:=by rw[<-hdiv];exact a3Q _ _
     have hl8':aIo l d y (i+1) cd (d+1-y):=by
      refine .inr ⟨y,hq1,a1J _,hq,rfl, ?_⟩;rw[hstep,hcd,a3D,a2N cd];omega
     have fin:zV (λdJ qN bK bO bR LS qM w=>zU (λ_ _ _ bO bR _ qM w'=>∃m,m<x.size-i/\∃i' code bits:Nat,m=x.size-i'/\(bO,bR,qM)=((.int .i64 code:a7C),(.int .i64 bits:a7C),(.int .i64 i':a7C))/\i'<=x.size/\code<2^20/\aIo l d y i' code bits/\aT w' pb (cc (oD l d y i')++rest)/\aE w2 w' (λy=>y=pb)) dJ qN bK bO bR LS qM w)
         (.string x) (.int .i64 d) (.slice (some ⟨pb,0,none⟩) x.size cap) (.int .i64 cd) (.int .i64 y) (.int .i64 i) (.int .i64 (d+1-y:Nat)) w4:=by
      unfold zV;simp(disch:=omega)only[SV];refine Y2 o4 rfl (by simp[one]) (by rw[a1O,Dj,dF];omega) λw5 o5 x5 s5=> ?_;simp only[aF]at o5;have hcs:=aK4 (L:=oD l d y i) (i:=i) (d+1-y,cd) (by rw[dF];omega);simp only at hcs;rw[a4S _ _ (by rw[Dj,dF];omega),a4S _ _ (by rw[List.length_set,Dj,dF];omega),hcs,hset]at o5;unfold zU;simp(disch:=omega)only[SV];exact⟨x.size-(i+1),by omega,i+1,cd,d+1-y,rfl,rfl,by omega,by omega,hl8',o5,x4.trans x5 λ_ _ h=>h⟩
     rcases hlast8 with⟨rfl,rfl,hat0⟩|⟨q0,h1,h2,h3,rfl,h5⟩
     .have hcd0:cd=0:=by
       rw[hat0]at hdiv;rw[<-hdiv,Nat.zero_div]
      have d4:decide ((0:Int)<((0:Nat):Int))=false:=rfl;simp(disch:=omega)only[SV,d3,hg,n2,e1,d4];refine aGw (c0:=0) (b0:=0) (now:=d+1-y) (by decide) (by omega) (by omega) ?_;rw[Nat.zero_div];subst hcd0;exact fin
     .have d4:decide ((0:Int)<((d+1-q0:Nat):Int))=true:=by simp only[decide_eq_true_eq];omega
      have e2:(code:Int)+1=((code+1:Nat):Int):=by omega
      have hcd2:(code+1)/2^(d+1-q0-(d+1-y))=cd:=by
       rw[<-hdiv,<-h5,show d+1-q0-(d+1-y)=y-q0 from by omega,show y-1=(y-q0)+(q0-1)from by omega,a4A,Nat.mul_div_mul_right _ _ (a2G _)]
      simp(disch:=omega)only[SV,d3,hg,n2,e1,d4,e2];refine aGw (c0:=code+1) (b0:=d+1-q0) (now:=d+1-y) (by omega) (by omega) (by omega) ?_;rw[hcd2];exact fin
    .have n2:((y:Int) !=(q:Int))=true:=by simp;omega
     rw[if_neg hyq,a3I]at hstep;have hskip:=hskip hyq;unfold zU;simp(disch:=omega)only[SV,d3,hg,n2];refine⟨x.size-(i+1),by omega,i+1,code,bits,rfl,rfl,by omega,hcode, ?_,by rw[hskip];exact o4,x4⟩;rcases hlast8 with⟨a1,a2,a3⟩|⟨q0,a1,a2,a3,a4,a5⟩
     .exact .inl ⟨a1,a2,by rw[hstep];exact a3⟩
     .exact .inr ⟨q0,a1,a2,a3,a4,by rw[hstep];exact a5⟩
   .have d3:decide ((i:Int)<(x.size:Int))=false:=by simp;omega
    obtain rfl:i=x.size:=by omega
    have e1:=axK (l:=l) (w:=q) hq1;have e2:=aqU (l:=l) (d:=d) (w:=q);rw[hsz]at e1 e2;rw[e2]at o4;have hl8':aIo l d (q+1) 0 code bits:=by
     rcases hlast8 with⟨a1,a2,a3⟩|⟨q0,a1,a2,a3,a4,a5⟩
     .exact .inl ⟨a1,a2,by rw[<-e1];exact a3⟩
     .exact .inr ⟨q0,a1,by omega,a3,a4,by rw[<-e1];exact a5⟩
    unfold OU;simp(disch:=omega)only[SV,d3];exact⟨d+1-(q+1),by omega,q+1,code,bits,rfl,rfl,by omega,by omega,hcode,hl8',o4,x4⟩
  .have d2:decide ((q:Int)<=(d:Int))=false:=by simp;omega
   rw[aAJ hall (by omega)]at o3;unfold OT;simp(disch:=omega)only[SV,d2];exact⟨pb,cap,rest,rfl,o3,x2.trans x3 λ_ hb h=>by omega⟩
theorem awC(hl:x.size<=100000)(hd:gO (bL (aM x))=0):
 aL pg Ir #[.string x] w (λr w'=>r= .tuple #[.slice none 0 0,.int .i64 1]/\w'=w):=by
 refine Um ?_;unfold acD KU KT;refine(aEH hl).mono ?_;rintro r w1 ⟨rfl,rfl⟩;rw[hd];have n1:(((0:Nat):Int)==0)=true:=rfl;simp(disch:=omega)only[SV,n1]
theorem aJR(hxw:xw.size<=100000)(hx:x.size<=1000000)(hn:n<=131072):
 aL pg MC #[.string xw,.string x,.int .i64 n] w (λr w'=>uD (arV (aM xw) (aM x) n) r/\aE w w' aP):=by
 refine auZ ?_;obtain⟨RR,hRR⟩:∃RR:a7C->a7B->Prop,RR=λr w'=>uD (arV (aM xw) (aM x) n) r/\aE w w' aP:=⟨_,rfl⟩;rw[<-hRR];have key:∀r w',uD (arV (aM xw) (aM x) n) r->aE w w' aP->RR r w':=λr w' h1 h2=>by rw[hRR];exact⟨h1,h2⟩
 unfold auY Ye;by_cases hd:gO (bL (aM xw))=0
 .refine (awC hxw hd).mono ?_;rintro r w1 ⟨rfl,rfl⟩;have n0:((1:Int) !=0)=true:=rfl;simp(disch:=omega)only[SV,n0];exact key _ _ (by unfold arV;rw[if_pos hd]<;>rfl) (aE.refl _ _)
 .obtain ⟨hF,hm,hC⟩:=WOk.full hd;have hlen:xw.size=(wC (aM xw)).length:=by rw[wA,a1M];exact(aI xw).symm
  refine(aEG rfl hd).mono ?_;rintro r w1 ⟨b,cap,rest,rfl,ob,x1⟩;have n0:((0:Int) !=0)=false:=rfl;have d1:decide ((n:Int)<0)=false:=decide_eq_false (by omega);have d2:decide (131072<(n:Int))=false:=decide_eq_false (by omega);have d3:decide ((n:Int)>131072)=false:=decide_eq_false (by omega);simp(disch:=omega)only[SV,n0,d1,d2,d3];rw[hlen];refine(aBj hF hm hC ob hx hn).mono ?_;rintro r w2 ⟨hr,x2⟩;have hh:arV (aM xw) (aM x) n=qB (wC (aM xw)) (aM x) n:=by unfold arV;rw[if_neg hd]
  rw[hh]at key;cases hs:qB (wC (aM xw)) (aM x) n with
  |error e=>
   rw[hs]at hr key;obtain rfl:r= .tuple #[.string ⟨#[]⟩,.int .i64 e]:=hr;simp(disch:=omega)only[SV];exact key _ _ rfl (x1.seq x2)
  |ok m=>
   rw[hs]at hr key;obtain rfl:r= .tuple #[.string ⟨(lI m).toArray⟩,.int .i64 0]:=hr;simp(disch:=omega)only[SV];exact key _ _ rfl (x1.seq x2)
theorem aLd{kn:K9}{n2 k10 a b c iv:a7C}{cb cap m:Nat}{rest:List a7C}{out:ByteArray}(hF:amC C (gJ C))(hm:gJ C<=11)(hC:C.length<=256)(oc:aT w cb (cc C++rest))(hne:cb≠p)
 (o:aT w p [.string x,.int .i64 0]) (hk:k<=(aM x).length) (hx:x.size<=1000000) (hmn:m<=131072) (hout:out.size<=10000000)
 (kerr:∀e w',qB C ((aM x).take k) m= .error e->aE w w' (λy=>y=p)->RR (.tuple #[.string ⟨#[]⟩,.int .i64 e]) w')
 (kok:∀ms x' out' w',qB C ((aM x).take k) m= .ok ms->aT w' p [.string x',.int .i64 0]->aM x'=(aM x).drop k->aM out'=aM out++lI ms->aE w w' (λy=>y=p)->kn n2 (.slice (some ⟨cb,0,none⟩) C.length cap) k10 (.pointer (some ⟨p,0,none⟩)) a b c (.string out') iv w'):
 tN kn RR n2 (.slice (some ⟨cb,0,none⟩) C.length cap) k10 (.pointer (some ⟨p,0,none⟩)) a b c (.string out) iv (.int .i64 m) (.int .i64 k) w:=by
 unfold tN;have q:=aV (off:=0) o (by simp);simp only[a1F,a1C,a1G]at q;simp(disch:=omega)only[SV,q];refine(aGv (x:=x) (e:=0) (n:=k)).mono ?_;rintro r w1 ⟨x',s,rfl,hx',hs,x1⟩;have ht:gH (aM x) 0 k=((aM x).take k,(aM x).drop k,0):=by unfold gH;rw[if_neg (by simp),if_neg (by omega)]
 rw[ht]at hx' hs⊢;simp only at hx' hs⊢;have hss:s.size<=1000000:=by
  have h1:=aI s;have h2:=aI x;rw[hs,a1N]at h1;omega
 simp(disch:=omega)only[SV];refine bD λw2 o2 x2 s2=> ?_;refine aS o2 rfl (by simp[one]) (by simp) λw3 o3 x3 s3=> ?_;simp only[aF,a1E,a1D]at o3;have q3:=aV (off:=0) o3 (by simp);simp only[a1F,a1C,a1G]at q3;have x13:aE w1 w3 aP:=x2.new x3 (by omega);have x03:=x1.seq x13;simp(disch:=omega)only[SV,q3];refine aS (o.ext x03 (λh=>h)) rfl (by simp[one]) (by simp) λw4 o4 x4 s4=> ?_;simp only[aF,a1E,a1D]at o4;have x04:aE w w4 (λy=>y=p):=(x03.mono λ_ _ h=>h.elim).seq x4;refine(aBj (x:=s) hF hm hC (oc.ext x04 hne) hss hmn).mono ?_;rintro r w5 ⟨hr,x5⟩;rw[hs]at hr;have x05:aE w w5 (λy=>y=p):=x04.seq (x5.mono λ_ _ h=>h.elim);cases hd:qB C ((aM x).take k) m with
 |error e=>
  rw[hd]at hr;obtain rfl:r= .tuple #[.string ⟨#[]⟩,.int .i64 e]:=hr;have n1:(e !=0)=true:=by have:=agA hd;simp;omega
  simp(disch:=omega)only[SV,n1];exact kerr e w5 hd x05
 |ok ms=>
  rw[hd]at hr;obtain rfl:r= .tuple #[.string ⟨(lI ms).toArray⟩,.int .i64 0]:=hr;have n1:((0:Int) !=0)=false:=rfl;have hml:=UD hd;have hz:(⟨(lI ms).toArray⟩:ByteArray).size=m:=by rw[<-aI,aHr];simp[lI,hml]
  have hcat:((out.size+(⟨(lI ms).toArray⟩:ByteArray).size:Nat):Int)<=9223372036854775807:=by rw[hz];omega
  generalize hy:(⟨(lI ms).toArray⟩:ByteArray)=y at*;simp(disch:=omega)only[SV,n1,anM];refine kok ms x' _ w5 hd (o4.ext x5 (λh=>h)) hx' ?_ x05;rw[CR,<-hy];exact congrArg (aM out++·) (aHr (lI ms))
abbrev q4 (a b c d q m:Nat):List (Nat×Nat):=[(a,q),(b,q),(c,q),(d,m)]
theorem aQu(a b:List Nat):lI (a++b)=lI a++lI b:=a2I
theorem aLc{cb cap na nb nc nd:Nat}{rest:List a7C}(hF:amC C (gJ C))(hm:gJ C<=11)(hC:C.length<=256)(oc:aT w cb (cc C++rest))(hne:cb≠p)
 (o:aT w p [.string x,.int .i64 0]) (hx:(aM x).length=na+nb+nc+nd) (hxl:(aM x).length<=1000000) (hq:3*q<=n) (hn:n<=131072)
 (hk:∀r w',uD (GJ C (aM x) (q4 na nb nc nd q (n-3*q))) r->aE w w' (λy=>y=p)->RR r w'):
 xX RR (.int .i64 n) (.slice (some ⟨cb,0,none⟩) C.length cap) (.int .i64 q) (.pointer (some ⟨p,0,none⟩)) (.int .u64 na) (.int .u64 nb) (.int .u64 nc) (.string ⟨#[]⟩) w:=by
 unfold xX FY Q0 xW;obtain⟨L4,hL4⟩:∃L,L=q4 na nb nc nd q (n-3*q):=⟨_,rfl⟩;rw[<-hL4]at hk;obtain⟨G,hG⟩:∃G,G=GJ C (aM x) L4:=⟨_,rfl⟩;rw[<-hG]at hk;have hlp:=o.lt;refine aN.rule (λk (t:a7C×a7C) w'=>∃(i:Nat) (acc:List Nat) (y out:ByteArray),k=4-i/\t=(.string out,.int .i64 i)/\i<=4/\ZG acc (GJ C (aM y) (L4.drop i))=G/\aT w' p [.string y,.int .i64 0]/\aM out=lI acc/\acc.length<=i*n/\(aM y).length=((L4.drop i).map Prod.fst).sum/\aE w w' (λy=>y=p)) 4
  ⟨0,[],x,⟨#[]⟩,rfl,rfl,by omega, ?_,o,rfl,by simp, ?_,aE.refl _ _⟩ ?_
 .rw [hG,a1F];unfold ZG;cases GJ C (aM x) L4<;>rfl
 .rw [hL4,hx];simp;omega
 rintro k t w1 ⟨i,acc,y,out,rfl,rfl,hi,hGc,o1,hout,hacc,hy,x1⟩;have oc1:=oc.ext x1 hne;have hosz:out.size<=10000000:=by
  have h1:=aI out;rw[hout,a1M]at h1;have:i*n<=4*n:=a2V _ hi;omega
 unfold Ur Uq;by_cases hlt:i<4
 .have d1:decide ((i:Int)<4)=true:=by simp;omega
  simp(disch:=omega)only[SV,d1];unfold HQ HP Up;refine aqN (cells:= #[.int .u64 na,.int .u64 nb,.int .u64 nc,.int .u64 0]) (by decide) (by decide) (by kernel_rfl) λw2 o2 x2 s2=> ?_;have ysz:y.size<=1000000:=by
   have h1:=aI y;rw[hy,hL4]at h1;rcases(show i=0∨i=1∨i=2∨i=3 by omega)with rfl|rfl|rfl|rfl<;>(simp at h1;omega)
  have o12:=o1.ext x2 (λh=>h);have oc2:=oc1.ext x2 (λh=>h)
  have step:∀(kk m:Nat) (R':List (Nat×Nat)) (kn:K9),L4.drop i=(kk,m)::R'->m<=n->R'=L4.drop (i+1)→
      (∀(acc:List Nat) (y out:ByteArray) (w':a7B),ZG acc (GJ C (aM y) (L4.drop (i+1)))=G->aT w' p [.string y,.int .i64 0]->aM out=lI acc->acc.length<=(i+1)*n->(aM y).length=((L4.drop (i+1)).map Prod.fst).sum->aE w w' (λy=>y=p)→
        kn (.int .i64 n) (.slice (some ⟨cb,0,none⟩) C.length cap) (.int .i64 q) (.pointer (some ⟨p,0,none⟩)) (.int .u64 na) (.int .u64 nb) (.int .u64 nc) (.string out) (.int .i64 i) w')→
      tN kn RR (.int .i64 n) (.slice (some ⟨cb,0,none⟩) C.length cap) (.int .i64 q) (.pointer (some ⟨p,0,none⟩)) (.int .u64 na) (.int .u64 nb) (.int .u64 nc) (.string out) (.int .i64 i) (.int .i64 m) (.int .i64 kk) w2:=by
   intro kk m R' kn hd hmn hR hkn;rw[hd,a4D,List.sum_cons]at hy;simp only at hy;rw[hd,aAq]at hGc;refine aLd hF hm hC oc2 hne o12 (by omega) ysz (by omega) hosz ?_ ?_
   .intro e w' he x';rw[he]at hGc;refine hk _ _ ?_ ((x1.seq (x2.mono λ_ _ h=>h.elim)).seq x');rw[<-hGc];rfl
   .intro ms y' out' w' he o' hy' ho' x';rw[he]at hGc;have hml:=UD he;refine hkn (acc++ms) y' out' w' ?_ o' ?_ ?_ ?_ ((x1.seq (x2.mono λ_ _ h=>h.elim)).seq x')
    .rw [hy',<-hR];exact hGc
    .rw [ho',hout,aQu]
    .rw [a1O,a7A];omega
    .rw [hy',a1L,<-hR];omega
  have fin:∀(acc:List Nat) (y out:ByteArray) (w':a7B),ZG acc (GJ C (aM y) (L4.drop (i+1)))=G->aT w' p [.string y,.int .i64 0]->aM out=lI acc->acc.length<=(i+1)*n->(aM y).length=((L4.drop (i+1)).map Prod.fst).sum->aE w w' (λy=>y=p)→
      ∃k',k'<4-i/\∃(i':Nat) (acc:List Nat) (y out':ByteArray),k'=4-i'/\((Value.string out,Value.int .i64 ((i:Int)+1)):a7C×a7C)=(.string out',.int .i64 i')/\i'<=4/\ZG acc (GJ C (aM y) (L4.drop i'))=G/\aT w' p [.string y,.int .i64 0]/\aM out'=lI acc/\acc.length<=i'*n/\(aM y).length=((L4.drop i').map Prod.fst).sum/\aE w w' (λy=>y=p):=
   λacc y out w' h1 h2 h3 h4 h5 h6=>⟨4-(i+1),by omega,i+1,acc,y,out,rfl,by simp,by omega,h1,h2,h3,h4,h5,h6⟩
  have k:=λj=>o2.cell (off:=j);have kk0:=k 0;have kk1:=k 1;have kk2:=k 2;have kk3:=k 3;simp only[a1A,a1B]at kk0 kk1 kk2 kk3;have ky:=o12.cell (off:=0);simp only[a1A]at ky;have ysl:=aI y;clear k;rcases(show i=0∨i=1∨i=2∨i=3 by omega)with rfl|rfl|rfl|rfl
  .have t0:(0:Int).toNat=0:=rfl;have ti:(((0:Nat):Int)).toNat=0:=rfl;have n1:((((0:Nat):Int))==3)=false:=rfl;have wv:IntKind.i64.wrap (na:Int)=(na:Int):=dM (by omega) (by omega);simp(disch:=omega)only[SV,ti,t0,kk0,n1,wv,a2Z,a5J,a1Q];refine step na q _ _ (by rw[hL4]<;>rfl) (by omega) (by rw[hL4]<;>rfl) λacc y out w' h1 h2 h3 h4 h5 h6=> ?_;unfold pH;simp(disch:=omega)only[SV];exact fin acc y out w' h1 h2 h3 h4 h5 h6
  .have t0:(0:Int).toNat=0:=rfl;have ti:(((1:Nat):Int)).toNat=1:=rfl;have n1:((((1:Nat):Int))==3)=false:=rfl;have wv:IntKind.i64.wrap (nb:Int)=(nb:Int):=dM (by omega) (by omega);simp(disch:=omega)only[SV,ti,t0,kk1,n1,wv,a2Z,a5J,a1Q];refine step nb q _ _ (by rw[hL4]<;>rfl) (by omega) (by rw[hL4]<;>rfl) λacc y out w' h1 h2 h3 h4 h5 h6=> ?_;unfold pH;simp(disch:=omega)only[SV];exact fin acc y out w' h1 h2 h3 h4 h5 h6
  .have t0:(0:Int).toNat=0:=rfl;have ti:(((2:Nat):Int)).toNat=2:=rfl;have n1:((((2:Nat):Int))==3)=false:=rfl;have wv:IntKind.i64.wrap (nc:Int)=(nc:Int):=dM (by omega) (by omega);simp(disch:=omega)only[SV,ti,t0,kk2,n1,wv,a2Z,a5J,a1Q];refine step nc q _ _ (by rw[hL4]<;>rfl) (by omega) (by rw[hL4]<;>rfl) λacc y out w' h1 h2 h3 h4 h5 h6=> ?_;unfold pH;simp(disch:=omega)only[SV];exact fin acc y out w' h1 h2 h3 h4 h5 h6
  .have t0:(0:Int).toNat=0:=rfl;have ti:(((3:Nat):Int)).toNat=3:=rfl;have n1:((((3:Nat):Int))==3)=true:=rfl;have e1:(n:Int)-3*(q:Int)=((n-3*q:Nat):Int):=by omega
   have hnd:y.size=nd:=by rw[<-ysl,hy,hL4];simp
   have w0:IntKind.i64.wrap 0=0:=rfl;simp(disch:=omega)only[SV,ti,t0,kk3,ky,n1,w0,e1,hnd,a2Z,a5J,a1Q];refine step nd (n-3*q) _ _ (by rw[hL4]<;>rfl) (by omega) (by rw[hL4]<;>rfl) λacc y out w' h1 h2 h3 h4 h5 h6=> ?_;unfold pH;simp(disch:=omega)only[SV];exact fin acc y out w' h1 h2 h3 h4 h5 h6
 .have d1:decide ((i:Int)<4)=false:=by simp;omega
  have hi4:i=4:=by omega
  subst hi4;have d1:decide (((4:Nat):Int)<4)=false:=rfl;simp(disch:=omega)only[SV,d1];unfold HO;refine hk _ _ ?_ x1;rw[<-hGc,hL4];show Value.tuple #[.string out,.int .i64 0]=Value.tuple #[.string ⟨(lI (acc++[])).toArray⟩,.int .i64 0];rw[a4M,<-hout];rfl
theorem aHJ(hxw:xw.size<=100000)(hx:x.size<=1000000)(hn:n<=131072):
 aL pg JQ #[.string xw,.string x,.int .i64 n] w (λr w'=>uD (Sf (aM xw) (aM x) n) r/\aE w w' aP):=by
 refine aoR ?_;obtain⟨RR,hRR⟩:∃RR:a7C->a7B->Prop,RR=λr w'=>uD (Sf (aM xw) (aM x) n) r/\aE w w' aP:=⟨_,rfl⟩;rw[<-hRR];have key:∀r w',uD (Sf (aM xw) (aM x) n) r->aE w w' aP->RR r w':=λr w' h1 h2=>by rw[hRR];exact⟨h1,h2⟩
 have hxl:=aI x;unfold akE Q2 Q1;by_cases hd:gO (bL (aM xw))=0
 .refine (awC hxw hd).mono ?_;rintro r w1 ⟨rfl,rfl⟩;have n0:((1:Int) !=0)=true:=rfl;simp(disch:=omega)only[SV,n0];exact key _ _ (by unfold Sf;rw[if_pos hd]<;>rfl) (aE.refl _ _)
 obtain⟨hF,hm,hC⟩:=WOk.full hd;have hlen:xw.size=(wC (aM xw)).length:=by rw[wA,a1M];exact(aI xw).symm
 refine(aEG rfl hd).mono ?_;rintro r w1 ⟨b,cap,rest,rfl,ob,x1⟩;have n0:((0:Int) !=0)=false:=rfl;have d1:decide ((n:Int)<0)=false:=decide_eq_false (by omega);have d2:decide (131072<(n:Int))=false:=decide_eq_false (by omega);have d3:decide ((n:Int)>131072)=false:=decide_eq_false (by omega);obtain⟨q,hq⟩:∃q,q=(n+3)/4:=⟨_,rfl⟩;have eq:((n:Int)+3).tdiv 4=(q:Int):=by rw[a1R (by omega),hq];omega
 rw[hlen]
 have hH:Sf (aM xw) (aM x) n=if n<3*q then .error 11 else if(aM x).length<6 then .error 10 else if((aM x).drop 6).length<nA (aM x)+nB (aM x)+nC (aM x)then .error 10
     else GJ (wC (aM xw)) ((aM x).drop 6) [(nA (aM x),q),(nB (aM x),q),(nC (aM x),q),(((aM x).drop 6).length-(nA (aM x)+nB (aM x)+nC (aM x)),n-3*q)]:=by
  unfold Sf;rw[if_neg hd,hq]
 rw[hH]at key;by_cases h3:n<3*q
 .have d4:decide ((n:Int)<3*(q:Int))=true:=decide_eq_true (by omega);have d5:decide (3*(q:Int)>(n:Int))=true:=decide_eq_true (by omega);rw[if_pos h3]at key;simp(disch:=omega)only[SV,n0,d1,d2,d3,eq,d4,d5];exact key _ _ rfl x1
 rw[if_neg h3]at key;have d4:decide ((n:Int)<3*(q:Int))=false:=decide_eq_false (by omega);have d5:decide (3*(q:Int)>(n:Int))=false:=decide_eq_false (by omega);simp(disch:=omega)only[SV,n0,d1,d2,d3,eq,d4,d5];refine bD λw2 o2 x2 s2=> ?_;refine aS o2 rfl (by simp[one]) (by simp) λw3 o3 x3 s3=> ?_;simp only[aF,a1E,a1D]at o3;have x13:aE w1 w3 aP:=x2.new x3 (by omega);have lb:=ob.lt;obtain⟨p,hp⟩:∃p,p=w1.heap.size:=⟨_,rfl⟩;rw[<-hp]at o3⊢;have num:∀{y:ByteArray} {e:Int} {w:a7B},aT w p [.string y,.int .i64 e]->(cK 40 (.pointer (some ⟨p,0,none⟩))).run pg w= .ok (.value (rv y e)) w:=by
  intro y e w o;have q:=aV (off:=0) o (by simp);simp only[a1F,a1C,a1G]at q;exact q
 have q3:=num o3;simp(disch:=omega)only[SV,q3];refine(jQ (x:=x) (e:=0) (n:=2) (by omega)).mono ?_;rintro r w4 ⟨y1,rfl,hy1,x4⟩;simp(disch:=omega)only[SV];refine aS (o3.ext x4 (λh=>h)) rfl (by simp[one]) (by simp) λw5 o5 x5 s5=> ?_;simp only[aF,a1E,a1D]at o5;have q5:=num o5;simp(disch:=omega)only[SV,q5];refine(jQ (x:=y1) (n:=2) (by omega)).mono ?_;rintro r w6 ⟨y2,rfl,hy2,x6⟩;simp(disch:=omega)only[SV];refine aS (o5.ext x6 (λh=>h)) rfl (by simp[one]) (by simp) λw7 o7 x7 s7=> ?_;simp only[aF,a1E,a1D]at o7;have q7:=num o7;simp(disch:=omega)only[SV,q7];refine(jQ (x:=y2) (n:=2) (by omega)).mono ?_;rintro r w8 ⟨y3,rfl,hy3,x8⟩;simp(disch:=omega)only[SV];refine aS (o7.ext x8 (λh=>h)) rfl (by simp[one]) (by simp) λw9 o9 x9 s9=> ?_;simp only[aF,a1E,a1D]at o9;have x39:aE w3 w9 (λy=>y=p):=((((x4.mono λ_ _ h=>h.elim).seq x5).seq ((x6.mono λ_ _ h=>h.elim).seq x7)).seq ((x8.mono λ_ _ h=>h.elim).seq x9));have x03:=x1.seq x13;have z1:=x1.size;have x09:aE w w9 aP:=x03.trans x39 λy hy h=>by omega
 have ob9:=(ob.ext x13 (λh=>h)).ext x39 (by omega);have e1:gH (aM x) 0 2=(gH (nx (aM x) 0).1 (nx (aM x) 0).2 2):=rfl;have v1:cG (gH (aM x) 0 2).1=nv (aM x) 0:=rfl;have f1:(gH (aM x) 0 2).2.2=(nx (aM x) 1).2:=rfl;have g1:aM y1=(nx (aM x) 1).1:=hy1;rw[g1,f1]at hy2;have v2:cG (gH (aM y1) (gH (aM x) 0 2).2.2 2).1=nv (aM x) 1:=by rw[g1]<;>rfl
 have f2:(gH (aM y1) (gH (aM x) 0 2).2.2 2).2.2=(nx (aM x) 2).2:=by rw[g1]<;>rfl
 have g2:aM y2=(nx (aM x) 2).1:=hy2;rw[f2,g2]at hy3;have v3:cG (gH (aM y2) (gH (aM y1) (gH (aM x) 0 2).2.2 2).2.2 2).1=nv (aM x) 2:=by rw[f2,g2]<;>rfl
 have f3:(gH (aM y2) (gH (aM y1) (gH (aM x) 0 2).2.2 2).2.2 2).2.2=(nx (aM x) 3).2:=by rw[f2,g2]<;>rfl
 have g3:aM y3=(nx (aM x) 3).1:=hy3;rw[f3]at o9;rw[v1,v2,v3];generalize aM x=l at*;have k0:=o9.cell (off:=0);have k1:=o9.cell (off:=1);simp only[a1A,a1B]at k0 k1;by_cases h6:l.length<6
 .have hb:=aRl h6;rw[if_pos h6]at key;rw[hb]at k1;have n1:((10:Int) !=0)=true:=rfl;simp(disch:=omega)only[SV,k1,n1];exact key _ _ rfl x09
 obtain⟨_,_,h1,h2,h3',h4⟩:=aRm (l:=l) (by omega);rw[if_neg h6]at key;have g3:aM y3=l.drop 6:=by rw[g3,h1]
 rw[h1]at k1;rw[h2,h3',h4];have n1:((0:Int) !=0)=false:=rfl;have b1:nA l<65536:=by rw[<-h2];exact aDZ
 have b2:nB l<65536:=by rw[<-h3'];exact aDZ
 have b3:nC l<65536:=by rw[<-h4];exact aDZ
 have ysz:y3.size=(l.drop 6).length:=by rw[<-aI,g3]
 have hl6:(l.drop 6).length<=1000000:=by rw[a1L];omega
 have wy:IntKind.u64.wrap (((l.drop 6).length:Nat):Int)=(((l.drop 6).length:Nat):Int):=eL (by omega) (by omega);have ea:((nA l:Int)+(nB l:Int))=((nA l+nB l:Nat):Int):=by omega
 have eb:(((nA l+nB l:Nat):Int)+(nC l:Int))=((nA l+nB l+nC l:Nat):Int):=by omega
 have wa:IntKind.u64.wrap ((nA l+nB l:Nat):Int)=((nA l+nB l:Nat):Int):=eL (by omega) (by omega);have wb:IntKind.u64.wrap ((nA l+nB l+nC l:Nat):Int)=((nA l+nB l+nC l:Nat):Int):=eL (by omega) (by omega);by_cases hs:(l.drop 6).length<nA l+nB l+nC l
 .have d6:decide ((((l.drop 6).length:Nat):Int)<((nA l+nB l+nC l:Nat):Int))=true:=decide_eq_true (by omega);rw[if_pos hs]at key;simp(disch:=omega)only[SV,k1,n1,k0,ysz,wy,ea,eb,wa,wb,d6];exact key _ _ rfl x09
 .have d6:decide ((((l.drop 6).length:Nat):Int)<((nA l+nB l+nC l:Nat):Int))=false:=decide_eq_false (by omega);rw[if_neg hs]at key;simp(disch:=omega)only[SV,k1,n1,k0,ysz,wy,ea,eb,wa,wb,d6];rw[h1]at o9;refine aLc (nd:=(l.drop 6).length-(nA l+nB l+nC l)) (x:=y3) hF hm hC ob9 (by omega) o9 (by rw[g3];omega) (by rw[g3];omega) (by omega) hn ?_;intro r w' hr x';rw[g3]at hr;exact key _ _ hr (x09.trans x' λy hy h=>by omega)
theorem aNK{left:Int}(h1:left<=8*l.length):
 ((aG l).take left.toNat).take (((aG l).take left.toNat).length-min n ((aG l).take left.toNat).length)=(aG l).take (left-n).toNat/\
 (-left).toNat+(n-min n ((aG l).take left.toNat).length)=(-(left-n)).toNat:=by
 have hlen:((aG l).take left.toNat).length=left.toNat:=by rw[a1N,cJ];omega
 rw[hlen];constructor
 .rw [a5R];congr 1;omega
 .omega
theorem aJV(hl:x.size<=1000):
 aL pg MB #[.string x] w (λr w'=>uD (qL (aM x)) r/\aE w w' aP):=by
 refine auX ?_;obtain⟨RR,hRR⟩:∃RR:a7C->a7B->Prop,RR=λr w'=>uD (qL (aM x)) r/\aE w w' aP:=⟨_,rfl⟩;rw[<-hRR];have key:∀r w',uD (qL (aM x)) r->aE w w' aP->RR r w':=λr w' h1 h2=>by rw[hRR];exact⟨h1,h2⟩
 have hll:=aI x;unfold auW Yd Yc;refine(aEK (s:=x) (most:=6) (sym:=12) (by omega) (by omega)).mono ?_;rintro r w1 ⟨hr,x1⟩;unfold qL at key;cases hrd:uB (aG (aM x)) 6 12 with
 |error e=>
  rw[hrd]at hr key;have he:=Ms hrd;obtain rfl:=hr;have n1:(e !=0)=true:=by simp[he]
  simp(disch:=omega)only[SV];refine fS λw2 o2 x2 s2=> ?_;refine cS o2 rfl (by simp[one]) (by simp) λw3 o3 x3 s3=> ?_;simp(disch:=omega)only[SV,n1];exact key _ _ rfl (x1.seq (x2.new x3 (by omega)))
 |ok z=>
  obtain⟨lg,ps,n⟩:=z;rw[hrd]at hr key;simp only at key;obtain⟨hmay,hlg6,hps12⟩:=Uh hrd;have hm:=hmay (by omega);have hused:=VU hrd;rw[cJ]at hused;obtain⟨pv,rfl,op⟩:=hr;obtain⟨pa,pc,rfl⟩:=op.len;have n1:((0:Int) !=0)=false:=rfl;simp(disch:=omega)only[SV];refine fS λw2 o2 x2 s2=> ?_;refine cS o2 rfl (by simp[one]) (by simp) λw3 o3 x3 s3=> ?_;simp only[aF,a1E,a1D]at o3;have x13:aE w1 w3 aP:=x2.new x3 (by omega);have x03:=x1.seq x13;have tn:(n:Int).toNat=n:=a1H _;have hle:aM (x.extract n x.size)=(aM x).drop n:=by
   rw[cX,a1T (by rw[a1L];omega)]
  have hsz':(x.extract n x.size).size=(aM x).length-n:=by rw[<-aI,hle,a1L]
  simp(disch:=omega)only[SV,n1,tn];generalize x.extract n x.size=y at*;have hdl:((aM x).drop n).length<=1000:=by rw[a1L];omega
  rw[<-hle]at key hdl;cases he:YM (aM y)with
  |none=>
   rw[he]at key;refine(apE he (by omega)).mono ?_;rintro r w4 ⟨rfl,x4⟩;have n2:((11:Int) !=0)=true:=rfl;simp(disch:=omega)only[SV];refine bM λw5 o5 x5 s5=> ?_;refine aJ o5 rfl (by simp[one]) (by simp) λw6 o6 x6 s6=> ?_;simp(disch:=omega)only[SV,n2];exact key _ _ rfl ((x03.seq x4).seq (x5.new x6 (by omega)))
  |some k=>
   rw[he]at key;simp only at key;have hk:=Dw he;refine(aAj he (by omega)).mono ?_;rintro r w4 ⟨bv,hi,rfl,hhi,hrb,x4⟩;generalize aM y=l' at*;have hrb':=hrb;obtain⟨v4,rfl,hs4,hat4⟩:=hrb;obtain⟨a4,c4,rfl,hc4⟩:=Dh hs4;simp(disch:=omega)only[SV];refine bM λw5 o5 x5 s5=> ?_;refine aJ o5 rfl (by simp[one]) (by simp) λw6 o6 x6 s6=> ?_;simp only[aF,a1E,a1D]at o6;have x46:aE w4 w6 aP:=x5.new x6 (by omega);have x36:=x4.seq x46;have l3:=fM (off:=0) (o3.ext x36 (λh=>h)) (by simp);simp only[a1F,a1C,a1G]at l3;simp(disch:=omega)only[SV,n1,l3];have op6:=(op.ext x13 (λ_ _ h=>h)).ext x36 (λ_ _ h=>h);refine(apD hm op6.sl).mono ?_;rintro r w7 ⟨b,cc,rest,rfl,hb7,ob,x7⟩;simp(disch:=omega)only[SV];refine cL λw8 o8 x8 s8=> ?_;refine bN o8 rfl (by simp[one]) (by simp) λw9 o9 x9 s9=> ?_;simp only[aF,a1E,a1D]at o9;have x79:aE w7 w9 aP:=x8.new x9 (by omega);have x69:=x7.seq x79;have z46:=x46.size;have z4:=x4.size;have z03:=x03.size;have z7:=x7.size;have z79:=x79.size;have qb:=ob.lt;have q9:=o9.lt;have q6:=o6.lt;have o69:=o6.ext x69 (λh=>h);have ob9:=ob.ext x79 (λh=>h);have hrb9:=(hrb'.ext x46 (λ_ _ _ h=>h)).ext x69 (λ_ _ _ h=>h);have x09:=(x03.seq x36).seq x69;have hN:(fL lg ps).length=2^lg:=eN lg ps;have h15:=hm.log15;have hv:=amI hm;have hla:=kY ((aG l').take k) lg;have hlb:=kY ((aG l').take (k-lg)) lg;rw[<-hN]at hla hlb o9;generalize fL lg ps=L at*;have hlen:=hv.len;have l9:=aX (off:=0) o9 (by simp);have l6:=aQ (off:=0) o69 (by simp);simp only[a1F,a1C,a1G]at l9 l6;simp(disch:=omega)only[SV,n1,l9,l6];have e0:((k:Int)).toNat=k:=a1H k;have e00:(-(k:Int)).toNat=0:=by omega
   have h1:(k:Int)<=8*l'.length:=by omega
   have hrs:=aNK (n:=lg) h1;rw[e0,e00]at hrs;have htk:((aG l').take k).length=k:=by rw[a1N,cJ];omega
   refine(apF hrb9 (by omega) (by omega) (by omega) (by omega)).mono ?_;rintro r w10 ⟨bv10,rfl,hrb10,x10⟩;rw[hrs.1,hrs.2]at hrb10;have hrb10':=hrb10;obtain⟨v10,rfl,hs10,hat10⟩:=hrb10;obtain⟨a10,c10,rfl,hc10⟩:=Dh hs10;obtain⟨a,ha⟩:∃a,iI ((aG l').take k) lg=a:=⟨_,rfl⟩;obtain⟨b',hb'⟩:∃a,iI ((aG l').take (k-lg)) lg=a:=⟨_,rfl⟩;have ekl:((k:Int)-lg).toNat=k-lg:=by omega
   have htk2:((aG l').take ((k:Int)-lg).toNat).length=k-lg:=by rw[ekl,a1N,cJ];omega
   rw[ha]at key hla⊢;rw[hb']at key hlb;simp(disch:=omega)only[SV];refine aJ (o69.ext x10 (λh=>h)) rfl (by simp[one]) (by simp) λw11 o11 x11 s11=> ?_;simp only[aF,a1E,a1D]at o11;have x911:aE w9 w11 (λy=>y=w4.heap.size):=(x10.mono λ_ _ h=>h.elim).seq x11;have l11:=aQ (off:=0) o11 (by simp);have l911:=aX (off:=0) (o9.ext x911 (by omega)) (by simp);simp only[a1F,a1C,a1G]at l11 l911;simp(disch:=omega)only[SV,l11,l911];have z10:=x10.size;have z11:=x11.size;have hrs2:=aNK (l:=l') (left:=(k:Int)-lg) (n:=lg) (by omega);refine(apF (hrb10'.ext x11 (λb h1 h2=>by omega)) (by omega) (by omega) (by omega) (by omega)).mono ?_;rintro r w12 ⟨bv12,rfl,hrb12,x12⟩;rw[hrs2.1,hrs2.2]at hrb12;rw[ekl,hb'];have hrb12':=hrb12;obtain⟨v12,rfl,hs12,hat12⟩:=hrb12;obtain⟨a12,c12,rfl,hc12⟩:=Dh hs12;simp(disch:=omega)only[SV];refine aJ (o11.ext x12 (λh=>h)) rfl (by simp[one]) (by simp) λw13 o13 x13' s13=> ?_;simp only[aF,a1E,a1D]at o13;have x913:aE w9 w13 (λy=>y=w4.heap.size):=(x911.seq (x12.mono λ_ _ h=>h.elim)).seq x13';have l13:=aQ (off:=0) o13 (by simp);simp only[a1F,a1C,a1G]at l13;simp(disch:=omega)only[SV,l13];have z12:=x12.size;have z13:=x13'.size;have hrb13:=hrb12'.ext x13' (λb h1 h2=>by omega);have htk3:((aG l').take ((k:Int)-lg-lg).toNat).length=((k:Int)-lg-lg).toNat:=by rw[a1N,cJ];omega
   refine(afX hrb13 (by omega) (by omega)).mono ?_;rintro r w14 ⟨rfl,x14⟩;rw[htk3,show((((k:Int)-lg-lg).toNat:Nat):Int)-((-((k:Int)-lg-lg)).toNat:Nat)=(k:Int)-lg-lg from by omega];have x914:aE w9 w14 (λy=>y=w4.heap.size):=x913.seq (x14.mono λ_ _ h=>h.elim);have x014:aE w w14 aP:=x09.trans x914 λy hy h=>by omega
   by_cases hlt:k<2*lg
   .rw [if_pos hlt]at key;have d1:decide ((k:Int)-(lg:Nat)-(lg:Nat)<0)=true:=by simp only[decide_eq_true_eq];omega
    simp(disch:=omega)only[SV,d1];exact key _ _ rfl x014
   .rw [if_neg hlt]at key;have d1:decide ((k:Int)-(lg:Nat)-(lg:Nat)<0)=false:=by simp only[decide_eq_false_iff_not];omega
    simp(disch:=omega)only[SV,d1];have ek2:((k:Int)-lg-lg).toNat=k-2*lg:=by omega
    have ek3:(-((k:Int)-lg-lg)).toNat=0:=by omega
    rw[ek2,ek3]at hrb13;have z14:=x914.size;refine aCm (w0:=w) (left0:=k-2*lg) (L:=L) (l:=l') (bv:= .agg #[.slice a12 ((aG l').take ((k:Int)-lg-lg).toNat).length c12,.int .i64 ((-((k:Int)-lg-lg)).toNat:Nat)]) (G:=stN L (aG l') 256 a b' (k-2*lg) []) hv (by omega) (o9.ext x914 (by omega)) (ob9.ext x914 (by omega)) (o13.ext x14 (λh=>h))
     (by rw[ek2,ek3];exact hrb13.ext x14 (λ_ _ _ h=>h)) (by omega) hla hlb (by omega) rfl x014 λr w' hG hx=> ?_
    refine key _ _ ?_ hx;cases hs:stN L (aG l') 256 a b' (k-2*lg) []with
    |none=>rw[hs]at hG;exact hG
    |some m=>rw[hs]at hG;exact hG
theorem aUr{base i x:Nat}{cells:List a7C}(o:mH w base 1 v i cells)(hb:base<=w.heap.size)(hi:i<=100000){K:a7C->a7B->Prop}
 (hK:∀v2 w2,mH w2 base 1 v2 (i+1) (cells++[.int .u8 x])->aE w w2 (λy=>base<=y)->K v2 w2):
 bF pg (fX 22 1 [(0,.int .u8 x)]) w λt w=>bF pg (yM .append #[22,22] 22 [v,t]) w λt' w=>K t' w:=by
 refine mO (cells:= #[.int .u8 x]) (by decide) (by decide) (by kernel_rfl) λw5 o5 x5 s5=> ?_;have z5:=x5.size;refine mM (m:=1) (news:=[.int .u8 x]) (o.ext x5 (λ_ _ h=>h)) (o5.cl (off:=0) (l:=[.int .u8 x]) (n:=1) rfl (λi hi=>by rw[a1Q])) (by simp[one]) (by omega) (by omega) λv6 w6 o6 x6=> ?_;exact hK v6 w6 o6 ((x5.mono λ_ _ h=>h.elim).seq x6)
theorem aJS(hl:x.size<=10000)(hn:n<=1000):
 aL pg MA #[.string x,.int .i64 n] w (λr w'=>((x.size<(n+1)/2/\r= .tuple #[.string ⟨#[]⟩,.int .i64 10])∨
  ((n+1)/2<=x.size/\r= .tuple #[.string ⟨(lI (hZ (bL (aM x)) n)).toArray⟩,.int .i64 0]))/\aE w w' aP):=by
 refine auR ?_;have hsz:=JC x;unfold auQ Uo Un;have e1:(2:Int)*(x.size:Int)=((2*x.size:Nat):Int):=by omega
 by_cases hsh:x.size<(n+1)/2
 .have d1:decide (((2*x.size:Nat):Int)<(n:Int))=true:=by simp only[decide_eq_true_eq];omega
  simp(disch:=omega)only[SV,e1,d1];exact⟨.inl hsh,aE.refl _ _⟩
 have d1:decide (((2*x.size:Nat):Int)<(n:Int))=false:=by simp only[decide_eq_false_iff_not];omega
 simp(disch:=omega)only[SV,e1,d1];unfold KX KW Ya Ck;have hlt:=QS (aM x);refine aN.rule (λm (t:a7C×a7C) w'=>∃(i:Nat) (v':a7C),m=n-i/\t=(v',.int .i64 i)/\i<=n/\mH w' w.heap.size 1 v' i (u8s (hZ (bL (aM x)) i))/\aE w w' aP) n
  ⟨0,_,rfl,rfl,by omega,mH.nil _ _ _,aE.refl _ _⟩ ?_
 rintro m t w1 ⟨i,v',rfl,rfl,hi,o1,x1⟩;have z1:=x1.size;unfold X9 X8;by_cases hlt2:i<n
 .have d2:decide ((i:Int)<(n:Int))=true:=by simp;omega
  have e3:(i:Int).tdiv 2=((i/2:Nat):Int):=by rw[a1R (by omega)];omega
  have e4:(i:Int).tmod 2=((i%2:Nat):Int):=by rw[a2B (by omega)];omega
  have hi2:i/2<x.size:=by omega
  have g1:=asO (x:=x) (i:=i/2) hi2;have t2:((i/2:Nat):Int).toNat=i/2:=a1H _;have hs:=arT (bL (aM x)) i;have hf:arS (bL (aM x)) i=if i%2=0 then(bL (aM x)).getD (i/2) 0/16 else(bL (aM x)).getD (i/2) 0%16:=rfl
  have hc:(bL (aM x)).getD (i/2) 0<256:=hlt _ (rK (by omega));have hcells:u8s (hZ (bL (aM x)) i)++[.int .u8 (arS (bL (aM x)) i:Nat)]=u8s (hZ (bL (aM x)) (i+1)):=by
   rw[hs];show _=List.map _ (_++_);rw[a2I]<;>rfl
  generalize(bL (aM x)).getD (i/2) 0=c at*;generalize arS (bL (aM x)) i=y at*;by_cases hev:i%2=0
  .have n2:(((i%2:Nat):Int)==0)=true:=by rw[hev]<;>rfl
   rw[if_pos hev]at hf;have e5:(c:Int).tdiv 16=(y:Int):=by rw[a1R (by omega)];omega
   have e6:IntKind.u8.wrap (y:Int)=(y:Int):=aFA (by omega) (by omega);simp(disch:=omega)only[SV,d2,e3,g1,e4,n2,t2,e5,e6];refine aUr o1 (by omega) (by omega) λv2 w2 o2 x2=> ?_;rw[hcells]at o2;unfold Cj;simp(disch:=omega)only[SV];exact⟨n-(i+1),by omega,i+1,_,rfl,rfl,by omega,o2,x1.trans x2 λb hb h=>by omega⟩
  .have n2:(((i%2:Nat):Int)==0)=false:=beq_eq_false_iff_ne.2 (by omega);rw[if_neg hev]at hf;have e5:(c:Int).tmod 16=(y:Int):=by rw[a2B (by omega)];omega
   have e6:IntKind.u8.wrap (y:Int)=(y:Int):=aFA (by omega) (by omega);simp(disch:=omega)only[SV,d2,e3,g1,e4,n2,t2,e5,e6];refine aUr o1 (by omega) (by omega) λv2 w2 o2 x2=> ?_;rw[hcells]at o2;unfold Cj;simp(disch:=omega)only[SV];exact⟨n-(i+1),by omega,i+1,_,rfl,rfl,by omega,o2,x1.trans x2 λb hb h=>by omega⟩
 .have d2:decide ((i:Int)<(n:Int))=false:=by simp;omega
  obtain rfl:i=n:=by omega
  unfold KV;rw[<-aeS λy hy=>by have:=amU hlt i y hy;omega]at o1;have hb1:Bs w1 v' (lI (hZ (bL (aM x)) i)):=o1.sl;have hcv:=cU hb1;simp(disch:=omega)only[SV,d2,hcv];exact⟨.inr (by omega),x1⟩
def axX(o:Except Int (List Nat))(n:Nat):Except Int (List UInt8×Nat):=match o with
 | .error e=> .error e
 | .ok m=>match sJ m with
   |none=> .error 11
   |some k=> .ok (lI m++[UInt8.ofNat k],1+n)
def wtR(l:List UInt8):Except Int (List UInt8×Nat):=match l with
 |[]=> .error 10
 |h::rest=>
  if 128<=h.toNat then(if rest.length<(h.toNat-127+1)/2 then .error 10 else axX (.ok (hZ (bL rest) (h.toNat-127))) ((h.toNat-127+1)/2))
  else if rest.length<h.toNat then .error 10 else axX (qL (rest.take h.toNat)) h.toNat
theorem aG5 (m:List Nat)(n:Nat):axX (.ok m) n=match sJ m with
 |none=> .error 11
 |some k=> .ok (lI m++[UInt8.ofNat k],1+n):=rfl
theorem awX(h:UInt8)(rest:List UInt8):wtR (h::rest)=if 128<=h.toNat then(if rest.length<(h.toNat-127+1)/2 then .error 10 else axX (.ok (hZ (bL rest) (h.toNat-127))) ((h.toNat-127+1)/2))
 else if rest.length<h.toNat then .error 10 else axX (qL (rest.take h.toNat)) h.toNat:=rfl
def aSQ(w:a7B)(base:Nat)(o:Except Int (List UInt8×Nat))(r:a7C):Prop:=match o with
 | .error e=>r= .tuple #[.slice none 0 0,.int .i64 0,.int .i64 e]
 | .ok (m,n)=>∃v,r= .tuple #[v,.int .i64 (n:Nat),.int .i64 0]/\mH w base 1 v m.length (m.map kH)
def aCt(o:Except Int (List UInt8×Nat))(r:a7C):Prop:=match o with
 | .error e=>r= .tuple #[.string ⟨#[]⟩,.int .i64 0,.int .i64 e]
 | .ok (m,n)=>r= .tuple #[.string ⟨m.toArray⟩,.int .i64 (n:Nat),.int .i64 0]
theorem aeI(h:qL l= .error e):e≠0:=by
 unfold qL at h;split at h
 .rename_i hr;cases h;exact Ms hr
 .split at h
  .cases h;decide
  .split at h
   .cases h;decide
   .split at h
    .cases h;decide
    .cases h
theorem aOK{w0:a7B}(hb:Bs w v (lI m))(hm:∀x∈m,x<256)(hml:m.length<=1000)(hn:n<=1000)(x0:aE w0 w aP)
 (key:∀r w',aSQ w' w0.heap.size (axX (.ok m) n) r->aE w0 w' aP->RR r w'):kO RR v (.int .i64 n) (.int .i64 0) w:=by
 have n1:((0:Int) !=0)=false:=rfl;have hbl:(lI m).length=m.length:=by simp
 obtain⟨av,cv,hv,_⟩:=hb.len;rw[a1M,hbl]at hv;subst hv;unfold kO;simp(disch:=omega)only[SV,n1];refine(aNX hb (by rw[hbl];omega)).mono ?_;rintro r w2 ⟨hwo,x2⟩;rw[ayS hm]at hwo;rw[aG5]at key;have z0:=x0.size;cases hw:sJ m with
 |none=>
  rw[hw]at hwo key;obtain rfl:=hwo;have n2:((11:Int) !=0)=true:=rfl;simp(disch:=omega)only[SV,n2];exact key _ _ rfl (x0.seq x2)
 |some k=>
  rw[hw]at hwo key;obtain⟨v2,rfl,o2⟩:=hwo;have e5:(1:Int)+((n:Nat):Int)=((1+n:Nat):Int):=by omega
  simp(disch:=omega)only[SV,n1,e5];refine key _ _ ⟨v2,rfl, ?_⟩ (x0.seq x2);have:=o2.lower (a:=w0.heap.size) z0;rw[show(lI m++[UInt8.ofNat k]).length=(lI m).length+1 from by simp];exact this
theorem awD{w0:a7B}(hm:∀x∈m,x<256)(hml:m.length<=1000)(hn:n<=1000)(x0:aE w0 w aP)
 (key:∀r w',aCt (axX (.ok m) n) r->aE w0 w' aP->RR r w'):sF RR (.string ⟨(lI m).toArray⟩) (.int .i64 0) (.int .i64 n) w:=by
 have n1:((0:Int) !=0)=false:=rfl;have hlm:aM (⟨(lI m).toArray⟩:ByteArray)=lI m:=aHr _;have hzm:(⟨(lI m).toArray⟩:ByteArray).size=m.length:=by rw[<-aI,hlm,a1M]
 unfold sF;simp(disch:=omega)only[SV,n1];refine(aLX (x:=⟨(lI m).toArray⟩) (by omega)).mono ?_;rintro r w2 ⟨hwo,x2⟩;rw[hlm,ayS hm]at hwo;rw[aG5]at key;unfold aCJ at hwo;cases hw:sJ m with
 |none=>
  rw[hw]at hwo key;obtain rfl:=hwo;have n2:((11:Int) !=0)=true:=rfl;simp(disch:=omega)only[SV,n2];exact key _ _ rfl (x0.seq x2)
 |some k=>
  rw[hw]at hwo key;obtain⟨y,hy,rfl⟩:=hwo;rw[hlm]at hy;obtain rfl:y=⟨(lI m++[UInt8.ofNat k]).toArray⟩:=Fs (by rw[hy]<;>rfl);have e5:(1:Int)+((n:Nat):Int)=((1+n:Nat):Int):=by omega
  simp(disch:=omega)only[SV,n1,e5];exact key _ _ rfl (x0.seq x2)
theorem aSp(h:Bs w v l)(hl:l.length<=100000):
 aL pg DW #[v] w (λr w'=>aSQ w' w.heap.size (wtR l) r/\aE w w' aP):=by
 cases l with
 |nil=>
  refine Gy ?_;obtain⟨a,c,rfl,_⟩:=h.len;unfold Mm CE CD;have n0:((([]:List a7C).length:Int)==0)=true:=rfl;simp(disch:=omega)only[SV,n0];exact⟨rfl,aE.refl _ _⟩
 |cons hd rest=>
  have hhd:hd.toNat<256:=a2D _;have hof:UInt8.ofNat hd.toNat=hd:=by simp
  rw[a1U]at hl;rw[awX];by_cases h128:128<=hd.toNat
  .rw [if_pos h128];refine(aHG (h:=hd.toNat) (rest:=rest) h (by rw[hof]) h128 hhd (by omega)).mono ?_;rintro r w' ⟨hdo,x⟩;refine⟨?_,x⟩;unfold Mt at hdo;by_cases hsh:rest.length<(hd.toNat-127+1)/2
   .rw [if_pos hsh]at hdo⊢;exact hdo
   .rw [if_neg hsh]at hdo⊢;rw[aG5];cases hw:sJ (hZ (bL rest) (hd.toNat-127))with
    |none=>rw[hw]at hdo;exact hdo
    |some k=>
     rw[hw]at hdo;obtain⟨v',rfl,o⟩:=hdo;refine⟨v',rfl, ?_⟩;rw[show(lI (hZ (bL rest) (hd.toNat-127))++[UInt8.ofNat k]).length=hd.toNat-127+1 from by simp[Fl]];exact o
  rw[if_neg h128];refine Gy ?_;obtain⟨RR,hRR⟩:∃RR:a7C->a7B->Prop,RR=λr w'=>aSQ w' w.heap.size (if rest.length<hd.toNat then .error 10 else axX (qL (rest.take hd.toNat)) hd.toNat) r/\aE w w' aP:=⟨_,rfl⟩;rw[<-hRR];have key:∀r w',aSQ w' w.heap.size (if rest.length<hd.toNat then .error 10 else axX (qL (rest.take hd.toNat)) hd.toNat) r->aE w w' aP->RR r w':=λr w' h1 h2=>by rw[hRR];exact⟨h1,h2⟩
  obtain⟨b,off,c,rfl,hc,hcell⟩:=Vs h (by simp);have g0:=hcell 0 (by simp);rw[a3Z]at g0;have hsub:=h.drop' (k:=1) (by simp);rw[a4D,a2H,a1F,a1U,a3X]at hsub;have hsub:Bs w _ rest:=hsub;rw[a1U]at hc⊢;generalize hd.toNat=q at*;have n0:(((rest.length+1:Nat):Int)==0)=false:=beq_eq_false_iff_ne.2 (by omega);have d1:decide ((128:Int)<=(q:Int))=false:=by simp;omega
  have t0:(0:Int).toNat=0:=rfl;have t1:(1:Int).toNat=1:=rfl;have e11:rest.length+1-1=rest.length:=by omega
  unfold Mm CE CD;by_cases hsh:rest.length<q
  .rw [if_pos hsh]at key;have d2:decide ((rest.length:Int)<(q:Int))=true:=by simp;omega
   simp(disch:=omega)only[SV,n0,g0,t0,t1,d1,e11,d2];have n1:((10:Int) !=0)=true:=rfl;unfold kO;simp(disch:=omega)only[SV,n1];exact key _ _ rfl (aE.refl _ _)
  .rw [if_neg hsh]at key;have d2:decide ((rest.length:Int)<(q:Int))=false:=by simp;omega
   have tq:(q:Int).toNat=q:=a1H _;have hcl:rest.length<=c-1:=by omega
   have htk:=hsub.take' (k:=q) (by omega);rw[<-a4R]at htk;have htk:Bs w _ (rest.take q):=htk;have htl:(rest.take q).length=q:=by rw[a1N];omega
   simp(disch:=omega)only[SV,n0,g0,t0,t1,d1,e11,d2,tq];refine(aR3 htk (by omega)).mono ?_;rintro r w2 ⟨hst,x2⟩;cases hs:qL (rest.take q)with
   |error e=>
    rw[hs]at hst key;have he:=aeI hs;obtain rfl:=hst;have n1:(e !=0)=true:=by simp[he]
    unfold kO;simp(disch:=omega)only[SV,n1];exact key _ _ rfl x2
   |ok m=>
    rw[hs]at hst key;obtain⟨hm1,hm2⟩:=aEV hs;obtain⟨v2,rfl,o2⟩:=hst;have hb2:Bs w2 v2 (lI m):=o2.sl;simp(disch:=omega)only[SV];exact aOK hb2 hm1 (by omega) (by omega) x2 key
theorem aLU(hl:x.size<=10000):
 aL pg U9 #[.string x] w (λr w'=>aCt (wtR (aM x)) r/\aE w w' aP):=by
 refine aB6 ?_;obtain⟨RR,hRR⟩:∃RR:a7C->a7B->Prop,RR=λr w'=>aCt (wtR (aM x)) r/\aE w w' aP:=⟨_,rfl⟩;rw[<-hRR];have key:∀r w',aCt (wtR (aM x)) r->aE w w' aP->RR r w':=λr w' h1 h2=>by rw[hRR];exact⟨h1,h2⟩
 have hll:=aI x;unfold aEs akD akC;cases hx:aM x with
 |nil=>
  rw[hx]at hll key;have hxe:x=⟨#[]⟩:=Fs hx;subst hxe;simp(disch:=omega)only[SV,oI,Vy];exact key _ _ rfl (aE.refl _ _)
 |cons hd rest=>
  have hhd:hd.toNat<256:=a2D _;rw[hx,a1U]at hll;have hen:=ZM (x:=x) (by omega);have g0:(x[0]'(by omega)).toNat=hd.toNat:=by
   have:=Fq x 0 (by omega);rw[this];simp only[hx,a3Z]
  have t0:(0:Int).toNat=0:=rfl;have t1:(1:Int).toNat=1:=rfl;rw[hx]at key;rw[awX]at key;have le1:aM (x.extract 1 x.size)=rest:=by
   rw[cX,hx,a2H,a1F,a1T (by omega)]
  have lz1:(x.extract 1 x.size).size=rest.length:=by rw[<-aI,le1]
  generalize hd.toNat=q at*;by_cases h128:128<=q
  .rw [if_pos h128]at key;have d1:decide ((128:Int)<=(q:Int))=true:=by simp;omega
   have e1:(q:Int)-127=((q-127:Nat):Int):=by omega
   have e2:((q-127:Nat):Int)+1=((q-127+1:Nat):Int):=by omega
   have e3:((q-127+1:Nat):Int).tdiv 2=(((q-127+1)/2:Nat):Int):=by rw[a1R (by omega)];omega
   simp(disch:=omega)only[SV,oI,hen,t0,t1,g0,d1,e1,e2,e3];refine(aJS (x:=x.extract 1 x.size) (n:=q-127) (by omega) (by omega)).mono ?_;rintro r w2 ⟨hr,x2⟩;rw[le1,lz1]at hr;rcases hr with⟨hsh,rfl⟩|⟨hsh,rfl⟩
   .rw [if_pos hsh]at key;have n1:((10:Int) !=0)=true:=rfl;unfold sF;simp(disch:=omega)only[SV,n1];exact key _ _ rfl x2
   .rw [if_neg (by omega)]at key;simp(disch:=omega)only[SV];exact awD (m:=hZ (bL rest) (q-127)) (λy hy=>by have:=amU (QS rest) _ y hy;omega) (by rw[Fl];omega) (by omega) x2 key
  .rw [if_neg h128]at key;have d1:decide ((128:Int)<=(q:Int))=false:=by simp;omega
   have e1:(x.size:Int)-1=((rest.length:Nat):Int):=by omega
   by_cases hsh:rest.length<q
   .rw [if_pos hsh]at key;have d2:decide ((rest.length:Int)<(q:Int))=true:=by simp;omega
    simp(disch:=omega)only[SV,oI,hen,t0,t1,g0,d1,e1,d2];have n1:((10:Int) !=0)=true:=rfl;unfold sF;simp(disch:=omega)only[SV,n1];exact key _ _ rfl (aE.refl _ _)
   .rw [if_neg hsh]at key;have d2:decide ((rest.length:Int)<(q:Int))=false:=by simp;omega
    have e2:(1:Int)+(q:Int)=((1+q:Nat):Int):=by omega
    have tq:((1+q:Nat):Int).toNat=1+q:=a1H _;have le2:aM (x.extract 1 (1+q))=rest.take q:=by
     rw[cX,hx,a2H,a1F,a5V]
    have lz2:(x.extract 1 (1+q)).size=q:=by rw[<-aI,le2,a1N];omega
    simp(disch:=omega)only[SV,oI,hen,t0,t1,g0,d1,e1,d2,e2,tq];refine(aJV (x:=x.extract 1 (1+q)) (by omega)).mono ?_;rintro r w2 ⟨hst,x2⟩;rw[le2]at hst;cases hs:qL (rest.take q)with
    |error e=>
     rw[hs]at hst key;have he:=aeI hs;obtain rfl:=hst;have n1:(e !=0)=true:=by simp[he]
     unfold sF;simp(disch:=omega)only[SV,n1];exact key _ _ rfl x2
    |ok m=>
     rw[hs]at hst key;obtain⟨hm1,hm2⟩:=aEV hs;obtain rfl:=hst;simp(disch:=omega)only[SV];exact awD hm1 (by omega) (by omega) x2 key
def BE(H:LH):Nat:=if H.kind=0 then H.count else if H.kind=1 then 1 else H.bytes
def ayP(H:LH)(b old:List UInt8):Except Int (List UInt8×List UInt8):=
 if H.kind=2 then(match wtR b with| .error e=> .error e| .ok p=> .ok (p.1,b.drop p.2))else .ok (old,b)
def T7 (H:LH)(wl b:List UInt8):Except Int (List Nat):=if H.form=0 then arV wl b H.count else Sf wl b H.count
def asI(H:LH)(wl b:List UInt8):Except Int (List UInt8×List UInt8×Nat):=
 if wl.length=0 then .error 11 else match T7 H wl b with| .error e=> .error e| .ok m=> .ok (lI m,wl,H.size+BE H)
def agI(H:LH)(b old:List UInt8):Except Int (List UInt8×List UInt8×Nat):=
 if H.kind=0 then .ok (b,old,H.size+BE H)
 else if H.kind=1 then .ok (List.replicate H.count (b.headD 0),old,H.size+BE H)
 else match ayP H b old with| .error e=> .error e| .ok p=>asI H p.1 p.2
def aDQ(H:LH)(l old:List UInt8):Except Int (List UInt8×List UInt8×Nat):=
 if(l.drop H.size).length<BE H then .error 10 else agI H ((l.drop H.size).take (BE H)) old
def VK(l old:List UInt8):Except Int (List UInt8×List UInt8×Nat):=if(iA l).2=0 then aDQ (iA l).1 l old else .error (iA l).2
theorem aMp{p:List UInt8×Nat}(h:wtR l= .ok p):p.1.length<=256/\2<=p.1.length/\p.2<=l.length:=by
 have fin:∀{o:Except Int (List Nat)} {n:Nat},axX o n= .ok p->p.1.length<=256/\2<=p.1.length/\p.2=1+n:=by
  intro o n h;unfold axX at h;cases o with
  |error e=>cases h
  |ok m=>
   simp only at h;cases hw:sJ m with
   |none=>rw[hw]at h;cases h
   |some k=>
    rw[hw]at h;cases h;have:=aH2 hw;have hb:(lI m).length=m.length:=by simp[lI]
    simp only[a1O,hb,a1U,List.length_nil];exact⟨by omega,by omega,trivial⟩
 cases l with
 |nil=>cases h
 |cons q rest=>
  rw[awX]at h;rw[a1U];by_cases h1:128<=q.toNat
  .rw [if_pos h1]at h;by_cases h2:rest.length<(q.toNat-127+1)/2
   .rw [if_pos h2]at h;cases h
   .rw [if_neg h2]at h;have:=fin h;omega
  .rw [if_neg h1]at h;by_cases h2:rest.length<q.toNat
   .rw [if_pos h2]at h;cases h
   .rw [if_neg h2]at h;have:=fin h;omega
theorem aH4 (h:wtR l= .error e):e≠0:=by
 have fin:∀{o:Except Int (List Nat)} {n:Nat},(∀e,o= .error e->e≠0)->axX o n= .error e->e≠0:=by
  intro o n ho h;unfold axX at h;cases o with
  |error e=>cases h;exact ho _ rfl
  |ok m=>
   simp only at h;cases hw:sJ m with
   |none=>rw[hw]at h;cases h;decide
   |some k=>rw[hw]at h;cases h
 cases l with
 |nil=>cases h;decide
 |cons q rest=>
  rw[awX]at h;by_cases h1:128<=q.toNat
  .rw [if_pos h1]at h;by_cases h2:rest.length<(q.toNat-127+1)/2
   .rw [if_pos h2]at h;cases h;decide
   .rw [if_neg h2]at h;exact fin (λe h=>by cases h) h
  .rw [if_neg h1]at h;by_cases h2:rest.length<q.toNat
   .rw [if_pos h2]at h;cases h;decide
   .rw [if_neg h2]at h;exact fin (λe h=>aeI h) h
theorem aKr:∀{r:List (Nat×Nat)} {l:List UInt8},GJ C l r= .error e->e≠0
 |[],l,h=>by cases h
 |(k,n)::r,l,h=>by
  rw[GJ]at h;cases h1:qB C (l.take k) n with
  |error e'=>
   rw[h1]at h;cases h;have:=agA h1;omega
  |ok m=>
   rw[h1]at h;simp only at h;cases h2:GJ C (l.drop k) r with
   |error e'=>rw[h2]at h;cases h;exact aKr h2
   |ok m'=>rw[h2]at h;cases h
theorem aDP(h:T7 H wl b= .error e):e≠0:=by
 unfold T7 at h;by_cases h1:H.form=0
 .rw [if_pos h1]at h;unfold arV at h;split at h
  .cases h;decide
  .have:=agA h;omega
 .rw [if_neg h1]at h;unfold Sf at h;split at h
  .cases h;decide
  .split at h
   .cases h;decide
   .split at h
    .cases h;decide
    .split at h
     .cases h;decide
     .exact aKr h
theorem aOf(hw:Bs w lv wl)(hwl:wl.length<=100000)(h:Bs w v l)(hl:l.length<=1000000)(hn:H.count<=131072)(hf:H.form<4):
 aL pg CG #[lhV H,lv,v] w (λr w'=>Vj w' w.heap.size (T7 H wl l) r/\aE w w' aP):=by
 refine YQ ?_;unfold Ub LL;refine bY λw1 o1 x1 s1=> ?_;have o1:aT w1 w.heap.size [.int .i64 (H.kind:Nat),.int .i64 (H.form:Nat),.int .i64 (H.size:Nat),.int .i64 (H.count:Nat),.int .i64 (H.bytes:Nat)]:=o1;have z1:=x1.size;have k1:=o1.cell (off:=1);have k3:=o1.cell (off:=3);simp only[a1A,a1B]at k1 k3;have hw1:=hw.ext x1 (aR _);have h1:=h.ext x1 (aR _);unfold T7
 have fin:∀{o:Except Int (List Nat)} {r:a7C} {w2:a7B},Vj w2 w1.heap.size o r->aE w1 w2 aP→
     bF pg (Ge r 0) w2 λt16 w_1=>bF pg (Ge r 1) w_1 λt17 w_2=>(Vj w_2 w.heap.size o (.tuple #[t16,t17])/\aE w w_2 aP):=by
  intro o r w2 hs x2;cases o with
  |error e=>
   obtain rfl:r= .tuple #[.slice none 0 0,.int .i64 e]:=hs;simp(disch:=omega)only[SV];exact⟨rfl,x1.seq x2⟩
  |ok m=>
   obtain⟨v',rfl,o⟩:=hs;simp(disch:=omega)only[SV];exact⟨⟨v',rfl,HM o z1⟩,x1.seq x2⟩
 by_cases h0:H.form=0
 .have n0:((H.form:Int)==0)=true:=by rw[h0]<;>rfl
  rw[if_pos h0];simp(disch:=omega)only[SV,k1,n0,k3];exact(aI5 hw1 hwl h1 hl hn).mono λr w2 hr=>fin hr.1 hr.2
 .have n0:((H.form:Int)==0)=false:=beq_eq_false_iff_ne.2 (by omega);rw[if_neg h0];simp(disch:=omega)only[SV,k1,n0,k3];exact(aG9 hw1 hwl h1 hl hn).mono λr w2 hr=>fin hr.1 hr.2
def aAC(w:a7B)(base:Nat)(o:Except Int (List UInt8×List UInt8×Nat))(r:a7C):Prop:=match o with
 | .error e=>r= .tuple #[.slice none 0 0,.slice none 0 0,.int .i64 0,.int .i64 e]
 | .ok (m,u,n)=>∃v x,r= .tuple #[v,x,.int .i64 (n:Nat),.int .i64 0]/\mH w base 1 v m.length (m.map kH)/\mH w base 1 x u.length (u.map kH)
theorem aAC.low {b b':Nat}{o:Except Int (List UInt8×List UInt8×Nat)}{r:a7C}(h:aAC w b o r)(hb:b'<=b):aAC w b' o r:=by
 cases o with
 |error e=>exact h
 |ok p=>
  obtain⟨m,u,n⟩:=p;obtain⟨v,x,rfl,h1,h2⟩:=h;exact⟨v,x,rfl,HM h1 hb,HM h2 hb⟩
abbrev lhC(H:LH)(y:Nat):List a7C:=[.int .i64 (H.kind:Nat),.int .i64 (H.form:Nat),.int .i64 (H.size:Nat),.int .i64 (H.count:Nat),.int .i64 (y:Nat)]
theorem aKt(hC:C.length<=256)(hF:amC C (gJ C))(h:qB C s n= .ok m):∀x∈m,x<256:=by
 unfold qB at h;split at h
 .cases h
 .split at h
  .cases h
  .split at h
   .cases h
   .cases h;intro x hx;have:=aDy hF x hx;omega
theorem aNR(hC:C.length<=256)(hF:amC C (gJ C)):∀{r:List (Nat×Nat)} {s:List UInt8} {m:List Nat},GJ C s r= .ok m->∀x∈m,x<256
 |[],s,m,h,x,hx=>by cases h;cases hx
 |(k,n)::r,s,m,h,x,hx=>by
  rw[GJ]at h;cases h1:qB C (s.take k) n with
  |error e=>rw[h1]at h;cases h
  |ok m1=>
   rw[h1]at h;simp only at h;cases h2:GJ C (s.drop k) r with
   |error e=>rw[h2]at h;cases h
   |ok m2=>
    rw[h2]at h;cases h;rcases a2X.1 hx with hx|hx
    .exact aKt hC hF h1 x hx
    .exact aNR hC hF h2 x hx
theorem aTs(h:T7 H wl b= .ok m):∀x∈m,x<256:=by
 unfold T7 at h;split at h
 .unfold arV at h;split at h
  .cases h
  .rename_i hd;obtain⟨hF,hm,hC⟩:=WOk.full hd;exact aKt hC hF h
 .unfold Sf at h;split at h
  .cases h
  .rename_i hd;obtain⟨hF,hm,hC⟩:=WOk.full hd;split at h
   .cases h
   .split at h
    .cases h
    .split at h
     .cases h
     .exact aNR hC hF h
theorem aTr(h:T7 H wl b= .ok m):u8n m=(lI m).map kH:=(aeS (aTs h)).symm
theorem aGf{bv:a7C}(o:aT w p (lhC H (BE H)))(hb:Bs w bv b)(hbl:b.length<=1000000)(hw:Bs w lv wl)(hwl:wl.length<=100000)(hc:H.count<=131072)(hf:H.form<4)
 (hk:∀r w',aAC w' w.heap.size (asI H wl b) r->aE w w' aP->RR r w'):
 AB (λbJ h_8 vC anE w=>AA RR bJ h_8 vC anE w) RR bv (.pointer (some ⟨p,0,none⟩)) (.int .i64 (H.size+BE H:Nat)) lv w:=by
 unfold AB;have hwo:=hw;obtain⟨a,c,rfl,hcc⟩:=hw.len;rw[a1M]at*;by_cases h0:wl.length=0
 .have n0:((wl.length:Int)==0)=true:=by rw[h0]<;>rfl
  simp(disch:=omega)only[SV,n0];exact hk _ _ (by unfold asI;rw[if_pos h0]<;>rfl) (aE.refl _ _)
 have n0:((wl.length:Int)==0)=false:=beq_eq_false_iff_ne.2 (by omega);simp(disch:=omega)only[SV,n0];unfold AA;have q:=QN (off:=0) o (by simp);simp only[a1F,a1C,a1G]at q;simp(disch:=omega)only[SV,q];refine(aOf (H:=⟨H.kind,H.form,H.size,H.count,BE H⟩) hwo hwl hb hbl hc hf).mono ?_;rintro r w1 ⟨hs,x1⟩;have hs:Vj w1 w.heap.size (T7 H wl b) r:=hs;have z1:=x1.size;cases hd:T7 H wl b with
 |error e=>
  rw[hd]at hs;obtain rfl:r= .tuple #[.slice none 0 0,.int .i64 e]:=hs;have n1:(e !=0)=true:=by simp[aDP hd]
  simp(disch:=omega)only[SV,n1];exact hk _ _ (by unfold asI;rw[if_neg h0,hd]<;>rfl) x1
 |ok m=>
  rw[hd]at hs;obtain⟨v',rfl,o1⟩:=hs;have n1:((0:Int) !=0)=false:=rfl;simp(disch:=omega)only[SV,n1];refine(LZ (hwo.ext x1 (aR _)) (by omega)).mono ?_;rintro r w2 ⟨o2,x2⟩;refine hk _ _ ?_ (x1.seq x2);unfold asI;rw[if_neg h0,hd];refine⟨v',r,rfl, ?_,HM o2 z1⟩;rw[aTr hd]at o1;have o1:=o1.ext x2 (λ_ _ h=>h);rw[show(lI m).length=m.length from by simp[lI]];exact o1
theorem aJf(h:(iA l).2=0):(iA l).1.count<=131072/\(iA l).1.size<=l.length/\(iA l).1.kind<4/\(iA l).1.form<4/\(iA l).1.size<=5/\(iA l).1.bytes<2^40:=by
 cases l with
 |nil=>exact absurd h (by decide)
 |cons c r=>
  simp only[iA]at h⊢;have hs:=asF (c.toNat%4) (c.toNat/4%4);by_cases h1:(c::r).length<eK (c.toNat%4) (c.toNat/4%4)
  .rw [if_pos h1]at h;exact absurd h (by simp)
  .rw [if_neg h1]at h⊢;simp only at h⊢;have h5:=anJ (l:=c::r) hs.2;refine⟨?_,by omega,by omega,by omega,hs.2, ?_⟩
   .split at h
    .exact absurd h (by decide)
    .omega
   .exact Nat.lt_of_le_of_lt (a3K (a3Q _ _) (a3Q _ _)) h5
theorem aOt{ov:a7C}(o:aT w p (lhC H (BE H)))(hb:Bs w v b)(hbl:b.length<=100000)(hby:b.length=BE H)(ho:Bs w ov old)(hol:old.length<=100000)(hc:H.count<=131072)(hf:H.form<4)(hkd:H.kind<4)
 (hk:∀r w',aAC w' w.heap.size (agI H b old) r->aE w w' aP->RR r w'):
 AD RR v ov (.pointer (some ⟨p,0,none⟩)) (.int .i64 (H.size+BE H:Nat)) ov w:=by
 unfold AD HK T9;have k0:=o.cell (off:=0);have k3:=o.cell (off:=3);simp only[a1A,a1B]at k0 k3;simp(disch:=omega)only[SV,k0];unfold HJ T8;rcases(show H.kind=0∨H.kind=1∨H.kind=2∨H.kind=3 by omega)with h0|h0|h0|h0
 .have n0:((H.kind:Int)==0)=true:=by rw[h0]<;>rfl
  simp(disch:=omega)only[SV,n0];refine(LZ hb (by omega)).mono ?_;rintro r w1 ⟨o1,x1⟩;refine(LZ (ho.ext x1 (aR _)) (by omega)).mono ?_;rintro r2 w2 ⟨o2,x2⟩;refine hk _ _ ?_ (x1.seq x2);unfold agI;rw[if_pos h0];exact⟨r,r2,rfl,o1.ext x2 (λ_ _ h=>h),HM o2 x1.size⟩
 .have n0:((H.kind:Int)==0)=false:=by rw[h0]<;>rfl
  have n1:((H.kind:Int)==1)=true:=by rw[h0]<;>rfl
  simp(disch:=omega)only[SV,n0,n1,k3];have hy:BE H=1:=by unfold BE;rw[if_neg (by omega),if_pos h0]
  obtain⟨c,rfl⟩:∃c,b=[c]:=by
   match b,hby with
   |[c],_=>exact⟨c,rfl⟩
   |[],h=>rw[hy]at h;simp at h
   |_::_::_,h=>rw[hy]at h;simp at h
  refine(aJ0 hb hc).mono ?_;rintro r w1 ⟨o1,x1⟩;refine(LZ (ho.ext x1 (aR _)) (by omega)).mono ?_;rintro r2 w2 ⟨o2,x2⟩;refine hk _ _ ?_ (x1.seq x2);unfold agI;rw[if_neg (by omega),if_pos h0];refine⟨r,r2,rfl, ?_,HM o2 x1.size⟩;have o1:=o1.ext x2 (λ_ _ h=>h);rw[a2C,a5X];exact o1
 .have n0:((H.kind:Int)==0)=false:=by rw[h0]<;>rfl
  have n1:((H.kind:Int)==1)=false:=by rw[h0]<;>rfl
  have n2:((H.kind:Int)==2)=true:=by rw[h0]<;>rfl
  simp(disch:=omega)only[SV,n0,n1,n2];have hB:agI H b old=match ayP H b old with| .error e=> .error e| .ok p=>asI H p.1 p.2:=by
   unfold agI;rw[if_neg (by omega),if_neg (by omega)]<;>(cases ayP H b old<;>rfl)
  have hW:ayP H b old=match wtR b with| .error e=> .error e| .ok p=> .ok (p.1,b.drop p.2):=by unfold ayP;rw[if_pos h0]<;>(cases wtR b<;>rfl)
  refine(aSp hb hbl).mono ?_;rintro r w1 ⟨hr,x1⟩;cases hq:wtR b with
  |error e=>
   rw[hq]at hr;obtain rfl:r= .tuple #[.slice none 0 0,.int .i64 0,.int .i64 e]:=hr;have n3:(e !=0)=true:=by simp[aH4 hq]
   simp(disch:=omega)only[SV,n3];exact hk _ _ (by rw[hB,hW,hq]<;>rfl) x1
  |ok q=>
   have hq2:=aMp hq;obtain⟨m,n⟩:=q;rw[hq]at hr;obtain⟨v',rfl,o1⟩:=hr;simp only at hq2;have n3:((0:Int) !=0)=false:=rfl;have hb1:=hb.ext (x1.seq (aE.dr w1 aP)) (aR _);obtain⟨a,nn,cc,rfl,hnn,hcc,_⟩:=hb;rw[a1M]at hnn;subst hnn;have hdp:=hb1.drop' (k:=n) hq2.2.2;rw[<-a3M]at hdp;have tn:(n:Int).toNat=n:=a1H _;simp(disch:=omega)only[SV,n3,tn];have z1:=x1.size;refine aGf (aH (o.ext x1 (λh=>h))) hdp (by rw[a1L];omega) ((o1.ext (aE.dr w1 aP) (λ_ _ h=>h)).sl) (by omega) hc hf λr w2 hr2 x2=> ?_;refine hk _ _ ?_ ((x1.seq (aE.dr w1 aP)).seq x2);rw[hB,hW,hq];exact hr2.low z1
 .have n0:((H.kind:Int)==0)=false:=by rw[h0]<;>rfl
  have n1:((H.kind:Int)==1)=false:=by rw[h0]<;>rfl
  have n2:((H.kind:Int)==2)=false:=by rw[h0]<;>rfl
  simp(disch:=omega)only[SV,n0,n1,n2];refine aGf o hb (by omega) ho hol hc hf λr w2 hr2 x2=> ?_;refine hk _ _ ?_ x2;unfold agI ayP;rw[if_neg (by omega),if_neg (by omega),if_neg (by omega)];exact hr2
theorem aOu{ov:a7C}(h:Bs w v l)(hl:l.length<=100000)(ho:Bs w ov old)(hol:old.length<=100000):
 aL pg JN #[v,ov] w (λr w'=>aAC w' w.heap.size (VK l old) r/\aE w w' aP):=by
 refine anF ?_;obtain⟨RR,hRR⟩:∃RR:a7C->a7B->Prop,RR=λr w'=>aAC w' w.heap.size (VK l old) r/\aE w w' aP:=⟨_,rfl⟩;rw[<-hRR];have key:∀r w',aAC w' w.heap.size (VK l old) r->aE w w' aP->RR r w':=λr w' h1 h2=>by rw[hRR];exact⟨h1,h2⟩
 unfold ajC QP QO;refine(aRs h (by omega)).mono ?_;rintro r w1 ⟨hr,x1⟩;have z1:=x1.size;by_cases he:(iA l).2=0
 .have hr:r= .tuple #[lhV (iA l).1,.int .i64 0]:=by have:=hr;unfold OpR at this;rw[if_pos he]at this;exact this
  subst hr;obtain⟨h1,h2,h3,h4,h5,h6⟩:=aJf he;have hR:VK l old=aDQ (iA l).1 l old:=by unfold VK;rw[if_pos he]
  rw[hR]at key;generalize(iA l).1=H at*;have n0:((0:Int) !=0)=false:=rfl;unfold lhV;simp(disch:=omega)only[SV];refine Ak λw2 o2 x2 s2=> ?_;refine kB o2 rfl (by simp[one]) (by simp) λw3 o3 x3 s3=> ?_;simp only[aF,a1E,a1D]at o3;have x03:aE w w3 aP:=x1.seq (x2.new x3 (a1J _));obtain⟨p,hp⟩:∃p,p=w1.heap.size:=⟨_,rfl⟩;rw[<-hp]at o3⊢;have k0:=o3.cell (off:=0);have k2:=o3.cell (off:=2);have k3:=o3.cell (off:=3);simp only[a1A,a1B]at k0 k2 k3;have hh:=h;obtain⟨a,nn,cc,rfl,hnn,hcc,_⟩:=h;rw[a1M]at hnn;subst hnn;have hdp:=(hh.ext x03 (aR _)).drop' (k:=H.size) h2;rw[<-a3M]at hdp;have hbody:∀w4,aT w4 p (lhC H (BE H))->aE w3 w4 (λy=>y=p)->xU RR (.slice (dI a cc H.size 1) (l.length-H.size) (cc-H.size)) ov (.pointer (some ⟨p,0,none⟩)) w4:=by
   intro w4 o4 x4;have x04:aE w w4 aP:=x03.trans x4 λy hy h=>by omega
   have z4:=x04.size;have hdp4:=(hh.ext x04 (aR _)).drop' (k:=H.size) h2;rw[<-a3M]at hdp4;have c0:=o4.cell (off:=0);have c2:=o4.cell (off:=2);have c4:=o4.cell (off:=4);simp only[a1A,a1B]at c0 c2 c4;have ty:(BE H:Int).toNat=BE H:=a1H _;have hyb:BE H<2^41:=by unfold BE;split<;>(try split)<;>omega
   have hlen:(l.drop H.size).length=l.length-H.size:=a1L;unfold xU Ua;by_cases hs:l.length-H.size<BE H
   .have d1:decide (((l.length-H.size:Nat):Int)<(BE H:Int))=true:=by simp;omega
    simp(disch:=omega)only[SV,c4,d1];exact key _ _ (by unfold aDQ;rw[hlen,if_pos hs]<;>rfl) x04
   .have d1:decide (((l.length-H.size:Nat):Int)<(BE H:Int))=false:=by simp;omega
    have e1:(H.size:Int)+(BE H:Int)=((H.size+BE H:Nat):Int):=by omega
    have htk:=hdp4.take' (k:=BE H) (by omega);rw[<-a4R]at htk;have htl:((l.drop H.size).take (BE H)).length=BE H:=by rw[a1N,hlen];omega
    simp(disch:=omega)only[SV,c4,d1,c2,ty,e1];refine aOt o4 htk (by omega) htl (ho.ext x04 (aR _)) hol h1 h4 h3 λr w5 hr5 x5=> ?_;refine key _ _ ?_ (x04.seq x5);unfold aDQ;rw[hlen,if_neg hs];exact hr5.low z4
  have ts:(H.size:Int).toNat=H.size:=a1H _;rcases(show H.kind=0∨H.kind=1∨H.kind=2∨H.kind=3 by omega)with h0|h0|h0|h0
  .have n1:((H.kind:Int)==0)=true:=by rw[h0]<;>rfl
   have hy:BE H=H.count:=by unfold BE;rw[if_pos h0]
   simp(disch:=omega)only[SV,n0,k0,k2,k3,ts,n1];refine eZ o3 rfl (by simp) λw4 o4 x4 s4=> ?_;exact hbody w4 (by rw[hy];exact o4) x4
  .have n1:((H.kind:Int)==0)=false:=by rw[h0]<;>rfl
   have n2:((H.kind:Int)==1)=true:=by rw[h0]<;>rfl
   have hy:BE H=1:=by unfold BE;rw[if_neg (by omega),if_pos h0]
   simp(disch:=omega)only[SV,n0,k0,k2,k3,ts,n1,n2];refine eZ o3 rfl (by simp) λw4 o4 x4 s4=> ?_;have e1:(1:Int)=((BE H:Nat):Int):=by rw[hy]<;>rfl
   rw[e1]at o4;exact hbody w4 o4 x4
  .have n1:((H.kind:Int)==0)=false:=by rw[h0]<;>rfl
   have n2:((H.kind:Int)==1)=false:=by rw[h0]<;>rfl
   have hy:BE H=H.bytes:=by unfold BE;rw[if_neg (by omega),if_neg (by omega)]
   simp(disch:=omega)only[SV,n0,k0,k2,k3,ts,n1,n2];rw[<-hy]at o3;exact hbody _ o3 (aE.refl _ _)
  .have n1:((H.kind:Int)==0)=false:=by rw[h0]<;>rfl
   have n2:((H.kind:Int)==1)=false:=by rw[h0]<;>rfl
   have hy:BE H=H.bytes:=by unfold BE;rw[if_neg (by omega),if_neg (by omega)]
   simp(disch:=omega)only[SV,n0,k0,k2,k3,ts,n1,n2];rw[<-hy]at o3;exact hbody _ o3 (aE.refl _ _)
 .have hr:r= .tuple #[lh0,.int .i64 (iA l).2]:=by have:=hr;unfold OpR at this;rw[if_neg he]at this;exact this
  subst hr;have n0:((iA l).2 !=0)=true:=by simp[he]
  unfold lh0;simp(disch:=omega)only[SV];refine Ak λw2 o2 x2 s2=> ?_;refine kB o2 rfl (by simp[one]) (by simp) λw3 o3 x3 s3=> ?_;simp(disch:=omega)only[SV,n0];exact key _ _ (by unfold VK;rw[if_neg he]<;>rfl) (x1.seq (x2.new x3 (a1J _)))
def Zl(o:Except Int (List UInt8×List UInt8×Nat))(r:a7C):Prop:=match o with
 | .error e=>r= .tuple #[.string ⟨#[]⟩,.string ⟨#[]⟩,.int .i64 0,.int .i64 e]
 | .ok (m,u,n)=>r= .tuple #[.string ⟨m.toArray⟩,.string ⟨u.toArray⟩,.int .i64 (n:Nat),.int .i64 0]
theorem aGu{y:ByteArray}(oq:aT w q (rhC H))(hxw:xw.size<=100000)(hy:y.size<=1000000)(hc:H.count<=131072)(hf:H.form<4)
 (hk:∀r w',Zl (asI H (aM xw) (aM y)) r->aE w w' aP->RR r w'):
 IM RR (.pointer (some ⟨q,0,none⟩)) (.int .i64 (H.size+BE H:Nat)) (.string y) (.string xw) w:=by
 unfold IM akN;have k1:=oq.cell (off:=1);have k3:=oq.cell (off:=3);simp only[a1A,a1B]at k1 k3;have hll:=aI xw;by_cases h0:(aM xw).length=0
 .have hxe:xw=⟨#[]⟩:=Fs (by have:=a2K.1 h0;rw[this]<;>rfl);subst hxe;simp(disch:=omega)only[SV,oI,Vy];exact hk _ _ (by unfold asI;rw[if_pos h0]<;>rfl) (aE.refl _ _)
 have hen:=ZM (x:=xw) (by omega);have hP:asI H (aM xw) (aM y)=match T7 H (aM xw) (aM y)with| .error e=> .error e| .ok m=> .ok (lI m,aM xw,H.size+BE H):=by
  unfold asI;rw[if_neg h0]<;>(cases T7 H (aM xw) (aM y)<;>rfl)
 rw[hP]at hk;have wc:IntKind.i64.wrap (H.count:Int)=(H.count:Int):=dM (by omega) (by omega)
 have fin:∀{r:a7C} {w1:a7B},uD (T7 H (aM xw) (aM y)) r->aE w w1 aP→
     bF pg (Ge r 0) w1 λt99 w2=>bF pg (Ge r 1) w2 λt100 w3=>BI RR t100 (.int .i64 (H.size+BE H:Nat)) (.string xw) t99 w3:=by
  intro r w1 hr x1;cases hd:T7 H (aM xw) (aM y)with
  |error e=>
   rw[hd]at hr hk;obtain rfl:r= .tuple #[.string ⟨#[]⟩,.int .i64 e]:=hr;have n1:(e !=0)=true:=by simp[aDP hd]
   unfold BI;simp(disch:=omega)only[SV,n1];exact hk _ _ rfl x1
  |ok m=>
   rw[hd]at hr hk;obtain rfl:r= .tuple #[.string ⟨(lI m).toArray⟩,.int .i64 0]:=hr;have n1:((0:Int) !=0)=false:=rfl;unfold BI;simp(disch:=omega)only[SV,n1];exact hk _ _ rfl x1
 by_cases h1:H.form=0
 .have n0:((H.form:Int)==0)=true:=by rw[h1]<;>rfl
  have hD:T7 H (aM xw) (aM y)=arV (aM xw) (aM y) H.count:=by unfold T7;rw[if_pos h1]
  simp(disch:=omega)only[SV,oI,hen,k1,n0,k3,wc];refine(aJR hxw hy hc).mono ?_;rintro r w1 ⟨hr,x1⟩;rw[<-hD]at hr;exact fin hr x1
 .have n0:((H.form:Int)==0)=false:=beq_eq_false_iff_ne.2 (by omega);have hD:T7 H (aM xw) (aM y)=Sf (aM xw) (aM y) H.count:=by unfold T7;rw[if_neg h1]
  simp(disch:=omega)only[SV,oI,hen,k1,n0,k3,wc];refine(aHJ hxw hy hc).mono ?_;rintro r w1 ⟨hr,x1⟩;rw[<-hD]at hr;exact fin hr x1
theorem aON{b old:ByteArray}(oq:aT w q (rhC H))(hb:b.size<=10000)(hold:old.size<=100000)(hsz:H.size<=(aM b).length)(hc:H.count<=131072)(hf:H.form<4)(hkd:H.kind<4)(hbt:H.bytes<2^40)
 (hk:∀r w',Zl (aDQ H (aM b) (aM old)) r->aE w w' aP->RR r w'):
 IN RR (.string b) (.string old) (.pointer (some ⟨q,0,none⟩)) (.int .u64 (BE H:Nat)) w:=by
 unfold IN akO;have k0:=oq.cell (off:=0);have k2:=oq.cell (off:=2);have k3:=oq.cell (off:=3);simp only[a1A,a1B]at k0 k2 k3;have hll:=aI b;have hyb:BE H<2^41:=by unfold BE;split<;>(try split)<;>omega
 have e1:(b.size:Int)-(H.size:Int)=((b.size-H.size:Nat):Int):=by omega
 have w1:IntKind.u64.wrap ((b.size-H.size:Nat):Int)=((b.size-H.size:Nat):Int):=eL (by omega) (by omega);have hdl:((aM b).drop H.size).length=b.size-H.size:=by rw[a1L,hll]
 by_cases hs:b.size-H.size<BE H
 .have d1:decide (((b.size-H.size:Nat):Int)<(BE H:Int))=true:=decide_eq_true (by omega);simp(disch:=omega)only[SV,k2,e1,w1,d1];exact hk _ _ (by unfold aDQ;rw[hdl,if_pos hs]<;>rfl) (aE.refl _ _)
 have d1:decide (((b.size-H.size:Nat):Int)<(BE H:Int))=false:=decide_eq_false (by omega);have w2:IntKind.i64.wrap (BE H:Int)=(BE H:Int):=dM (by omega) (by omega);have e2:(H.size:Int)+(BE H:Int)=((H.size+BE H:Nat):Int):=by omega
 have hH:aDQ H (aM b) (aM old)=agI H (((aM b).drop H.size).take (BE H)) (aM old):=by unfold aDQ;rw[hdl,if_neg hs]
 rw[hH]at hk;have ts:(H.size:Int).toNat=H.size:=a1H _;have tu:((H.size+BE H:Nat):Int).toNat=H.size+BE H:=a1H _;have hext:aM (b.extract H.size (H.size+BE H))=((aM b).drop H.size).take (BE H):=by
  rw[cX];congr 1;omega
 obtain⟨y,hy⟩:∃y,y=b.extract H.size (H.size+BE H):=⟨_,rfl⟩;rw[<-hy]at hext;have hyl:=aI y;have hyz:y.size=BE H:=by rw[<-hyl,hext,a1N,hdl];omega
 rw[<-hext]at hk;rcases(show H.kind=0∨H.kind=1∨H.kind=2∨H.kind=3 by omega)with h0|h0|h0|h0
 .have n0:((H.kind:Int)==0)=true:=by rw[h0]<;>rfl
  simp(disch:=omega)only[SV,k2,e1,w1,d1,w2,e2,ts,tu,k0,n0];refine hk _ _ ?_ (aE.refl _ _);unfold agI;rw[if_pos h0,<-hy];rfl
 .have n0:((H.kind:Int)==0)=false:=by rw[h0]<;>rfl
  have n1:((H.kind:Int)==1)=true:=by rw[h0]<;>rfl
  have hy1:BE H=1:=by unfold BE;rw[if_neg (by omega),if_pos h0]
  obtain⟨c,hyc⟩:∃c,aM y=[c]:=by
   have h9:(aM y).length=1:=by omega
   match aM y,h9 with
   |[c],_=>exact⟨c,rfl⟩
  have g0:(y[0]'(by omega)).toNat=c.toNat:=by
   have:=Fq y 0 (by omega);rw[this];simp only[hyc,a3Z]
  have t0:(0:Int).toNat=0:=rfl;have wc:IntKind.i64.wrap (H.count:Int)=(H.count:Int):=dM (by omega) (by omega);have k0d:=(aH oq).cell (off:=0);have k3d:=(aH oq).cell (off:=3);simp only[a1A,a1B]at k0d k3d;have hy0:(0:Int).toNat<y.size:=by show 0<y.size;omega
  have hyx:(0:Nat)<y.size:=by omega
  simp(disch:=omega)only[SV,k2,e1,w1,d1,w2,e2,ts,tu,k0,n0,n1,<-hy,t0,g0,k3d,wc];refine(aLW (c:=c) (by omega)).mono ?_;rintro r w3 ⟨rfl,x3⟩;refine hk _ _ ?_ ((aE.dr w aP).seq x3);unfold agI;rw[if_neg (by omega),if_pos h0,hyc];rfl
 .have n0:((H.kind:Int)==0)=false:=by rw[h0]<;>rfl
  have n1:((H.kind:Int)==1)=false:=by rw[h0]<;>rfl
  have n2:((H.kind:Int)==2)=true:=by rw[h0]<;>rfl
  have hB:agI H (aM y) (aM old)=match ayP H (aM y) (aM old)with| .error e=> .error e| .ok p=>asI H p.1 p.2:=by
   unfold agI;rw[if_neg (by omega),if_neg (by omega)]<;>(cases ayP H (aM y) (aM old)<;>rfl)
  have hW:ayP H (aM y) (aM old)=match wtR (aM y)with| .error e=> .error e| .ok p=> .ok (p.1,(aM y).drop p.2):=by
   unfold ayP;rw[if_pos h0]<;>(cases wtR (aM y)<;>rfl)
  rw[hB,hW]at hk;simp(disch:=omega)only[SV,k2,e1,w1,d1,w2,e2,ts,tu,k0,n0,n1,n2,<-hy];refine(aLU (x:=y) (by omega)).mono ?_;rintro r w3 ⟨hr,x3⟩;cases hq:wtR (aM y)with
  |error e=>
   rw[hq]at hr hk;obtain rfl:r= .tuple #[.string ⟨#[]⟩,.int .i64 0,.int .i64 e]:=hr;have n3:(e !=0)=true:=by simp[aH4 hq]
   simp(disch:=omega)only[SV,n3];exact hk _ _ rfl x3
  |ok p=>
   have hp2:=aMp hq;obtain⟨m,n⟩:=p;rw[hq]at hr hk;obtain rfl:r= .tuple #[.string ⟨m.toArray⟩,.int .i64 (n:Nat),.int .i64 0]:=hr;simp only at hp2 hk;have n3:((0:Int) !=0)=false:=rfl;have tn:(n:Int).toNat=n:=a1H _;have hms:(⟨m.toArray⟩:ByteArray).size=m.length:=by rw[<-aI]<;>rfl
   have hmx:aM (⟨m.toArray⟩:ByteArray)=m:=aHr m;generalize hmg:(⟨m.toArray⟩:ByteArray)=mm at*;have hz:aM (y.extract n y.size)=(aM y).drop n:=by
    rw[cX,a1T (by rw[a1L];omega)]
   have hzs:(y.extract n y.size).size<=1000000:=by rw[<-aI,hz,a1L];omega
   simp(disch:=omega)only[SV,n3,tn];refine aGu (oq.ext x3 (λh=>h)) (by omega) hzs hc hf λr w4 hr4 x4=> ?_;rw[hz,hmx]at hr4;exact hk _ _ hr4 (x3.seq x4)
 .have n0:((H.kind:Int)==0)=false:=by rw[h0]<;>rfl
  have n1:((H.kind:Int)==1)=false:=by rw[h0]<;>rfl
  have n2:((H.kind:Int)==2)=false:=by rw[h0]<;>rfl
  have hB:agI H (aM y) (aM old)=asI H (aM old) (aM y):=by
   unfold agI ayP;rw[if_neg (by omega),if_neg (by omega),if_neg (by omega)]
  rw[hB]at hk;simp(disch:=omega)only[SV,k2,e1,w1,d1,w2,e2,ts,tu,k0,n0,n1,n2,<-hy];exact aGu oq hold (by omega) hc hf hk
theorem aJT{b old:ByteArray}(hb:b.size<=10000)(hold:old.size<=100000)(hc:(iA (aM b)).2=0->(iA (aM b)).1.count<=131072):
 aL pg Vb #[.string b,.string old] w (λr w'=>Zl (VK (aM b) (aM old)) r/\aE w w' aP):=by
 refine aCc ?_;obtain⟨RR,hRR⟩:∃RR:a7C->a7B->Prop,RR=λr w'=>Zl (VK (aM b) (aM old)) r/\aE w w' aP:=⟨_,rfl⟩;rw[<-hRR];have key:∀r w',Zl (VK (aM b) (aM old)) r->aE w w' aP->RR r w':=λr w' h1 h2=>by rw[hRR];exact⟨h1,h2⟩
 unfold aEw akQ akP;refine(aOR (b:=b)).mono ?_;rintro r w1 ⟨rfl,x1⟩;unfold rhV;simp(disch:=omega)only[SV];refine yV λw2 o2 x2 s2=> ?_;refine lD o2 rfl (by simp[one]) (by simp) λw3 o3 x3 s3=> ?_;simp only[aF,a1E,a1D]at o3;have x03:aE w w3 aP:=x1.seq (x2.new x3 (by omega));by_cases he:(iA (aM b)).2=0
 .have n0:((iA (aM b)).2 !=0)=false:=by rw[he]<;>rfl
  have hR:VK (aM b) (aM old)=aDQ (iA (aM b)).1 (aM b) (aM old):=by unfold VK;rw[if_pos he]
  rw[hR]at key;obtain⟨h1,h2,h3,h4,h5,h6⟩:=aJf he;have hc:=hc he;generalize(iA (aM b)).1=H at*;have k0:=o3.cell (off:=0);have k3:=o3.cell (off:=3);have k4:=o3.cell (off:=4);simp only[a1A,a1B]at k0 k3 k4;have fin:=aON (RR:=RR) o3 hb hold h2 hc h4 h3 h6 λr w' hr x'=>key r w' hr (x03.seq x');rcases(show H.kind=0∨H.kind=1∨2<=H.kind by omega)with h0|h0|h0
  .have n1:((H.kind:Int)==0)=true:=by rw[h0]<;>rfl
   have n2:((H.kind:Int)==1)=false:=by rw[h0]<;>rfl
   have hy:BE H=H.count:=by unfold BE;rw[if_pos h0]
   rw[hy]at fin;simp(disch:=omega)only[SV,n0,k0,k3,k4,n1];unfold BJ IP;simp(disch:=omega)only[SV,k0,n2];exact fin
  .have n1:((H.kind:Int)==0)=false:=by rw[h0]<;>rfl
   have n2:((H.kind:Int)==1)=true:=by rw[h0]<;>rfl
   have hy:BE H=1:=by unfold BE;rw[if_neg (by omega),if_pos h0]
   rw[hy]at fin;simp(disch:=omega)only[SV,n0,k0,k3,k4,n1];unfold BJ IP;simp(disch:=omega)only[SV,k0,n2];exact fin
  .have n1:((H.kind:Int)==0)=false:=beq_eq_false_iff_ne.2 (by omega);have n2:((H.kind:Int)==1)=false:=beq_eq_false_iff_ne.2 (by omega);have hy:BE H=H.bytes:=by unfold BE;rw[if_neg (by omega),if_neg (by omega)]
   rw[hy]at fin;simp(disch:=omega)only[SV,n0,k0,k3,k4,n1];unfold BJ IP;simp(disch:=omega)only[SV,k0,n2];exact fin
 .have n0:((iA (aM b)).2 !=0)=true:=by simp[he]
  simp(disch:=omega)only[SV,n0];exact key _ _ (by unfold VK;rw[if_neg he]<;>rfl) x03
theorem aKs:∀{p:List (Nat×Nat)} {l:List UInt8} {m:List Nat},GJ C l p= .ok m->m.length=(p.map (·.2)).sum
 |[],l,m,h=>by unfold GJ at h;cases h;rfl
 |(k,n)::r,l,m,h=>by
  unfold GJ at h;split at h
  .cases h
  .rename_i m1 h1;split at h
   .cases h
   .rename_i m2 h2;cases h;rw[a1O,UD h1,aKs h2,a4D,List.sum_cons]
theorem aRb(h:T7 H wl b= .ok m):m.length=H.count:=by
 unfold T7 at h;split at h
 .unfold arV at h;split at h
  .cases h
  .exact UD h
 .unfold Sf at h;split at h
  .cases h
  .split at h
   .cases h
   .split at h
    .cases h
    .split at h
     .cases h
     .rw [aKs h];simp only[a4D,a6Y,List.sum_cons,List.sum_nil];omega
theorem aJe(h:(iA l).2=0):(iA l).1.count<=131072/\(iA l).1.size<=l.length:=by
 cases l with
 |nil=>simp[iA]at h
 |cons c r=>
  rw[iA]at h⊢;by_cases hs:(c::r).length<eK (c.toNat%4) (c.toNat/4%4)
  .rw [if_pos hs]at h;simp at h
  .rw [if_neg hs]at h⊢;simp only at h⊢;split at h
   .simp at h
   .exact ⟨by omega,by omega⟩
theorem aHq{m u:List UInt8}(h:VK l old= .ok (m,u,n)):m.length<=131072/\n<=l.length/\(u=old∨u.length<=256):=by
 unfold VK at h;split at h
 .rename_i h0;obtain⟨hc,hz⟩:=aJe h0;unfold aDQ at h;split at h
  .cases h
  .rename_i hl;obtain⟨H,hH⟩:∃H,H=(iA l).1:=⟨_,rfl⟩;rw[<-hH]at h hl hc hz;rw[a1L]at hl;unfold agI at h;split at h
   .rename_i hk;cases h;have:BE H=H.count:=by unfold BE;rw[if_pos hk]
    exact⟨by rw[a1N];omega,by omega,.inl rfl⟩
   .split at h
    .cases h;exact⟨by rw[a2C];omega,by omega,.inl rfl⟩
    .split at h
     .cases h
     .rename_i p hp;unfold asI at h;split at h
      .cases h
      .split at h
       .cases h
       .rename_i m' hm;cases h;refine⟨by unfold lI;rw[a1M,aRb hm];exact hc,by omega, ?_⟩;unfold ayP at hp;split at hp
        .split at hp
         .cases hp
         .rename_i q hq;cases hp;exact .inr (aMp hq).1
        .cases hp;exact .inl rfl
 .cases h
theorem aUU{st:Nat->Nat}(h:Qd t st)(B:List Bool)(left:Int):(v3 t B st left).1.ll<4294967296/\(v3 t B st left).1.ml<4294967296/\(v3 t B st left).1.of<4294967296:=
 ⟨(CC (by omega) (h 0 (by omega)).1 (h 0 (by omega)).2 B _).1,(CC (by omega) (h 2 (by omega)).1 (h 2 (by omega)).2 B _).1,(CC (by omega) (h 1 (by omega)).1 (h 1 (by omega)).2 B _).1⟩
theorem aR0 {B:List Bool}:∀{n:Nat} {st:Nat->Nat} {left:Int},Qd t st->∀s∈(sqF t B n st left).1,s.ll<4294967296/\s.ml<4294967296/\s.of<4294967296
 |0,st,left,h=>by intro s hs;unfold sqF sqR at hs;simp at hs
 |1,st,left,h=>by
  rw[aCC];intro s hs;obtain rfl:=a3W.1 hs;exact aUU h B left
 |n+2,st,left,h=>by
  rw[awL h];intro s hs;rcases a3C.1 hs with rfl|hs
  .exact aUU h B left
  .exact aR0 ((aaV h).1) s hs
theorem aEc{q:List Sq}(ho:aCG o)(h:sK l o= .ok (q,t)):aCG t/\q.length<=98047/\∀s∈q,s.ll<4294967296/\s.ml<4294967296/\s.of<4294967296:=by
 unfold sK at h;cases hn:ayX l with
 |error e=>rw[hn]at h;cases h
 |ok y=>
  obtain⟨n,r⟩:=y;obtain⟨hn1,_⟩:=aHv hn;rw[hn]at h;by_cases h0:n=0
  .simp only[if_pos h0]at h;split at h
   .cases h;exact⟨ho,by simp,λs hs=>by cases hs⟩
   .cases h
  .simp only[if_neg h0]at h;rw[Ws]at h;cases hh:QK o r with
   |error e=>rw[hh]at h;cases h
   |ok z=>
    obtain⟨t0,r'⟩:=z;rw[hh]at h;simp only at h;unfold I9 at h;cases he:YM r' with
    |none=>rw[he]at h;cases h
    |some k=>
     rw[he]at h;simp only at h;split at h
     .cases h
     .split at h
      .cases h
      .cases h;have hG:=(amV ho hh).1;obtain⟨g,_⟩:=aEW hG (aG r') (λ_=>0) (k:Int);rw[aEQ];have:=(aES (B:=aG r') (n:=n) (left:=(sts t (aG r') 3 (λ_=>0) (k:Int)).2) g).2.2;exact⟨λk hk _=>hG k hk,by omega,aR0 g⟩
theorem asJ(h:VK l old= .error e):e≠0:=by
 unfold VK at h;split at h
 .unfold aDQ at h;split at h
  .cases h;decide
  .unfold agI at h;split at h
   .cases h
   .split at h
    .cases h
    .split at h
     .rename_i e' hp;cases h;unfold ayP at hp;split at hp
      .split at hp
       .rename_i hq;cases hp;exact aH4 hq
       .cases hp
      .cases hp
     .unfold asI at h;split at h
      .cases h;decide
      .split at h
       .rename_i hm;cases h;exact aDP hm
       .cases h
 .rename_i h0;cases h;exact h0
theorem aRk(h:ayX l= .error e):e≠0:=by
 unfold ayX aOB aOC at h
 repeat' split at h
 all_goals first|(cases h;decide)|cases h
theorem afU(h:sK l o= .error e):e≠0:=by
 unfold sK at h;cases hn:ayX l with
 |error e'=>rw[hn]at h;cases h;exact aRk hn
 |ok y=>
  obtain⟨n,r⟩:=y;rw[hn]at h;by_cases h0:n=0
  .simp only[if_pos h0]at h;split at h
   .cases h
   .cases h;decide
  .simp only[if_neg h0]at h;rw[Ws]at h;cases hh:QK o r with
   |error e'=>rw[hh]at h;cases h;exact aF5 hh
   |ok z=>
    obtain⟨t0,r'⟩:=z;rw[hh]at h;simp only at h;unfold I9 at h;split at h
    .cases h;decide
    .split at h
     .cases h;decide
     .split at h
      .cases h;decide
      .cases h
structure GS where
 w:List UInt8
 t:Nat->TT
 r:Rp
variable{g:GS}
def YI(g:GS):Prop:=g.w.length<=256/\aCG g.t/\agB g.r
def pkd(s all:List UInt8)(g:GS)(win bound:Nat):Except Int (List UInt8×GS):=
 match VK s g.w with
 | .error e=> .error e
 | .ok (l,u,n)=>match sK (s.drop n) g.t with
   | .error e=> .error e
   | .ok (q,t)=>match Jm win bound all.length q all l g.r with
     | .error e=> .error e
     | .ok (a,r)=> .ok (a,⟨u,t,r⟩)
theorem aLK{a:List UInt8}{g':GS}(hg:YI g)(h:pkd s all g win bound= .ok (a,g')):YI g'/\all.length<=a.length/\a.length<=all.length+bound:=by
 obtain⟨h1,h2,h3⟩:=hg;unfold pkd at h;split at h
 .cases h
 .rename_i l u n hl;split at h
  .cases h
  .rename_i q t hq;split at h
   .cases h
   .rename_i b r hr;cases h;obtain⟨_,_,hu⟩:=aHq hl;obtain⟨ht,_,hs⟩:=aEc h2 hq;obtain⟨hr1,hr2,hr3⟩:=aNo h3 (λs hs'=>(hs s hs').2.2) (a1J _) hr;refine⟨⟨?_,ht,hr1⟩,hr2,hr3⟩;rcases hu with rfl|hu
    .exact h1
    .exact hu
def gC(wv:a7C)(a:Nat->Option Addr)(g:GS):List a7C:=[wv,.int .i64 (g.t 0).1,.slice (a 0) (g.t 0).2.length (g.t 0).2.length,.int .i64 (g.t 1).1,.slice (a 1) (g.t 1).2.length (g.t 1).2.length,.int .i64 (g.t 2).1,.slice (a 2) (g.t 2).2.length (g.t 2).2.length,
 .int .u32 (g.r.a:Nat),.int .u32 (g.r.b:Nat),.int .u32 (g.r.c:Nat)]
abbrev zG:a7C:= .agg #[.slice none 0 0,.int .i64 0,.slice none 0 0,.int .i64 0,.slice none 0 0,.int .i64 0,.slice none 0 0,.int .u32 0,.int .u32 0,.int .u32 0]
def aXk(w:a7B)(base:Nat)(o:Except Int (List UInt8×GS))(v:a7C):Prop:=match o with
 | .error e=>v= .tuple #[.slice none 0 0,zG,.int .i64 e]
 | .ok (x,g)=>∃xv wv a m,v= .tuple #[xv,.agg (gC wv a g).toArray,.int .i64 0]/\base<=m/\mH w m 1 xv x.length (x.map kH)/\mH w base 1 wv g.w.length (g.w.map kH)/\¬VH wv (λy=>m<=y)/\P9 w g.t a/\∀k ad,k<3->a k=some ad->ad.block<m
theorem aMj{T:TT}{x:Option Addr}{n:Int}{y:Option Addr}{c d:Nat}(h:tvL T x= .agg #[.int .i64 n,.slice y c d]):x=y:=by
 unfold tvL at h;injection h with h;injection h with h;injection h with _ h;injection h with h _;injection h with h
theorem aSd(h:P9 w o a)(hk:k<3){ad:Addr}(ha:a k=some ad):ad.block<w.heap.size:=by
 rcases h k hk with⟨_,hv⟩|⟨b,hv,_,ob⟩
 .rw [aMj hv]at ha;cases ha
 .rw [aMj hv]at ha;cases ha;exact ob.lt
theorem aTD(ot:aT w pt cs)(hc:cs.length=10)(hR:∀w',aE w w' (λy=>y=pt)->RR (.tuple #[.slice none 0 0,zG,.int .i64 e]) w'):
 bF pg (dL 83 (.pointer (some ⟨pt,0,none⟩)) zG) w λ_u w=>LdR pg 83 (.pointer (some ⟨pt,0,none⟩)) w λr1=>RR (.tuple #[.slice none 0 0,r1,.int .i64 e]) w:=by
 match cs,hc with
 |[c0,c1,c2,c3,c4,c5,c6,c7,c8,c9],_=>
  refine cI ot rfl (by simp[one]) (by simp) λw1 o1 x1 s1=> ?_;refine fH o1 (by simp[aF]) ?_;exact hR _ x1
theorem aOI{bv av:a7C}(hG:tY w)(hb:Bs w bv s)(ha:Bs w av all)(hw:Bs w wv g.w)(ht:P9 w g.t a)(hg:YI g)
 (h1:s.length<=100000) (h2:all.length<=2000000) (h3:bound<=131072) (h4:win<18446744073709551616):
 aL pg JM #[bv,av,.agg (gC wv a g).toArray,.int .u64 (win:Nat),.int .i64 (bound:Nat)] w (λv w'=>aXk w' w.heap.size (pkd s all g win bound) v/\aE w w' aP):=by
 obtain⟨g1,g2,g3⟩:=id hg;refine amO ?_;obtain⟨RR,hRR⟩:∃RR:a7C->a7B->Prop,RR=λv w'=>aXk w' w.heap.size (pkd s all g win bound) v/\aE w w' aP:=⟨_,rfl⟩;rw[<-hRR];obtain⟨ba,bc,rfl,hbc⟩:∃a c,bv= .slice a s.length c/\s.length<=c:=by
  obtain⟨a,n,c,rfl,hn,hc,-⟩:=id hb;rw[a1M]at hn;subst hn;exact⟨a,c,rfl,hc⟩
 obtain⟨wa,wc,rfl,hwc⟩:∃a c,wv= .slice a g.w.length c/\g.w.length<=c:=by
  obtain⟨a,n,c,rfl,hn,hc,-⟩:=id hw;rw[a1M]at hn;subst hn;exact⟨a,c,rfl,hc⟩
 unfold aiE TH TG;refine bY λw1 o1 x1 s1=> ?_;obtain⟨pg1,hpg⟩:∃p,p=w.heap.size:=⟨_,rfl⟩;have o1:aT w1 pg1 (gC (.slice wa g.w.length wc) a g):=by rw[hpg];exact o1
 rw[<-hpg];refine JW λw2 o2 x2 s2=> ?_;obtain⟨pt,hpt⟩:∃p,p=w1.heap.size:=⟨_,rfl⟩;rw[<-hpt]at o2⊢;have x02:=x1.seq x2;have o12:=o1.ext x2 λh=>h;have c0:=o12.cell (off:=0);simp only[gC,a1A]at c0;simp(disch:=omega)only[SV,c0];refine(aOu (hb.ext x02 (aR _)) h1 (hw.ext x02 (aR _)) (by omega)).mono ?_;rintro r w3 ⟨hl,x3⟩;have x03:=x02.seq x3;have o23:=o2.ext x3 λh=>h
 have err:∀{W':a7B} {cs:List a7C} {e:Int},cs.length=10->aT W' pt cs->aE w W' aP->pkd s all g win bound= .error e→
     bF pg (dL 83 (.pointer (some ⟨pt,0,none⟩)) zG) W' λ_u w=>LdR pg 83 (.pointer (some ⟨pt,0,none⟩)) w λr1=>RR (.tuple #[.slice none 0 0,r1,.int .i64 e]) w:=by
  intro W' cs e hcs ot x he;refine aTD ot hcs λw' xt=> ?_;rw[hRR,he];exact⟨rfl,x.trans xt λy hy h=>by omega⟩
 cases hlit:VK s g.w with
 |error e=>
  rw[hlit]at hl;obtain rfl:=hl;have he:(e !=0)=true:=by simpa using asJ hlit
  simp(disch:=omega)only[SV,he];exact err rfl o23 x03 (by unfold pkd;rw[hlit])
 |ok p=>
  obtain⟨l,u,n⟩:=p;rw[hlit]at hl;obtain⟨lv,uv,rfl,hlv,huv⟩:=hl;obtain⟨hl1,hn1,hu1⟩:=aHq hlit;have he:((0:Int) !=0)=false:=rfl;simp(disch:=omega)only[SV,he];have o13:=o12.ext x3 λh=>h;have hpg3:pg1<w3.heap.size:=by have:=x3.size;omega
  have hpt3:pt<w3.heap.size:=by have:=x3.size;omega
  have tail:∀{W':a7B} {t18:Nat} {sv:a7C} {tc:List a7C} {e:Int},aT W' t18 tc->tc.length=6->aE w3 W' aP->w3.heap.size<=t18→
      (match sK (s.drop n) g.t with
       | .error e'=>e=e'
       | .ok (q,t)=>e=0/\∃a',tc=c6 t a'/\mH W' w3.heap.size 3 sv q.length (sqs q)/\P9 W' t a')→
      Av RR av (.int .u64 (win:Nat)) (.int .i64 (bound:Nat)) (.pointer (some ⟨pg1,0,none⟩)) (.pointer (some ⟨pt,0,none⟩)) lv uv (.int .i64 e) sv (.pointer (some ⟨t18,0,none⟩)) W':=by
   intro W' t18 sv tc e ot htc xx ht18 hm;have zz:=xx.size;unfold Av;cases hr:sK (s.drop n) g.t with
   |error e'=>
    rw[hr]at hm;simp only at hm;subst hm;have he':(e !=0)=true:=by simpa using afU hr
    simp(disch:=omega)only[SV,he'];exact err rfl (o23.ext xx λh=>h) (x03.seq xx) (by unfold pkd;rw[hlit];simp only;rw[hr])
   |ok y=>
    obtain⟨q,t⟩:=y;rw[hr]at hm;simp only at hm;obtain⟨rfl,a',rfl,hsv,ht'⟩:=hm;obtain⟨hG',hq1,hq2⟩:=aEc g2 hr;have oG:=o13.ext xx λh=>h;have lR:(cK 75 (.pointer (some ⟨pg1,7,none⟩))).run pg W'= .ok (.value (Uw g.r)) W':=fG (off:=7) oG (by simp[gC]);simp(disch:=omega)only[SV,he,lR];refine(aXT (ha.ext (x03.seq xx) (aR _)) (hlv.sl.ext xx (aR _)) hsv g3 hq2 h2 (by omega) h3 h4 (by omega)).mono ?_;rintro r W2 ⟨hR,x2'⟩;have zW:=x2'.size;have oT2:=ot.ext x2' λh=>h;have op2:=(o23.ext xx λh=>h).ext x2' λh=>h;have xW2:=xx.seq x2';cases hx:Jm win bound all.length q all l g.r with
    |error e'=>
     rw[hx]at hR;obtain rfl:=hR;have he':(e' !=0)=true:=by simpa using ZN hx
     simp(disch:=omega)only[SV,he'];refine iN λw7 o7 x7 s7=> ?_
     try simp(disch:=omega)only[SV]
     refine dC o7 rfl (by simp[one]) (by simp) λw8 o8 x8 s8=> ?_;have x28:aE W2 w8 aP:=x7.trans x8 λy hy h=>by omega
     try simp(disch:=omega)only[SV,he']
     exact err rfl (op2.ext x28 λh=>h) (x03.seq (xW2.seq x28)) (by unfold pkd;rw[hlit];simp only;rw[hr];simp only;rw[hx])
    |ok y=>
     obtain⟨b,r'⟩:=y;rw[hx]at hR;obtain⟨xv,rfl,hxv⟩:=hR;simp(disch:=omega)only[SV,he];refine iN λw7 o7 x7 s7=> ?_
     try simp(disch:=omega)only[SV]
     refine dC o7 rfl (by simp[one]) (by simp) λw8 o8 x8 s8=> ?_;have o8:aT w8 W2.heap.size (P8 r'):=o8;have x28:aE W2 w8 aP:=x7.trans x8 λy hy h=>by omega
     have lR8:(cK 75 (.pointer (some ⟨W2.heap.size,0,none⟩))).run pg (dr w8)= .ok (.value (Uw r')) (dr w8):=fG (off:=0) (aH o8) (by simp);have lT8:(cK 81 (.pointer (some ⟨t18,0,none⟩))).run pg (dr w8)= .ok (.value (.agg (c6 t a').toArray)) (dr w8):=fU (off:=0) (aH (oT2.ext x28 λh=>h)) (by simp[c6]);obtain⟨ua,uc,rfl⟩:=huv.len;have bd:∀w,(dK 83 [(0,.slice ua u.length uc),(1,.agg (c6 t a').toArray),(2,Uw r')]).run pg w= .ok (.value (.agg (gC (.slice ua u.length uc) a' ⟨u,t,r'⟩).toArray)) w:=λw=>by kernel_rfl
     simp(disch:=omega)only[SV,he,lR8,lT8,bd];refine cI (aH (op2.ext x28 λh=>h)) (by simp[gC]) (by simp[gC,one]) (by simp) λw9 o9 x9 s9=> ?_
     try simp(disch:=omega)only[SV]
     refine fH o9 (by simp[aF,gC]) ?_;rw[hRR];have xa:aE w w9 aP:=((x03.seq (xW2.seq x28)).seq (aE.dr w8 aP)).trans x9 λy hy h=>by omega
     have e:pkd s all g win bound= .ok (b,⟨u,t,r'⟩):=by unfold pkd;rw[hlit];simp only;rw[hr];simp only;rw[hx]
     rw[e];refine⟨⟨xv,.slice ua u.length uc,a',W'.heap.size,rfl,by omega, ?_, ?_,(huv.sl.ext xx (aR _)).old, ?_,λk ad hk h=>aSd ht' hk h⟩,xa⟩
     .exact ((hxv.ext x28 λb hb h=>h).ext (aE.dr w8 aP) λb hb h=>h).ext x9 λb hb h=>by omega
     .exact mH.lower ((((huv.ext xW2 λb hb h=>h).ext x28 λb hb h=>h).ext (aE.dr w8 aP) λb hb h=>h).ext x9 λb hb h=>by omega) (by omega)
     .refine P9.own ((((ht'.ext x2').ext x28).ext (aE.dr w8 aP))) (aH (op2.ext x28 λh=>h)) (by simp) (λu=>by simp) x9
  have hbd:Bs (dr w3) (.slice (dI ba bc n 1) (s.length-n) (bc-n)) (s.drop n):=by
   have:=Sl.drop' ((hb.ext x03 (aR _)).ext (aE.dr w3 aP) (aR _)) (k:=n) hn1
   rwa [<-a3M]at this
  have lT:∀{W':a7B},aT W' pg1 (gC (.slice wa g.w.length wc) a g)->(cK 81 (.pointer (some ⟨pg1,1,none⟩))).run pg W'= .ok (.value (.agg (c6 g.t a).toArray)) W':=λo=>fU (off:=1) o (by simp[gC]);have lTd:=lT (aH o13);refine Td ?_ ?_
  .simp (disch:=omega)only[SV,lTd];refine(aGA (hG.ext (x03.seq (aE.dr w3 aP))) hbd (by rw[a1L];omega) (ht.ext (x03.seq (aE.dr w3 aP))) g2).mono ?_;rintro r w4 ⟨hS,x4⟩;have x34:aE w3 w4 aP:=(aE.dr w3 _).seq x4;have z4:=x34.size;cases hr:sK (s.drop n) g.t with
   |error e=>
    rw[hr]at hS tail;obtain rfl:=hS;unfold BF;simp(disch:=omega)only[SV];refine fI λw5 o5 x5 s5=> ?_
    try simp(disch:=omega)only[SV]
    refine dT o5 rfl (by simp[one]) (by simp) λw6 o6 x6 s6=> ?_
    try simp(disch:=omega)only[SV]
    exact tail o6 (by simp[aF]) ((x34.seq x5).trans x6 λy hy h=>by omega) (by omega) rfl
   |ok y=>
    obtain⟨q,t⟩:=y;rw[hr]at hS tail;obtain⟨sv,a',rfl,hsv,ht'⟩:=hS;simp(disch:=omega)only[SV];refine fI λw5 o5 x5 s5=> ?_
    try simp(disch:=omega)only[SV]
    refine dT o5 (by simp[c6]) (by simp[c6,one]) (by simp) λw6 o6 x6 s6=> ?_;have o6:aT w6 w4.heap.size (c6 t a'):=o6
    try simp(disch:=omega)only[SV]
    have x46:aE w4 w6 aP:=x5.trans x6 λy hy h=>by omega
    exact tail o6 rfl (x34.seq x46) (by omega) ⟨rfl,a',rfl,hsv.ext x46 λb hb h=>h,ht'.ext x46⟩
  .simp (disch:=omega)only[SV,lTd];refine fI λw4 o4 x4 s4=> ?_;have x34:aE w3 w4 aP:=(aE.dr w3 _).seq x4;have z4:=x34.size;have hd:(dr w3).heap.size=w3.heap.size:=rfl;have lT4:=lT (o13.ext x34 λh=>h);simp(disch:=omega)only[SV,lT4];refine(aGA (hG.ext (x03.seq x34)) (hbd.ext x4 (aR _)) (by rw[a1L];omega) (ht.ext (x03.seq x34)) g2).mono ?_;rintro r w5 ⟨hS,x5⟩;have o5:=o4.ext x5 λh=>h;cases hr:sK (s.drop n) g.t with
   |error e=>
    rw[hr]at hS tail;obtain rfl:=hS;unfold BF;simp(disch:=omega)only[SV];refine dT o5 rfl (by simp[one]) (by simp) λw6 o6 x6 s6=> ?_
    try simp(disch:=omega)only[SV]
    exact tail o6 (by simp[aF]) ((x34.seq x5).trans x6 λy hy h=>by omega) (by omega) rfl
   |ok y=>
    obtain⟨q,t⟩:=y;rw[hr]at hS tail;obtain⟨sv,a',rfl,hsv,ht'⟩:=hS;simp(disch:=omega)only[SV];refine dT o5 (by simp[c6]) (by simp[c6,one]) (by simp) λw6 o6 x6 s6=> ?_;have o6:aT w6 (dr w3).heap.size (c6 t a'):=o6
    try simp(disch:=omega)only[SV]
    refine tail o6 rfl ((x34.seq x5).trans x6 λy hy h=>by omega) (by omega) ⟨rfl,a',rfl, ?_, ?_⟩
    .exact mH.lower (hsv.ext x6 λb hb h=>by omega) (by omega)
    .exact ht'.own o5 (by simp) (λu=>by simp) x6
theorem aDh{x1 x2:a7C}{N:Nat}
 (o:aT w p cs) (k2:cs[2]?=some (.int .i64 (most:Nat))) (k3:cs[3]?=some vo) (hvo:∃a c,vo= .slice a n c) (hva:∃a c,va= .slice a N c) (hgc:gc.length=10) (hg1:∀y∈gc,one y=true) (og:aT w pg6 gc) (ot:aT w pt9 gZ) (hne:pg6≠pt9) (hpx:px≠pt9)
 (ox:aT w px [.bool L,x1,x2]) (hn:n<=2000000) (hN:N<=4000000) (hmost:most<=2000000)
 (hk:∀w',aE w w' (λy=>y=pt9)->RR (if most<n+N then .tuple #[DJ,gZv,.bool false,.int .i64 12]else .tuple #[va,.agg gc.toArray,.bool L,.int .i64 0]) w'):
 kV RR (.pointer (some ⟨p,0,none⟩)) va (.pointer (some ⟨pg6,0,none⟩)) (.pointer (some ⟨pt9,0,none⟩)) (.pointer (some ⟨px,0,none⟩)) w:=by
 match gc,hgc with
 |[g0,g1,g2,g3,g4,g5,g6,g7,g8,g9],_=>
 unfold kV;obtain⟨a,c,rfl⟩:=hvo;obtain⟨a',c',rfl⟩:=hva;have e2:=(aH o).cell (off:=2);have e3:=(aH o).cell (off:=3);have f2:=o.cell (off:=2);have f3:=o.cell (off:=3);have h2:=(aH (aH o)).cell (off:=2);have h3:=(aH (aH o)).cell (off:=3);rw[k2]at e2 f2 h2;rw[k3]at e3 f3 h3;by_cases h:most<n+N
 .have d1:decide ((n:Int)+(N:Int)>(most:Int))=true:=decide_eq_true (by omega);have d2:decide ((most:Int)<(n:Int)+(N:Int))=true:=decide_eq_true (by omega);rw[if_pos h]at hk;simp(disch:=omega)only[SV,e2,e3,f2,f3,h2,h3,d1,d2];refine cI (aH ot) rfl (by simp[one]) (by simp[gZ]) λw1 o1 x1 s1=> ?_;refine fH o1 (by simp[aF,gZ]) ?_;simp only[aF,gZ,a1E,a1D,a1F,a1C,a1G];exact hk w1 ((aE.dr w _).seq x1)
 .have d1:decide ((n:Int)+(N:Int)>(most:Int))=false:=decide_eq_false (by omega);have d2:decide ((most:Int)<(n:Int)+(N:Int))=false:=decide_eq_false (by omega);rw[if_neg h]at hk;have hg:=Az (off:=0) (aH og) (by simp);have hg2:=Az (off:=0) (aH (aH og)) (by simp);simp only[a1F,a1C,a1G]at hg hg2;have b0:=(aH ox).cell (off:=0);have b1:=(aH (aH ox)).cell (off:=0);simp only[a1A]at b0 b1;simp(disch:=omega)only[SV,e2,e3,f2,f3,h2,h3,d1,d2,hg,hg2,b0,b1];refine cI (aH (aH ot)) rfl (by simpa using hg1) (by simp[gZ]) λw1 o1 x1 s1=> ?_;have ox1:=(aH (aH ox)).ext x1 hpx;have b2:=ox1.cell (off:=0);simp only[a1A]at b2
  try simp(disch:=omega)only[SV,b2]
  refine fH o1 (by simp[aF,gZ]) ?_;simp only[aF,gZ,a1E,a1D,a1F,a1C,a1G];exact hk w1 (((aE.dr w _).seq (aE.dr _ _)).seq x1)
def aC6 (l all:List UInt8)(g:GS)(win room:Nat):Except Int (List UInt8×List UInt8×Bool×GS):=
 if l.length<3 then .error 10 else if tB l=3 then .error 11 else if min win 131072<oM l then .error 12
 else if l.length-3<Jc l then .error 10
 else if tB l=2 then
  (match pkd ((l.drop 3).take (oM l)) all g win (min win 131072)with
  | .error e=> .error e
  | .ok (a,g')=>if room<a.length then .error 12 else .ok (a,l.drop (3+Jc l),bx l%2==1,g'))
 else if room<all.length+(aC7 l).length then .error 12 else .ok (all++aC7 l,l.drop (3+Jc l),bx l%2==1,g)
def GAt(w:a7B)(A:Nat->Prop)(gc:List a7C)(g:GS):Prop:=
 ∃wv a,gc=gC wv a g/\Bs w wv g.w/\¬VH wv A/\P9 w g.t a/\∀k ad,k<3->a k=some ad->¬A ad.block
theorem GAt.len (h:GAt w A gc g):gc.length=10:=by
 obtain⟨wv,a,rfl,_⟩:=h;rfl
theorem GAt.one (h:GAt w A gc g):∀y∈gc,one y=true:=by
 obtain⟨wv,a,rfl,hb,_⟩:=h;obtain⟨b,n,c,rfl,_⟩:=hb;intro y hy;simp only[gC,a3C,List.mem_nil_iff,or_false]at hy;rcases hy with rfl|rfl|rfl|rfl|rfl|rfl|rfl|rfl|rfl|rfl<;>rfl
theorem aSg{M:Nat->Prop}(h:P9 w o a)(x:aE w w' M)(hM:∀k ad,k<3->a k=some ad->¬M ad.block):P9 w' o a:=by
 intro k hk;rcases h k hk with h1|⟨b,hv,hb,ob⟩
 .exact .inl h1
 .exact .inr ⟨b,hv,hb,ob.ext x (hM k _ hk (aMj hv))⟩
theorem GAt.ext {M:Nat->Prop}(h:GAt w A gc g)(x:aE w w' M)(hM:∀b,M b->A b):GAt w' A gc g:=by
 obtain⟨wv,a,e,hb,hn,ht,ha⟩:=h;exact⟨wv,a,e,hb.ext x λhi=>hn (asE hi hM),hn,aSg ht x λk ad hk h hm=>ha k ad hk h (hM _ hm),ha⟩
def aGU(l all:List UInt8)(g:GS)(win:Nat):Except Int (List UInt8×List UInt8×Bool×GS):=
 if l.length<3 then .error 10 else if tB l=3 then .error 11 else if min win 131072<oM l then .error 12
 else if l.length-3<Jc l then .error 10
 else if tB l=2 then
  (match pkd ((l.drop 3).take (oM l)) all g win (min win 131072)with
  | .error e=> .error e
  | .ok (a,g')=> .ok (a,l.drop (3+Jc l),bx l%2==1,g'))
 else .ok (all++aC7 l,l.drop (3+Jc l),bx l%2==1,g)
theorem aQq(l all:List UInt8)(g:GS)(win room:Nat):aC6 l all g win room=match aGU l all g win with
 | .error e=> .error e
 | .ok t=>if room<t.1.length then .error 12 else .ok t:=by
 unfold aC6 aGU;by_cases h1:l.length<3
 .rw [if_pos h1,if_pos h1]
 rw[if_neg h1,if_neg h1];by_cases h2:tB l=3
 .rw [if_pos h2,if_pos h2]
 rw[if_neg h2,if_neg h2];by_cases h3:min win 131072<oM l
 .rw [if_pos h3,if_pos h3]
 rw[if_neg h3,if_neg h3];by_cases h4:l.length-3<Jc l
 .rw [if_pos h4,if_pos h4]
 rw[if_neg h4,if_neg h4];by_cases h5:tB l=2
 .rw [if_pos h5,if_pos h5];cases pkd ((l.drop 3).take (oM l)) all g win (min win 131072)with
  |error e=>rfl
  |ok t=>rfl
 .rw [if_neg h5,if_neg h5,<-a1O]
def gR(xa xw:ByteArray)(a:Nat->Option Addr)(c:Nat->Nat)(g:GS):List a7C:=[.string xa,.string xw,.int .i64 (g.t 0).1,.slice (a 0) (g.t 0).2.length (c 0),.int .i64 (g.t 1).1,.slice (a 1) (g.t 1).2.length (c 1),.int .i64 (g.t 2).1,.slice (a 2) (g.t 2).2.length (c 2),.int .u32 (g.r.a:Nat),.int .u32 (g.r.b:Nat),.int .u32 (g.r.c:Nat)]
def RBk(w:a7B)(r:a7C):Except Int (List UInt8×List UInt8×Bool×GS)->Prop
 | .error e=>e≠0/\∃x xa xw a c g,r= .tuple #[.string x,.agg (gR xa xw a c g).toArray,.bool false,.int .i64 e]
 | .ok (all,l,last,g)=>∃x xa xw a c,r= .tuple #[.string x,.agg (gR xa xw a c g).toArray,.bool last,.int .i64 0]/\aM x=l/\aM xa=all/\aM xw=g.w/\Rb3 w g.t a c
theorem aiU(o:aT w p (gR xa xw a c g)):(cK 62 (.pointer (some ⟨p,0,none⟩))).run pg w= .ok (.value (.agg (gR xa xw a c g).toArray)) w:=YO (off:=0) o (by simp[gR])
theorem arP{t:Nat}{b':ByteArray}(ot:aT w t cs)(hc:cs.length=11)
 (hR:∀w',aE w w' (λy=>y=t)->RR (.tuple #[.string b',.agg (gR xa xw a c g).toArray,.bool false,.int .i64 e]) w'):
 bF pg (dL 62 (.pointer (some ⟨t,0,none⟩)) (.agg (gR xa xw a c g).toArray)) w λ_u w=>LdR pg 62 (.pointer (some ⟨t,0,none⟩)) w λr1=>RR (.tuple #[.string b',r1,.bool false,.int .i64 e]) w:=by
 match cs,hc with
 |[c0,c1,c2,c3,c4,c5,c6,c7,c8,c9,c10],_=>
  refine fO ot (by simp[gR]) (by simp[gR,one]) (by simp) λw1 o1 x1 s1=> ?_;refine qH o1 (by simp[aF,gR]) ?_;exact hR _ x1
theorem aRK{b' xl xu:ByteArray}{ta:Nat->Option Addr}{tc:Nat->Nat}{q:List Sq}{qv:a7C}{b0 pq p9 bd:Nat}{x1 x2:a7C}{tz:List a7C}
 (og:aT w pq (gR xa xw a c g)) (ot:aT w pt tz) (htz:tz.length=11) (hts:∀u x,¬(tz[0]?=some (.int .i64 u)/\tz[1]?=some (.int .i64 x))) (ox:aT w px [.bool L,x1,x2]) (o9:aT w p9 (r6 t ta tc)) (hne:px≠pt/\pq≠pt/\p9≠pt) (hT:Rb3 w t ta tc) (hq:mH w b0 3 qv q.length (sqs q)) (hr:agB g.r)
 (hqs:∀s∈q,s.ll<4294967296/\s.ml<4294967296/\s.of<4294967296) (h1:xa.size<=2000000) (h2:xl.size<=1000000) (h3:bd<=131072) (h4:win<18446744073709551616) (h5:q.length<=1000000)
 (hE:∀e w',Jm win bd xa.size q (aM xa) (aM xl) g.r= .error e->aE w w' (λy=>y=pt)->RR (.tuple #[.string b',.agg (gR xa xw a c g).toArray,.bool false,.int .i64 e]) w')
 (hk:∀y r' w',Jm win bd xa.size q (aM xa) (aM xl) g.r= .ok (y,r')->aE w w' (λy=>y=pt)->Rb3 w' t ta tc->RR (.tuple #[.string b',.agg (gR ⟨y.toArray⟩ xu ta tc ⟨aM xu,t,r'⟩).toArray,.bool L,.int .i64 0]) w'):
 pW RR (.string b') (.int .u64 (win:Nat)) (.pointer (some ⟨pq,0,none⟩)) (.pointer (some ⟨pt,0,none⟩)) (.int .i64 (bd:Nat)) (.pointer (some ⟨px,0,none⟩)) (.int .i64 0) (.string xl) (.string xu) qv (.pointer (some ⟨p9,0,none⟩)) w:=by
 unfold pW;have n0:((0:Int) !=0)=false:=rfl;have c0:=og.cell (off:=0);simp only[gR,a1A]at c0;have lr:(cK 56 (.pointer (some ⟨pq,8,none⟩))).run pg w= .ok (.value (Uw g.r)) w:=aaE (off:=8) og (by simp[gR]);simp(disch:=omega)only[SV,n0,c0,lr];refine(aLV hq hr hqs h1 h2 h3 h4 h5).mono ?_;rintro v w1 ⟨rfl,x1⟩;cases hx:Jm win bd xa.size q (aM xa) (aM xl) g.r with
 |error e=>
  have he:(e !=0)=true:=by simpa using ZN hx
  unfold aSO;simp(disch:=omega)only[SV];refine lY λw2 o2 x2 s2=> ?_;refine fB o2 rfl (by simp[one]) (by simp) λw3 o3 x3 s3=> ?_;have x13:aE w1 w3 aP:=x2.new x3 (a1J _);have xx:aE w w3 aP:=x1.seq x13;have lg:=aiU (aH (og.ext xx λh=>h));simp(disch:=omega)only[SV,he,lg];exact arP (aH (ot.ext xx λh=>h)) htz λw' x'=>hE e w' hx (((xx.mono λ_ _ h=>h.elim).seq (aE.dr w3 _)).seq x')
 |ok v=>
  obtain⟨y,r'⟩:=v;unfold aSO;simp(disch:=omega)only[SV];refine lY λw2 o2 x2 s2=> ?_;refine fB o2 rfl (by simp[one]) (by simp) λw3 o3 x3 s3=> ?_;have o3:aT w3 w1.heap.size (P8 r'):=o3;have x13:aE w1 w3 aP:=x2.new x3 (a1J _);have xx:aE w w3 aP:=x1.seq x13;have l3:=B5 (aH o3);have l9:(cK 60 (.pointer (some ⟨p9,0,none⟩))).run pg (dr w3)= .ok (.value (.agg #[.int .i64 (t 0).1,.slice (ta 0) (t 0).2.length (tc 0),.int .i64 (t 1).1,.slice (ta 1) (t 1).2.length (tc 1),.int .i64 (t 2).1,.slice (ta 2) (t 2).2.length (tc 2)])) (dr w3):=cA (off:=0) (aH (o9.ext xx λh=>h)) (by simp[r6]);have ox3:=aH (ox.ext xx λh=>h);have f0:=ox3.cell (off:=0);simp only[a1A]at f0;have ot3:=aH (ot.ext xx λh=>h);simp(disch:=omega)only[SV,n0,l3,l9,f0];refine fO ot3 (by simp) (by simp[one]) (by simp[htz]) λw4 o4 x4 s4=> ?_;have g0:=(ox3.ext x4 hne.1).cell (off:=0);simp only[a1A]at g0;simp(disch:=omega)only[SV,g0];have hset:aF tz 0 (#[.string ⟨y.toArray⟩,.string xu,.int .i64 (t 0).1,.slice (ta 0) (t 0).2.length (tc 0),.int .i64 (t 1).1,.slice (ta 1) (t 1).2.length (tc 1),.int .i64 (t 2).1,.slice (ta 2) (t 2).2.length (tc 2),.int .u32 (r'.a:Nat),.int .u32 (r'.b:Nat),.int .u32 (r'.c:Nat)]:Array a7C).toList=gR ⟨y.toArray⟩ xu ta tc ⟨aM xu,t,r'⟩:=by
   match tz,htz with
   |[c0,c1,c2,c3,c4,c5,c6,c7,c8,c9,c10],_=>rfl
  have o4:aT w4 pt (gR ⟨y.toArray⟩ xu ta tc ⟨aM xu,t,r'⟩):=by rw[<-hset];exact o4
  refine qH o4 (by simp[gR]) ?_;refine hk y r' w4 hx (((xx.mono λ_ _ h=>h.elim).seq (aE.dr w3 _)).seq x4) ?_;exact((hT.ext xx).ext (aE.dr w3 aP)).own ot3 o4 hts x4
def aS5 (l all:List UInt8)(g:GS)(win bd k sz n:Nat)(L:Bool):Except Int (List UInt8×List UInt8×Bool×GS):=
 if l.length<n then .error 10 else if k=2 then(match pkd (l.take sz) all g win bd with| .error e=> .error e| .ok (a,g')=> .ok (a,l.drop n,L,g'))
 else .ok (all++(if k=1 then List.replicate sz (l.headD 0)else l.take sz),l.drop n,L,g)
theorem aTL{b:ByteArray}{pq bd:Nat}{tz:List a7C}{m:Except Int (List UInt8×List UInt8×Bool×GS)}
 (og:aT w pq (gR xa xw a c g)) (ot:aT w pt tz) (htz:tz.length=11) (hts:∀u x,¬(tz[0]?=some (.int .i64 u)/\tz[1]?=some (.int .i64 x))) (ox:aT w px [.bool L,.int .i64 (k:Nat),.int .i64 (sz:Nat)]) (hne:px≠pt/\pq≠pt/\px≠pq) (hT:Rb3 w g.t a c) (hw:aM xw=g.w) (hg:YI g)
 (hb:b.size<=10000) (h1:xa.size<=2000000) (h3:bd<=131072) (h4:win<18446744073709551616) (hk3:k<3) (hsz:sz<=131072) (hn:n=if k=1 then 1 else sz) (hm:m=aS5 (aM b) (aM xa) g win bd k sz n L)
 (hk:∀r w',RBk w' r m->aE w w' (λy=>y=pq∨y=pt)->RR r w'):
 zX RR (.string b) (.int .u64 (win:Nat)) (.pointer (some ⟨pq,0,none⟩)) (.pointer (some ⟨pt,0,none⟩)) (.int .i64 (bd:Nat)) (.pointer (some ⟨px,0,none⟩)) (.int .i64 (n:Nat)) w:=by
 unfold zX adI;have hlb:=aI b;have lg:=aiU (aH og);have tn:((n:Nat):Int).toNat=n:=a1H _;unfold aS5 at hm;by_cases hlt:(aM b).length<n
 .have d1:decide ((b.size:Int)<(n:Int))=true:=decide_eq_true (by omega);rw[if_pos hlt]at hm;subst hm;simp(disch:=omega)only[SV,d1,lg];exact arP (aH ot) htz λw' x'=>hk _ w' ⟨by decide,_,_,_,_,_,_,rfl⟩ ((aE.dr w _).seq (x'.mono λ_ _ h=> .inr h))
 rw[if_neg hlt]at hm;have d1:decide ((b.size:Int)<(n:Int))=false:=decide_eq_false (by omega);have hle1:aM (b.extract 0 n)=(aM b).take n:=by rw[cX,a1F,a6M]
 have hle2:aM (b.extract n b.size)=(aM b).drop n:=by rw[cX,a1T (by rw[a1L];omega)]
 have hes:(b.extract 0 n).size=n:=by rw[oY _ _ _ (by omega)];omega
 have c0:=og.cell (off:=0);have d0:=(aH og).cell (off:=0);have cw:=og.cell (off:=1);have k0:=ox.cell (off:=1);have f0:=(aH ox).cell (off:=0);have f2:=(aH ox).cell (off:=2);simp only[gR,a1A,a1B]at c0 d0 cw k0 f0 f2;rcases(show k=0∨k=1∨k=2 by omega)with hk'|hk'|hk'
 .have n1:(((k:Nat):Int)==0)=true:=by rw[hk']<;>rfl
  rw[if_neg (by omega),if_neg (by omega)]at hm;rw[if_neg (by omega)]at hn;have hsc:xa.size+(b.extract 0 n).size<=3000000:=by omega
  simp(disch:=omega)only[SV,d1,tn,k0,n1,c0,anM];refine aAn og rfl (by simp[gR]) λw1 o1 x1 s1=> ?_;have o1:aT w1 pq (gR (xa++b.extract 0 n) xw a c g):=o1;have lg1:=aiU (aH o1);have ox1:=ox.ext x1 hne.2.2;have g0:=(aH ox1).cell (off:=0);simp only[a1A]at g0;simp(disch:=omega)only[SV,lg1,g0];have ot1:=aH (ot.ext x1 λh=>hne.2.1 h.symm);refine fO ot1 (by simp[gR]) (by simp[gR,one]) (by simp[htz]) λw2 o2 x2 s2=> ?_;have h0:=((aH ox1).ext x2 hne.1).cell (off:=0);simp only[a1A]at h0;simp(disch:=omega)only[SV,h0];have o2:aT w2 pt (gR (xa++b.extract 0 n) xw a c g):=by
   match tz,htz with
   |[c0,c1,c2,c3,c4,c5,c6,c7,c8,c9,c10],_=>exact o2
  refine qH o2 (by simp[gR]) ?_;subst hm;refine hk _ _ ⟨_,_,_,_,_,rfl,hle2,by rw[CR,hle1,hn],hw, ?_⟩ ((x1.mono λ_ _ h=> .inl h).seq ((aE.dr w1 _).seq (x2.mono λ_ _ h=> .inr h)));exact((hT.own og o1 (λu x=>by simp[gR]) x1).ext (aE.dr w1 aP)).own ot1 o2 hts x2
 .have n1:(((k:Nat):Int)==0)=false:=by rw[hk']<;>rfl
  have n2:(((k:Nat):Int)==1)=true:=by rw[hk']<;>rfl
  rw[if_neg (by omega),if_pos hk']at hm;rw[if_pos hk']at hn;simp(disch:=omega)only[SV,d1,tn,k0,n1,n2,d0,f2];refine(aHM (λ_=>by omega) (by omega)).mono ?_;rintro r w1 ⟨rfl,x1⟩;have x01:aE w w1 aP:=(aE.dr w _).seq x1;have og1:=og.ext x01 λh=>h;have e0:=og1.cell (off:=0);simp only[gR,a1A]at e0;obtain⟨y,hy⟩:∃y:ByteArray,y=⟨(List.replicate sz ((aM (b.extract 0 n)).headD 0)).toArray⟩:=⟨_,rfl⟩;have hly:aM y=List.replicate sz ((aM (b.extract 0 n)).headD 0):=by rw[hy]<;>rfl
  have hys:y.size=sz:=by rw[<-aI,hly,a2C]
  rw[<-hy];have hsc:xa.size+y.size<=3000000:=by omega
  simp(disch:=omega)only[SV,e0,anM];refine aAn og1 rfl (by simp[gR]) λw2 o2 x2 s2=> ?_;have o2:aT w2 pq (gR (xa++y) xw a c g):=o2;have lg2:=aiU (aH o2);have ox2:=(ox.ext x01 λh=>h).ext x2 hne.2.2;have g0:=(aH ox2).cell (off:=0);simp only[a1A]at g0;simp(disch:=omega)only[SV,lg2,g0];have ot2:=aH ((ot.ext x01 λh=>h).ext x2 λh=>hne.2.1 h.symm);refine fO ot2 (by simp[gR]) (by simp[gR,one]) (by simp[htz]) λw3 o3 x3 s3=> ?_;have h0:=((aH ox2).ext x3 hne.1).cell (off:=0);simp only[a1A]at h0;simp(disch:=omega)only[SV,h0];have o3:aT w3 pt (gR (xa++y) xw a c g):=by
   match tz,htz with
   |[c0,c1,c2,c3,c4,c5,c6,c7,c8,c9,c10],_=>exact o3
  refine qH o3 (by simp[gR]) ?_;subst hm;have hhd:(aM (b.extract 0 n)).headD 0=(aM b).headD 0:=by
   rw[hle1,hn];cases aM b<;>rfl
  refine hk _ _ ⟨_,_,_,_,_,rfl,hle2,by rw[CR,hly,hhd],hw, ?_⟩ ((x01.mono λ_ _ h=>h.elim).seq ((x2.mono λ_ _ h=> .inl h).seq ((aE.dr w2 _).seq (x3.mono λ_ _ h=> .inr h))));exact(((hT.ext x01).own og1 o2 (λu x=>by simp[gR]) x2).ext (aE.dr w2 aP)).own ot2 o3 hts x3
 .have n1:(((k:Nat):Int)==0)=false:=by rw[hk']<;>rfl
  have n2:(((k:Nat):Int)==1)=false:=by rw[hk']<;>rfl
  rw[if_pos hk']at hm;rw[if_neg (by omega)]at hn;simp(disch:=omega)only[SV,d1,tn,k0,n1,n2,cw];obtain⟨y,hy⟩:∃y,y=b.extract 0 n:=⟨_,rfl⟩;rw[<-hy]at hle1 hes⊢;have hys:aM y=(aM b).take sz:=by rw[hle1,hn]
  have hxw:xw.size=g.w.length:=by rw[<-aI,hw]
  have hg1:=hg.1;refine(aJT (by omega) (by omega) (λh=>(aJe h).1)).mono ?_;rintro r w1 ⟨hL,x1⟩;unfold pkd at hm;rw[<-hys,<-hw]at hm;cases hl:VK (aM y) (aM xw)with
  |error e=>
   have he:(e !=0)=true:=by simpa using asJ hl
   rw[hl]at hL hm;subst hm;obtain rfl:=hL;have lg1:=aiU (aH (og.ext x1 λh=>h));simp(disch:=omega)only[SV,he,lg1];exact arP (aH (ot.ext x1 λh=>h)) htz λw' x'=>hk _ w' ⟨asJ hl,_,_,_,_,_,_,rfl⟩ ((x1.mono λ_ _ h=>h.elim).seq ((aE.dr w1 _).seq (x'.mono λ_ _ h=> .inr h)))
  |ok v=>
   obtain⟨l,u,i⟩:=v;rw[hl]at hL hm;simp only at hm;obtain rfl:=hL;obtain⟨hl1,hl2,hl3⟩:=aHq hl;have he:((0:Int) !=0)=false:=rfl;have ti:((i:Nat):Int).toNat=i:=a1H _;have hly:=aI y;have og1:=og.ext x1 λh=>h;have l6:(cK 60 (.pointer (some ⟨pq,2,none⟩))).run pg (dr w1)= .ok (.value (.agg (r6 g.t a c).toArray)) (dr w1):=cA (off:=2) (aH og1) (by simp[gR]);have hdr:aM (y.extract i y.size)=(aM y).drop i:=by rw[cX,a1T (by rw[a1L];omega)]
   have hsz2:(y.extract i y.size).size<=1000000:=by rw[oY _ _ _ (a1J _)];omega
   obtain⟨z,hz⟩:∃z,z=y.extract i y.size:=⟨_,rfl⟩;obtain⟨xl,hxl⟩:∃xl:ByteArray,xl=⟨l.toArray⟩:=⟨_,rfl⟩;obtain⟨xu,hxu⟩:∃xu:ByteArray,xu=⟨u.toArray⟩:=⟨_,rfl⟩;have hxl1:aM xl=l:=by rw[hxl]<;>rfl
   have hxu1:aM xu=u:=by rw[hxu]<;>rfl
   have hxl2:xl.size=l.length:=by rw[<-aI,hxl1]
   rw[<-hxl,<-hxu];rw[<-hdr,<-hz]at hm;rw[<-hz]at hsz2;have fail:∀{w2:a7B} {e:Int} {qv t19:a7C},aE w w2 aP->e≠0->m= .error e->pW RR (.string (b.extract n b.size)) (.int .u64 (win:Nat)) (.pointer (some ⟨pq,0,none⟩)) (.pointer (some ⟨pt,0,none⟩)) (.int .i64 (bd:Nat)) (.pointer (some ⟨px,0,none⟩)) (.int .i64 e) (.string xl) (.string xu) qv t19 w2:=by
    intro w2 e qv t19 x2 hn e';have hee:(e !=0)=true:=by simpa using hn
    have lg2:=aiU (aH (og.ext x2 λh=>h));unfold pW;simp(disch:=omega)only[SV,hee,lg2];exact arP (aH (ot.ext x2 λh=>h)) htz λw' x'=>hk _ w' (by rw[e'];exact⟨hn,_,_,_,_,_,_,rfl⟩) ((x2.mono λ_ _ h=>h.elim).seq ((aE.dr w2 _).seq (x'.mono λ_ _ h=> .inr h)))
   have good:∀{w2:a7B} {q:List Sq} {t:Nat->TT} {ta:Nat->Option Addr} {tc:Nat->Nat} {qv:a7C} {p b0:Nat},aE w w2 aP->w.heap.size<=p->sK (aM z) g.t= .ok (q,t)->aT w2 p (r6 t ta tc)->Rb3 w2 t ta tc->mH w2 b0 3 qv q.length (sqs q)->pW RR (.string (b.extract n b.size)) (.int .u64 (win:Nat)) (.pointer (some ⟨pq,0,none⟩)) (.pointer (some ⟨pt,0,none⟩)) (.int .i64 (bd:Nat)) (.pointer (some ⟨px,0,none⟩)) (.int .i64 0) (.string xl) (.string xu) qv (.pointer (some ⟨p,0,none⟩)) w2:=by
    intro w2 q t ta tc qv p b0 x2 hp hq o9 hT2 hqv;obtain⟨r1,r2,r3⟩:=aEc hg.2.1 hq;rw[hq]at hm;simp only at hm;have hlt2:=ot.lt;refine aRK (og.ext x2 λh=>h) (ot.ext x2 λh=>h) htz hts (ox.ext x2 λh=>h) o9 ⟨hne.1,hne.2.1,by omega⟩ hT2 hqv hg.2.2 r3 h1 (by omega) h3 h4 (by omega) ?_ ?_
    .intro e w' hx x';rw[aI,<-hxl1,hx]at hm;subst hm;exact hk _ w' ⟨ZN hx,_,_,_,_,_,_,rfl⟩ ((x2.mono λ_ _ h=>h.elim).seq (x'.mono λ_ _ h=> .inr h))
    .intro y r' w' hx x' hT';rw[aI,<-hxl1,hx]at hm;subst hm;refine hk _ w' ⟨_,_,_,_,_,rfl,hle2,rfl,hxu1,hT'⟩ ((x2.mono λ_ _ h=>h.elim).seq (x'.mono λ_ _ h=> .inr h))
   simp(disch:=omega)only[SV,he,ti,l6];refine Td ?_ ?_
   .rw [<-hz];refine(awE hsz2 (hT.ext (x1.seq (aE.dr w1 aP))) hg.2.1).mono ?_;rintro r w2 ⟨hS,x2⟩;have x02:aE w w2 aP:=x1.seq ((aE.dr w1 aP).seq x2);have z2:=x02.size;cases hq:sK (aM z) g.t with
    |error e=>
     rw[hq]at hS hm;obtain rfl:=hS;unfold BF;simp(disch:=omega)only[SV];refine fD λw3 o3 x3 s3=> ?_;refine dN o3 rfl (by simp[one]) (by simp) λw4 o4 x4 s4=> ?_
     try simp(disch:=omega)only[SV]
     exact fail (x02.seq (x3.new x4 (a1J _))) (afU hq) hm
    |ok v=>
     obtain⟨q,t⟩:=v;rw[hq]at hS;obtain⟨qv,ta,tc,rfl,hqv,hT2⟩:=hS;simp(disch:=omega)only[SV];refine fD λw3 o3 x3 s3=> ?_;refine dN o3 (by simp[r6]) (by simp[r6,one]) (by simp) λw4 o4 x4 s4=> ?_;have o4:aT w4 w2.heap.size (r6 t ta tc):=o4;have x24:aE w2 w4 aP:=x3.new x4 (a1J _)
     try simp(disch:=omega)only[SV]
     exact good (x02.seq x24) (by omega) hq o4 (hT2.ext x24) (hqv.ext x24 λ_ _ h=>h)
   .refine fD λw3 o3 x3 s3=> ?_;have x03:aE w w3 aP:=x1.seq ((aE.dr w1 aP).seq x3);have z3:=x03.size;have z1:=x1.size;have zd:(dr w1).heap.size=w1.heap.size:=rfl;have l6':(cK 60 (.pointer (some ⟨pq,2,none⟩))).run pg w3= .ok (.value (.agg (r6 g.t a c).toArray)) w3:=cA (off:=2) (og.ext x03 λh=>h) (by simp[gR]);refine⟨l6', ?_⟩;rw[<-hz];refine(awE hsz2 (hT.ext x03) hg.2.1).mono ?_;rintro r w4 ⟨hS,x4⟩;have o4:=o3.ext x4 λh=>h;have x04:aE w w4 aP:=x03.seq x4;have z4:=x04.size;cases hq:sK (aM z) g.t with
    |error e=>
     rw[hq]at hS hm;obtain rfl:=hS;unfold BF;simp(disch:=omega)only[SV];refine dN o4 rfl (by simp[one]) (by simp) λw5 o5 x5 s5=> ?_
     try simp(disch:=omega)only[SV]
     exact fail (x04.trans x5 λy hy h=>by omega) (afU hq) hm
    |ok v=>
     obtain⟨q,t⟩:=v;rw[hq]at hS;obtain⟨qv,ta,tc,rfl,hqv,hT2⟩:=hS;simp(disch:=omega)only[SV];refine dN o4 (by simp[r6]) (by simp[r6,one]) (by simp) λw5 o5 x5 s5=> ?_;have o5:aT w5 w1.heap.size (r6 t ta tc):=o5;have z4':=o4.lt
     try simp(disch:=omega)only[SV]
     refine good (x04.trans x5 λy hy h=>by omega) (by omega) hq o5 (hT2.own o4 o5 (λu x=>by simp) x5) (hqv.ext x5 λb hb h=> ?_);have z3':=o3.lt;omega
theorem aVf(l all:List UInt8)(g:GS)(win:Nat):aGU l all g win=if l.length<3 then .error 10 else if tB l=3 then .error 11 else if min win 131072<oM l then .error 12 else aS5 (l.drop 3) all g win (min win 131072) (tB l) (oM l) (Jc l) (bx l%2==1):=by
 unfold aGU aS5 aC7;rw[a1L,a3V]
theorem aHI{b:ByteArray}(hT:Rb3 w g.t a c)(hw:aM xw=g.w)(hg:YI g)(hb:b.size<=10000)(h1:xa.size<=2000000)(h4:win<18446744073709551616):
 aL pg RE #[.string b,.agg (gR xa xw a c g).toArray,.int .u64 (win:Nat)] w (λr w'=>RBk w' r (aGU (aM b) (aM xa) g win)/\aE w w' aP):=by
 refine aAg ?_;generalize hm:aGU (aM b) (aM xa) g win=m;generalize hRR:(λ(r:a7C) (w':a7B)=>RBk w' r m/\aE w w' aP)=RR;replace hRR:=hRR.symm;have hlb:=aI b;unfold aBg adL adK;generalize hwv:Value.int .u64 (win:Nat)=wv;refine bY λw1 o1 x1 s1=> ?_;have o1:aT w1 w.heap.size (gR xa xw a c g):=o1;generalize hpq:w.heap.size=pq at o1⊢;refine I2 λw2 o2 x2 s2=> ?_;generalize hpt:w1.heap.size=pt at o2⊢;have x02:=x1.seq x2;have z1:=o1.lt;have z2:=o2.lt;have og:=o1.ext x2 λh=>h;rw[aVf]at hm;generalize hbd:min win 131072=bd at hm;have main:F3 RR (.string b) (.int .u64 (win:Nat)) (.pointer (some ⟨pq,0,none⟩)) (.pointer (some ⟨pt,0,none⟩)) (.int .i64 (bd:Nat)) w2:=by
  unfold F3 adJ;refine aEL.mono ?_;rintro r w3 ⟨rfl,x3⟩;have og3:=og.ext x3 λh=>h;have ot3:=o2.ext x3 λh=>h;have x03:=x02.seq x3;have z3:=x3.size;unfold rbX rbV rbA;have e0:cG ((aM b).take 3)=bx (aM b):=rfl;rw[e0];have ek:bx (aM b)/2%4=tB (aM b):=rfl;have es:bx (aM b)/8=oM (aM b):=rfl;rw[ek,es];have bad:∀{w4:a7B} {y:ByteArray} {e:Int},aE w w4 aP->aT w4 pt _->e≠0->m= .error e->bF pg (dL 62 (.pointer (some ⟨pt,0,none⟩)) (.agg (gR xa xw a c g).toArray)) (dr w4) λ_u w=>LdR pg 62 (.pointer (some ⟨pt,0,none⟩)) w λr1=>RR (.tuple #[.string y,r1,.bool false,.int .i64 e]) w:=
   λ{w4 y e} x4 o4 he hm'=>arP (aH o4) (cs:=[(.string ⟨#[]⟩),(.string ⟨#[]⟩),(.int .i64 0),(.slice none 0 0),(.int .i64 0),(.slice none 0 0),(.int .i64 0),(.slice none 0 0),(.int .u32 0),(.int .u32 0),(.int .u32 0)]) rfl λw' x'=>by
    rw[hRR,hm'];exact⟨⟨he,_,_,_,_,_,_,rfl⟩,(x4.seq (aE.dr w4 aP)).trans x' λy hy h=>by omega⟩
  by_cases h3:(aM b).length<3
  .rw [if_pos h3];have n1:((10:Int) !=0)=true:=rfl;simp(disch:=omega)only[SV];refine rE λw4 o4 x4 s4=> ?_;refine iG o4 rfl (by simp[one]) (by simp) λw5 o5 x5 s5=> ?_;have x35:aE w3 w5 aP:=x4.new x5 (a1J _);have lg:=aiU (aH (og3.ext x35 λh=>h));simp(disch:=omega)only[SV,n1,lg];exact bad (x03.seq x35) (ot3.ext x35 λh=>h) (by decide) (by rw[<-hm,if_pos h3])
  rw[if_neg h3];by_cases hk3:tB (aM b)=3
  .rw [if_pos hk3];have n1:((11:Int) !=0)=true:=rfl;simp(disch:=omega)only[SV];refine rE λw4 o4 x4 s4=> ?_;refine iG o4 rfl (by simp[one]) (by simp) λw5 o5 x5 s5=> ?_;have x35:aE w3 w5 aP:=x4.new x5 (a1J _);have lg:=aiU (aH (og3.ext x35 λh=>h));simp(disch:=omega)only[SV,n1,lg];exact bad (x03.seq x35) (ot3.ext x35 λh=>h) (by decide) (by rw[<-hm,if_neg h3,if_pos hk3])
  rw[if_neg hk3];have n0:((0:Int) !=0)=false:=rfl;simp(disch:=omega)only[SV];refine rE λw4 o4 x4 s4=> ?_;obtain⟨px,hpx⟩:∃p,p=w3.heap.size:=⟨_,rfl⟩;rw[<-hpx]at o4⊢;refine iG o4 rfl (by simp[one]) (by simp) λw5 o5 x5 s5=> ?_;have o5:aT w5 px [.bool (bx (aM b)%2==1),.int .i64 (tB (aM b):Nat),.int .i64 (oM (aM b):Nat)]:=o5;have x35:aE w3 w5 aP:=x4.new x5 (by omega);have x05:=x03.seq x35;have og5:=og3.ext x35 λh=>h;have ot5:=ot3.ext x35 λh=>h;have c1:=o5.cell (off:=1);have c2:=o5.cell (off:=2);simp only[a1A,a1B]at c1 c2;have t3:(3:Int).toNat=3:=rfl;have lg:=aiU (aH og5);by_cases hbg:bd<oM (aM b)
  .have d1:decide (((oM (aM b):Nat):Int)>(bd:Int))=true:=decide_eq_true (by omega);have d2:decide ((bd:Int)<((oM (aM b):Nat):Int))=true:=decide_eq_true (by omega);simp(disch:=omega)only[SV,n0,c2,t3,d1,d2,lg];exact bad x05 ot5 (by decide) (by rw[<-hm,if_neg h3,if_neg hk3,if_pos hbg])
  have d1:decide (((oM (aM b):Nat):Int)>(bd:Int))=false:=decide_eq_false (by omega);have d2:decide ((bd:Int)<((oM (aM b):Nat):Int))=false:=decide_eq_false (by omega);have hdr:aM (b.extract 3 b.size)=(aM b).drop 3:=by rw[cX,a1T (by rw[a1L];omega)]
  have hbk:tB (aM b)<4:=a4X _ (by omega);have fin:zX RR (.string (b.extract 3 b.size)) (.int .u64 (win:Nat)) (.pointer (some ⟨pq,0,none⟩)) (.pointer (some ⟨pt,0,none⟩)) (.int .i64 (bd:Nat)) (.pointer (some ⟨px,0,none⟩)) (.int .i64 (Jc (aM b):Nat)) w5:=by
   refine aTL og5 ot5 rfl (by simp) o5 (by omega) (hT.ext x05) hw hg (by rw[oY _ _ _ (a1J _)];omega) h1 (by omega) h4 (by omega) (by omega) rfl rfl λr w' hr x'=> ?_;rw[hRR,<-hm,if_neg h3,if_neg hk3,if_neg hbg,<-hdr];exact⟨hr,x05.trans x' λy hy h=>by omega⟩
  unfold Jc at fin;by_cases hk1:tB (aM b)=1
  .have n1:(((tB (aM b):Nat):Int)==1)=true:=by rw[hk1]<;>rfl
   rw[if_pos hk1]at fin;simp(disch:=omega)only[SV,n0,c1,c2,t3,d1,d2,n1];exact fin
  .have n1:(((tB (aM b):Nat):Int)==1)=false:=beq_eq_false_iff_ne.2 (by omega);rw[if_neg hk1]at fin;simp(disch:=omega)only[SV,n0,c1,c2,t3,d1,d2,n1];exact fin
 by_cases hlt:win<131072
 .have d1:decide ((win:Int)<131072)=true:=decide_eq_true (by omega);have wi:IntKind.i64.wrap (win:Int)=(win:Int):=dM (by omega) (by omega);rw[show bd=win by omega]at main;rw[<-hwv];simp(disch:=omega)only[SV,d1,wi];exact main
 .have d1:decide ((win:Int)<131072)=false:=decide_eq_false (by omega);rw[show((bd:Nat):Int)=131072 by omega]at main;rw[<-hwv];simp(disch:=omega)only[SV,d1];exact main
theorem GAt.other (h:GAt w A gc g)(o:aT w p cs)(h0:0<cs.length)(hc:∀(i:Nat) u,cs[i]?≠some (.int .u8 u))(x:aE w w' (λy=>y=p)):GAt w' A gc g:=by
 obtain⟨wv,a,e,hb,hn,ht,ha⟩:=h;refine⟨wv,a,e,hb.ext x ?_,hn,ht.own o h0 (hc 0) x,ha⟩;intro hi;obtain⟨ad,n,c,rfl,hl,_,hh⟩:=id hb;unfold VH at hi;split at hi
 .rename_i ad' n' _ he;injection he with e1 e2 _;subst e1 e2;obtain⟨b,off,e3,hcell⟩:=hh (by omega);injection e3 with e3;subst e3;have hi:b=p:=hi;subst hi;have h1:=hcell 0 (by omega);rw[a3I,o.cell]at h1;obtain⟨c,hc'⟩:∃c,(g.w.map kH)[0]?=some (kH c):=by
   rw[a2F];rw[a1M]at hl;exact⟨g.w[0]'(by omega),by rw[a1I (by omega)]<;>rfl⟩
  rw[hc']at h1;exact hc off _ h1
 .exact hi
theorem aK9 {need wv bv:Nat}{made:List UInt8}
 (o:aT w p cs) (k0:cs[0]?=some (.pointer (some ⟨pr,0,none⟩))) (k2:cs[2]?=some (.int .i64 (most:Nat))) (k3:cs[3]?=some vo) (hvo:∃a c,vo= .slice a n c) (og:aT w pg6 gc) (hG:GAt w A gc g) (ot:aT w pt9 gZ) (ox:aT w px [.bool L,.int .i64 (k:Nat),.int .i64 (sz:Nat)])
 (hr:Is w lo hi pr l 0) (ha:BR w A 1 va all.length (all.map kH)) (hA:∀b,A b->b≠p/\¬(lo<=b/\b<hi)/\b≠pg6/\b≠pt9/\b≠px) (hAn:∀b,w.heap.size<=b->A b)
 (hne:pg6≠pt9) (hpx:px≠pt9) (q1:¬(lo<=p/\p<hi)) (q2:¬(lo<=pg6/\pg6<hi)) (q3:¬(lo<=pt9/\pt9<hi)) (q4:¬(lo<=px/\px<hi)) (hk01:k=0∨k=1) (hsz:sz<=131072) (hn:n<=2000000) (hl:l.length<=1000000) (hall:all.length<=2000000) (hmost:most<=2000000)
 (hneed:need=if k=1 then 1 else sz) (hmade:made=if k=1 then List.replicate sz (l.headD 0)else l.take sz)
 (hk1:l.length<need->∀w',aE w w' (λy=>y=pt9)->RR (.tuple #[DJ,gZv,.bool false,.int .i64 10]) w')
 (hk2:need<=l.length->most<n+(all.length+made.length)->∀w',aE w w' (λy=>A y∨y=pr∨y=pt9)->RR (.tuple #[DJ,gZv,.bool false,.int .i64 12]) w')
 (hk3:need<=l.length->¬most<n+(all.length+made.length)->∀w' va',BR w' A 1 va' (all++made).length ((all++made).map kH)->Is w' lo hi pr (l.drop need) 0->aE w w' (λy=>A y∨y=pr∨y=pt9)->GAt w' A gc g->RR (.tuple #[va',.agg gc.toArray,.bool L,.int .i64 0]) w'):
 eB RR (.pointer (some ⟨p,0,none⟩)) va (.int .u64 (wv:Nat)) (.pointer (some ⟨pg6,0,none⟩)) (.pointer (some ⟨pt9,0,none⟩)) (.int .i64 (bv:Nat)) (.pointer (some ⟨px,0,none⟩)) (.int .i64 (need:Nat)) w:=by
 have hneed2:need<=131072:=by rw[hneed];split<;>omega
 unfold eB wP;refine(arA o k0 hr hl (by omega)).mono ?_;rintro r w1 (⟨h1,rfl,h2⟩|⟨h1,v,rfl,hb1,hat,hr1,x1⟩)
 .rw [h2];clear h2 w1;have n1:((10:Int) !=0)=true:=rfl;unfold DJ;simp(disch:=omega)only[SV,n1];refine cI ot rfl (by simp[one]) (by simp[gZ]) λw1 o1 x1 s1=> ?_;refine fH o1 (by simp[aF,gZ]) ?_;simp only[aF,gZ,a1E,a1D,a1F,a1C,a1G];exact hk1 h1 w1 x1
 have n1:((0:Int) !=0)=false:=rfl;have hpr:lo<=pr/\pr<hi:=⟨hr.1,hr.2.1⟩;have ox1:=ox.ext x1 (λe=>q4 (e▸hpr));have og1:=og.ext x1 (λe=>q2 (e▸hpr));have ot1:=ot.ext x1 (λe=>q3 (e▸hpr));have o1:=o.ext x1 (λe=>q1 (e▸hpr));have ha1:=ha.ext x1 (λb hb e=>(hA b hb).2.1 (e▸hpr));have z1:=x1.size;have c1:=ox1.cell (off:=1);have c2:=ox1.cell (off:=2);simp only[a1A,a1B]at c1 c2;have fin:∀(m':List UInt8) (v':a7C) (w2:a7B),m'=made->BR w2 A 1 v' (all++m').length ((all++m').map kH)->aE w1 w2 A->kV RR (.pointer (some ⟨p,0,none⟩)) v' (.pointer (some ⟨pg6,0,none⟩)) (.pointer (some ⟨pt9,0,none⟩)) (.pointer (some ⟨px,0,none⟩)) w2:=by
  rintro m' v' w2 rfl o2 x2;have hlen:=o2.len;refine aDh (n:=n) (N:=(all++m').length) (L:=L) (o1.ext x2 λh=>(hA p h).1 rfl) k2 k3 hvo hlen hG.len hG.one (og1.ext x2 λh=>(hA _ h).2.2.1 rfl) (ot1.ext x2 λh=>(hA _ h).2.2.2.1 rfl) hne hpx (ox1.ext x2 λh=>(hA _ h).2.2.2.2 rfl) (by omega) ?_ hmost λw' x=> ?_
  .have:m'.length<=131072:=by
    rw[hmade];split
    .rw [a2C];exact hsz
    .rw [a1N];omega
   rw[a1O];omega
  .rw [a1O];have xx:aE w w' (λy=>A y∨y=pr∨y=pt9):=(((x1.mono λ_ _ h=> .inr (.inl h)).seq (x2.mono λ_ _ h=> .inl h))).seq (x.mono λ_ _ h=> .inr (.inr h));by_cases hm:most<n+(all.length+m'.length)
   .rw [if_pos hm];exact hk2 h1 hm w' xx
   .rw [if_neg hm];have hG1:GAt w1 A gc g:=by
     obtain⟨_,_,v,ho,hb,_⟩:=id hr;obtain⟨va,vc,rfl,_⟩:=hb.len;refine hG.other ho (by simp) (λi u h=> ?_) x1
     match i,h with
     |0,h=>simp at h
     |1,h=>simp at h
     |i+2,h=>simp at h
    have hG2:=hG1.ext x2 λ_ h=>h;have hG3:GAt w' A gc g:=by
     refine hG2.other (ot1.ext x2 λh=>(hA _ h).2.2.2.1 rfl) (by simp[gZ]) (λi u h=> ?_) x;have:=a3E h;simp[gZ,DJ]at this
    exact hk3 h1 hm w' v' (o2.ext x λb hb e=>(hA b hb).2.2.2.1 e) ((hr1.ext x2 λb h1 h2 h3=>(hA b h3).2.1 ⟨h1,h2⟩).ext x λb h1 h2 h3=>q3 (h3▸⟨h1,h2⟩)) xx hG3
 rcases hk01 with rfl|rfl
 .have e0:(((0:Nat):Int)==0)=true:=rfl;simp only[show¬((0:Nat)=1)from by decide,if_false]at hneed hmade;simp(disch:=omega)only[SV,n1,c1,e0];refine apB ha1 hb1 (λb hb=>hAn b (by omega)) (by rw[a1N];omega) λv' w2 o2 x2=> ?_;exact fin _ v' w2 (by rw[hmade,hneed]) o2 x2
 .have e0:(((1:Nat):Int)==0)=false:=rfl;have e1:(((1:Nat):Int)==1)=true:=rfl;simp only[if_true]at hneed hmade;subst hneed;simp(disch:=omega)only[SV,n1,c1,e0,e1,c2];obtain⟨c,t,hct⟩:∃c t,l=c::t:=by
   cases l with
   |nil=>simp at h1
   |cons c t=>exact⟨c,t,rfl⟩
  have e4:l.take 1=[c]:=by rw[hct]<;>rfl
  rw[e4]at hb1;refine(aJ0 hb1 hsz).mono ?_;rintro r w2 ⟨o2,x2⟩;have z2:=x2.size;have hbr:Bs w2 r (List.replicate sz c):=by
   unfold Bs;rw[a5X];exact o2.sl
  refine apB (ha1.ext x2 λ_ _ h=>h) hbr (λb hb=>hAn b (by omega)) (by rw[a2C];omega) λv' w3 o3 x3=> ?_;exact fin _ v' w3 (by rw[hmade,hct]<;>rfl) o3 ((x2.mono λ_ _ h=>h.elim).seq x3)
def aQ9 (A:Nat->Prop)(wv:a7C)(a:Nat->Option Addr):Nat->Prop:=λb=>A b/\¬(VH wv (λy=>y=b)∨∃k ad,k<3/\a k=some ad/\ad.block=b)
theorem aRa:¬VH wv (aQ9 A wv a):=by
 intro h;unfold VH at h;split at h
 .exact h.2 (.inl rfl)
 .exact h
theorem aJs{m b:Nat}(hA:A b)(hw:¬VH wv (λy=>m<=y))(ha:∀k ad,k<3->a k=some ad->ad.block<m)(hb:m<=b):aQ9 A wv a b:=by
 refine⟨hA, ?_⟩;rintro(h|⟨k,ad,hk,h,rfl⟩)
 .exact hw (asE h λy hy=>by rw[hy];exact hb)
 .have:=ha k ad hk h;omega
theorem aNI(h:pkd s all g win bound= .error e):e≠0:=by
 unfold pkd at h;split at h
 .rename_i h1;cases h;exact asJ h1
 .split at h
  .rename_i h1;cases h;exact afU h1
  .split at h
   .rename_i h1;cases h;exact ZN h1
   .cases h
theorem aLa{wv bv:Nat}
 (hGw:∀w1,aE w w1 (λy=>y=pr)->tY w1) (hg:YI g) (o:aT w p cs) (k0:cs[0]?=some (.pointer (some ⟨pr,0,none⟩))) (k2:cs[2]?=some (.int .i64 (most:Nat))) (k3:cs[3]?=some vo) (hvo:∃a c,vo= .slice a n c) (og:aT w pg6 gc) (hG:GAt w A gc g) (ot:aT w pt9 gZ) (ox:aT w px [.bool L,.int .i64 (2:Nat),.int .i64 (sz:Nat)])
 (hr:Is w lo hi pr l 0) (ha:BR w A 1 va all.length (all.map kH)) (hA:∀b,A b->b≠p/\¬(lo<=b/\b<hi)/\b≠pg6/\b≠pt9/\b≠px) (hAn:∀b,w.heap.size<=b->A b)
 (hne:pg6≠pt9) (hpx:px≠pt9) (hpx6:px≠pg6) (hp6:p≠pg6) (q1:¬(lo<=p/\p<hi)) (q2:¬(lo<=pg6/\pg6<hi)) (q3:¬(lo<=pt9/\pt9<hi)) (q4:¬(lo<=px/\px<hi)) (hsz:sz<=131072) (hs2:sz<=l.length->sz<=100000) (hn:n<=2000000) (hl:l.length<=1000000) (hall:all.length<=2000000) (hmost:most<=2000000) (hwv:wv<18446744073709551616) (hbv:bv<=131072)
 (hk1:l.length<sz->∀w',aE w w' (λy=>y=pt9)->RR (.tuple #[DJ,gZv,.bool false,.int .i64 10]) w')
 (hk2:sz<=l.length->∀e,pkd (l.take sz) all g wv bv= .error e->∀w',aE w w' (λy=>y=pg6∨y=pr∨y=pt9)->RR (.tuple #[DJ,gZv,.bool false,.int .i64 e]) w')
 (hk3:sz<=l.length->∀x g',pkd (l.take sz) all g wv bv= .ok (x,g')->most<n+x.length->∀w',aE w w' (λy=>y=pg6∨y=pr∨y=pt9)->RR (.tuple #[DJ,gZv,.bool false,.int .i64 12]) w')
 (hk4:sz<=l.length->∀x g',pkd (l.take sz) all g wv bv= .ok (x,g')->¬most<n+x.length->∀w' va' gc' A',(∀b,A' b->A b)->BR w' A' 1 va' x.length (x.map kH)->GAt w' A' gc' g'->(∀b,w'.heap.size<=b->A' b)->Is w' lo hi pr (l.drop sz) 0→
  aE w w' (λy=>y=pg6∨y=pr∨y=pt9)->RR (.tuple #[va',.agg gc'.toArray,.bool L,.int .i64 0]) w'):
 eB RR (.pointer (some ⟨p,0,none⟩)) va (.int .u64 (wv:Nat)) (.pointer (some ⟨pg6,0,none⟩)) (.pointer (some ⟨pt9,0,none⟩)) (.int .i64 (bv:Nat)) (.pointer (some ⟨px,0,none⟩)) (.int .i64 (sz:Nat)) w:=by
 unfold eB wP;refine(arA o k0 hr hl (by omega)).mono ?_;rintro r w1 (⟨h1,rfl,h2⟩|⟨h1,v,rfl,hb1,hat,hr1,x1⟩)
 .rw [h2];clear h2 w1;have n1:((10:Int) !=0)=true:=rfl;unfold DJ;simp(disch:=omega)only[SV,n1];refine cI ot rfl (by simp[one]) (by simp[gZ]) λw1 o1 x1 s1=> ?_;refine fH o1 (by simp[aF,gZ]) ?_;simp only[aF,gZ,a1E,a1D,a1F,a1C,a1G];exact hk1 h1 w1 x1
 have n1:((0:Int) !=0)=false:=rfl;have hpr:lo<=pr/\pr<hi:=⟨hr.1,hr.2.1⟩;have ox1:=ox.ext x1 (λe=>q4 (e▸hpr));have og1:=og.ext x1 (λe=>q2 (e▸hpr));have ot1:=ot.ext x1 (λe=>q3 (e▸hpr));have o1:=o.ext x1 (λe=>q1 (e▸hpr));have ha1:=ha.ext x1 (λb hb e=>(hA b hb).2.1 (e▸hpr));have z1:=x1.size;have c1:=ox1.cell (off:=1);simp only[a1A,a1B]at c1;have e0:(((2:Nat):Int)==0)=false:=rfl;have e1:(((2:Nat):Int)==1)=false:=rfl;have hG1:GAt w1 A gc g:=by
  obtain⟨_,_,v,ho,hb,_⟩:=id hr;obtain⟨va,vc,rfl,_⟩:=hb.len;refine hG.other ho (by simp) (λi u h=> ?_) x1
  match i,h with
  |0,h=>simp at h
  |1,h=>simp at h
  |i+2,h=>simp at h
 obtain⟨wv1,a1,rfl,hbw,hnw,ht1,ha1'⟩:=id hG1;have lg:(cK 83 (.pointer (some ⟨pg6,0,none⟩))).run pg w1= .ok (.value (.agg (gC wv1 a1 g).toArray)) w1:=Az (off:=0) og1 (by simp[gC]);simp(disch:=omega)only[SV,n1,c1,e0,e1,lg];refine(aOI (hGw w1 x1) hb1 (aHA ha1) hbw ht1 hg (by rw[a1N];omega) hall hbv hwv).mono ?_;rintro r w2 ⟨hP,x2⟩;have z2:=x2.size;have og2:=og1.ext x2 λh=>h;have ot2:=ot1.ext x2 λh=>h;have o2:=o1.ext x2 λh=>h;have ox2:=ox1.ext x2 λh=>h;cases hp:pkd (l.take sz) all g wv bv with
 |error e=>
  rw[hp]at hP;obtain rfl:=hP;have he:(e !=0)=true:=by simpa using aNI hp
  simp(disch:=omega)only[SV,he];refine cI og2 rfl (by simp[one]) (by simp[gC]) λw3 o3 x3 s3=> ?_
  try simp(disch:=omega)only[SV,he]
  refine cI (ot2.ext x3 λh=>hne h.symm) rfl (by simp[one]) (by simp[gZ]) λw4 o4 x4 s4=> ?_;refine fH o4 (by simp[aF,gZ]) ?_;simp only[aF,gZ,a1E,a1D,a1F,a1C,a1G];exact hk2 h1 e hp w4 ((((x1.mono λ_ _ h=> .inr (.inl h)).seq (x2.mono λ_ _ h=>h.elim)).seq (x3.mono λ_ _ h=> .inl h)).seq (x4.mono λ_ _ h=> .inr (.inr h)))
 |ok y=>
  obtain⟨x,g'⟩:=y;rw[hp]at hP;obtain⟨xv,wv',a',m,rfl,hm,hxv,hwv',hnw',ht',hlt⟩:=hP;obtain⟨wa',wc',rfl⟩:=hwv'.len;simp(disch:=omega)only[SV,n1];refine cI og2 (by simp[gC]) (by simp[gC,one]) (by simp[gC]) λw3 o3 x3 s3=> ?_;have o3:aT w3 pg6 (gC (.slice wa' g'.w.length wc') a' g'):=o3
  try simp(disch:=omega)only[SV,n1]
  obtain⟨hg',hx1,hx2⟩:=aLK hg hp;have hr2:=hr1.ext x2 λ_ _ _ h=>h;have hr3:=hr2.ext x3 λb h1 h2 h3=>q2 (h3▸⟨h1,h2⟩);have z3:=x3.size;refine aDh (n:=n) (N:=x.length) (L:=L) (gc:=gC (.slice wa' g'.w.length wc') a' g') (o2.ext x3 hp6) k2 k3 hvo hxv.len rfl (by simp[gC,one]) o3 (ot2.ext x3 λh=>hne h.symm) hne hpx (ox2.ext x3 hpx6) hn (by omega) hmost λw' xx=> ?_;have z':=xx.size;have xall:aE w w' (λy=>y=pg6∨y=pr∨y=pt9):=(((x1.mono λ_ _ h=> .inr (.inl h)).seq (x2.mono λ_ _ h=>h.elim)).seq (x3.mono λ_ _ h=> .inl h)).seq (xx.mono λ_ _ h=> .inr (.inr h));by_cases hm':most<n+x.length
  .rw [if_pos hm'];exact hk3 h1 x g' hp hm' w' xall
  .rw [if_neg hm'];have hx3:=(hxv.ext x3 λb hb h=>by have:=og2.lt;have:=og.lt;omega).ext xx λb hb h=>by have:=ot.lt;omega
   refine hk4 h1 x g' hp hm' w' _ _ (aQ9 A (.slice wa' g'.w.length wc') a') (λb h=>h.1) ?_ ?_ ?_ (hr3.ext xx λb h1 h2 h3=>q3 (h3▸⟨h1,h2⟩)) xall
   .refine ⟨hx3.1,hx3.2.imp id ?_⟩;rintro⟨b,c,rest,e,hb,ob,hc⟩;exact⟨b,c,rest,e,aJs (hAn b (by omega)) hnw' hlt hb,ob,hc⟩
   .have hw3:=(hwv'.ext x3 λb hb h=>by have:=og1.lt;omega).ext xx λb hb h=>by have:=ot1.lt;omega
    refine⟨_,a',rfl,hw3.sl,aRa, ?_,λk ad hk h hA'=>hA'.2 (.inr ⟨k,ad,hk,h,rfl⟩)⟩;obtain⟨wb,wn,wcc,he,_⟩:=id hbw;have t3:=ht'.own og2 (by simp[gC]) (λu h=>by simp[gC,he]at h) x3;exact t3.own (ot2.ext x3 λh=>hne h.symm) (by simp[gZ]) (λu h=>by simp[gZ,DJ]at h) xx
   .intro b hb;exact aJs (m:=w2.heap.size) (hAn b (by omega)) hwv'.sl.old (λk ad hk h=>aSd ht' hk h) (by omega)
def aXt(lo hi pr:Nat)(A:Nat->Prop)(w:a7B)(r:a7C)(w':a7B):Except Int (List UInt8×List UInt8×Bool×GS)->Prop
 | .error e=>r= .tuple #[DJ,gZv,.bool false,.int .i64 e]/\aE w w' (λy=>A y∨y=pr)
 | .ok (a,l,b,g)=>∃v gc A',r= .tuple #[v,.agg gc.toArray,.bool b,.int .i64 0]/\(∀b,A' b->A b)/\BR w' A' 1 v a.length (a.map kH)/\GAt w' A' gc g/\(∀b,w'.heap.size<=b->A' b)/\Is w' lo hi pr l 0/\aE w w' (λy=>A y∨y=pr)
theorem GAt.sub {B:Nat->Prop}(h:GAt w A gc g)(hB:∀b,B b->A b):GAt w B gc g:=by
 obtain⟨wv,a,e,hb,hn,ht,ha⟩:=h;exact⟨wv,a,e,hb,λhi=>hn (asE hi hB),ht,λk ad hk h hb=>ha k ad hk h (hB _ hb)⟩
theorem aQt{m:Except Int (List UInt8×List UInt8×Bool×GS)}
 (o:aT w p cs) (k0:cs[0]?=some (.pointer (some ⟨pr,0,none⟩))) (k2:cs[2]?=some (.int .i64 (most:Nat))) (k3:cs[3]?=some vo) (hvo:∃a c,vo= .slice a n c)
 (hr:Is w lo hi pr l 0) (ha:BR w A 1 va all.length (all.map kH)) (hA:∀b,A b->b≠p/\¬(lo<=b/\b<hi)) (hAn:∀b,w.heap.size<=b->A b) (hhi:hi<=w.heap.size)
 (q1:¬(lo<=p/\p<hi)) (hn:n<=most) (hl:l.length<=1000000) (hall:all.length<=2000000) (hmost:most<=2000000)
 (hGw:∀w1,aE w w1 (λy=>y=pr)->tY w1) (hg:YI g) (hG:GAt w A gc g) (hwin:win<18446744073709551616) (hs2:oM l<=l.length-3->oM l<=100000)
 (hm:aC6 l all g win (most-n)=m):
 aL pg yQ #[.pointer (some ⟨p,0,none⟩),va,.agg gc.toArray,.int .u64 (win:Nat)] w (λr w'=>aXt lo hi pr A w r w' m):=by
 refine TI ?_;obtain⟨RR,hRR⟩:∃RR:a7C->a7B->Prop,RR=λr w'=>aXt lo hi pr A w r w' m:=⟨_,rfl⟩;rw[<-hRR];unfold Nq G6 G5;refine bY λw1 o1 x1 s1=> ?_;have o1:aT w1 w.heap.size gc:=o1;obtain⟨p6,hp6⟩:∃p,p=w.heap.size:=⟨_,rfl⟩;rw[<-hp6]at o1⊢;refine JW λw2 o2 x2 s2=> ?_;have o2:aT w2 w1.heap.size gZ:=o2;obtain⟨p9,hp9⟩:∃p,p=w1.heap.size:=⟨_,rfl⟩;rw[<-hp9]at o2⊢;have z1:=o1.lt;have z2:=o2.lt;have x12:=x1.seq x2;have og2:=o1.ext x2 (λh=>h);have hmn:(if(131072:Int)<(win:Int)then(131072:Int)else(win:Int))=((min win 131072:Nat):Int):=by
  split<;>omega
 have hw:IntKind.i64.wrap ((min win 131072:Nat):Int)=((min win 131072:Nat):Int):=dM (by omega) (by omega);simp(disch:=omega)only[SV,hmn,hw];refine(arA (n:=3) (o.ext x12 (λh=>h)) k0 (hr.ext x12 (λ_ _ _ h=>h)) hl (by omega)).mono ?_;unfold aC6 at hm;rintro r w3 (⟨h1,rfl,h2⟩|⟨h1,v,rfl,hb1,hat,hr1,x3⟩)
 .rw [h2];clear h2 w3;rw[if_pos h1]at hm;cases hm;have n1:((10:Int) !=0)=true:=rfl;unfold DJ;simp(disch:=omega)only[SV,n1];refine cI o2 rfl (by simp[one]) (by simp[gZ]) λw3 o3 x3 s3=> ?_;refine fH o3 (by simp[aF,gZ]) ?_;simp only[aF,gZ,a1E,a1D,a1F,a1C,a1G];rw[hRR];exact⟨rfl,(x12.mono λ_ _ h=>h.elim).trans x3 λy hy h=>by omega⟩
 rw[if_neg (by omega)]at hm;have n0:((0:Int) !=0)=false:=rfl;have hpr:lo<=pr/\pr<hi:=⟨hr.1,hr.2.1⟩;have og3:=og2.ext x3 (by intro h;omega);have ot3:=o2.ext x3 (by intro h;omega);have o3:=(o.ext x12 (λh=>h)).ext x3 (λe=>q1 (e▸hpr));have ha3:=(ha.ext x12 (λ_ _ h=>h)).ext x3 (λb hb e=>(hA b hb).2 (e▸hpr));simp(disch:=omega)only[SV,n0];refine(aJM hb1 (by rw[a1N];omega)).mono ?_;rintro r w4 ⟨rfl,x4⟩;have e0:cG (l.take 3)=bx l:=rfl;unfold rbV;rw[e0];have ek:bx l/2%4=tB l:=rfl;rw[ek];have og4:=og3.ext x4 (λh=>h);have ot4:=ot3.ext x4 (λh=>h);have zz3:=x3.size;have zz4:=x4.size;by_cases h3:tB l=3
 .rw [if_pos h3];rw[if_pos h3]at hm;cases hm;have n1:((11:Int) !=0)=true:=rfl;simp(disch:=omega)only[SV,n1];refine MN λw5 o5 x5 s5=> ?_;refine CB o5 rfl (by simp[one]) (by simp) λw6 o6 x6 s6=> ?_;have x46:aE w4 w6 aP:=x5.new x6 (by omega);have ot6:=ot4.ext x46 (λh=>h)
  try simp(disch:=omega)only[SV,n1]
  refine cI ot6 rfl (by simp[one]) (by simp[gZ]) λw7 o7 x7 s7=> ?_;refine fH o7 (by simp[aF,gZ]) ?_;simp only[aF,gZ,a1E,a1D,a1F,a1C,a1G];rw[hRR];exact⟨rfl,((x12.mono λ_ _ h=>h.elim).seq ((x3.mono λ_ _ h=> .inr h).seq ((x4.seq x46).mono λ_ _ h=>h.elim))).trans x7 λy hy h=>by omega⟩
 rw[if_neg h3];rw[if_neg h3]at hm;unfold rbA;rw[ek];have es:bx l/8=oM l:=rfl;rw[es];simp(disch:=omega)only[SV,n0];refine MN λw5 o5 x5 s5=> ?_;obtain⟨px,hpx⟩:∃p,p=w4.heap.size:=⟨_,rfl⟩;rw[<-hpx]at o5⊢;refine CB o5 rfl (by simp[one]) (by simp) λw6 o6 x6 s6=> ?_;simp only[aF,a1E,a1D]at o6;have x46:aE w4 w6 aP:=x5.new x6 (by omega);have c1:=o6.cell (off:=1);have c2:=o6.cell (off:=2);simp only[a1A,a1B]at c1 c2;have og6:=og4.ext x46 (λh=>h);have ot6:=ot4.ext x46 (λh=>h);have z5:=o5.lt;by_cases hb:min win 131072<oM l
 .rw [if_pos hb]at hm;cases hm;have d1:decide (((oM l:Nat):Int)>((min win 131072:Nat):Int))=true:=decide_eq_true (by omega);have d2:decide (((min win 131072:Nat):Int)<((oM l:Nat):Int))=true:=decide_eq_true (by omega);simp(disch:=omega)only[SV,n0,c1,c2,d1,d2];refine cI ot6 rfl (by simp[one]) (by simp[gZ]) λw7 o7 x7 s7=> ?_;refine fH o7 (by simp[aF,gZ]) ?_;simp only[aF,gZ,a1E,a1D,a1F,a1C,a1G];rw[hRR];exact⟨rfl,((x12.mono λ_ _ h=>h.elim).seq ((x3.mono λ_ _ h=> .inr h).seq ((x4.seq x46).mono λ_ _ h=>h.elim))).trans x7 λy hy h=>by omega⟩
 rw[if_neg hb]at hm;have d1:decide (((oM l:Nat):Int)>((min win 131072:Nat):Int))=false:=decide_eq_false (by omega);have d2:decide (((min win 131072:Nat):Int)<((oM l:Nat):Int))=false:=decide_eq_false (by omega);have x02:aE w w2 aP:=x12;have x06:aE w w6 (λy=>y=pr):=((x02.mono λ_ _ h=>h.elim).seq x3).seq ((x4.seq x46).mono λ_ _ h=>h.elim);have ha':BR w (λb=>A b/\b≠p6/\b≠p9/\b≠px) 1 va all.length (all.map kH):=OA ha λb hb h1=>by
  have:=x1.size;have:=x2.size;exact⟨hb,by omega,by omega,by omega⟩
 have ha6:=ha'.ext x06 λb hb e=>(hA b hb.1).2 (e▸hpr);have hr6:=(hr1.ext x4 λ_ _ _ h=>h).ext x46 λ_ _ _ h=>h;have o6':=(o3.ext x4 λh=>h).ext x46 λh=>h;have e8:(l.drop 3).headD 0=(l.drop 3).headD 0:=rfl;have hld:(l.drop 3).length=l.length-3:=a1L;have hG6:GAt w6 (λb=>A b/\b≠p6/\b≠p9/\b≠px) gc g:=by
  have g2:=(hG.sub (B:=λb=>A b/\b≠p6/\b≠p9/\b≠px) λb hb=>hb.1).ext x12 λ_ h=>h.elim;have g3:GAt w3 (λb=>A b/\b≠p6/\b≠p9/\b≠px) gc g:=by
   obtain⟨_,_,v,ho,hb,_⟩:=id hr;obtain⟨va,vc,rfl,_⟩:=hb.len;refine g2.other (ho.ext x12 λh=>h) (by simp) (λi u h=> ?_) x3
   match i,h with
   |0,h=>simp at h
   |1,h=>simp at h
   |i+2,h=>simp at h
  exact(g3.ext x4 λ_ h=>h.elim).ext x46 λ_ h=>h.elim
 have hSub:∀b,(A b/\b≠p6/\b≠p9/\b≠px)->b≠p/\¬(lo<=b/\b<hi)/\b≠p6/\b≠p9/\b≠px:=λb hb=>⟨(hA b hb.1).1,(hA b hb.1).2,hb.2.1,hb.2.2.1,hb.2.2.2⟩;have hNew:∀b,w6.heap.size<=b->A b/\b≠p6/\b≠p9/\b≠px:=λb hb=>⟨hAn b (by omega),by omega,by omega,by omega⟩;have hz0:=o.lt;by_cases hk2c:tB l=2
 .have e1:Jc l=oM l:=by unfold Jc;rw[if_neg (by omega)]
  have e2:(((tB l:Nat):Int)==1)=false:=by rw[hk2c]<;>rfl
  simp only[if_pos hk2c,e1]at hm;have o6k:aT w6 px [.bool (bx l%2==1),.int .i64 ((2:Nat):Int),.int .i64 (oM l:Nat)]:=by have:=o6;rwa [hk2c]at this
  have xE:∀{w'},aE w6 w' (λy=>y=p6∨y=pr∨y=p9)->aE w w' (λy=>A y∨y=pr):=λx=>(x06.mono λ_ _ h=> .inr h).trans x λy hy h=>by
   rcases h with h|h|h
   .omega
   .exact .inr h
   .omega
  have main:eB RR (.pointer (some ⟨p,0,none⟩)) va (.int .u64 (win:Nat)) (.pointer (some ⟨p6,0,none⟩)) (.pointer (some ⟨p9,0,none⟩)) (.int .i64 (min win 131072:Nat)) (.pointer (some ⟨px,0,none⟩)) (.int .i64 (oM l:Nat)) w6:=by
   refine aLa (n:=n) (most:=most) (λw1 x=>hGw w1 (x06.seq x)) hg o6' k0 k2 k3 hvo og6 hG6 ot6 o6k hr6 ha6 hSub hNew (by omega) (by omega) (by omega) (by omega) q1 (by omega) (by omega) (by omega) (by omega) (λh=>hs2 (by omega)) (by omega) (by omega) hall hmost hwin (by omega) ?_ ?_ ?_ ?_
   .intro h w' x;rw[if_pos (by omega)]at hm;subst hm;rw[hRR];exact⟨rfl,xE (x.mono λ_ _ h=> .inr (.inr h))⟩
   .intro h e he w' x;rw[if_neg (by omega),he]at hm;subst hm;rw[hRR];exact⟨rfl,xE x⟩
   .intro h a g' he hm2 w' x;rw[if_neg (by omega),he]at hm;simp only at hm;rw[if_pos (by omega)]at hm;subst hm;rw[hRR];exact⟨rfl,xE x⟩
   .intro h a g' he hm2 w' va' gc' A' hA' h3 hG' hN' h4 x;rw[if_neg (by omega),he]at hm;simp only at hm;rw[if_neg (by omega)]at hm;subst hm;rw[hRR];rw[a3V]at h4;exact⟨va',gc',A',rfl,λb hb=>(hA' b hb).1,h3,hG',hN',h4,xE x⟩
  simp(disch:=omega)only[SV,n0,c1,c2,d1,d2,e2];exact main
 have hk01:tB l=0∨tB l=1:=by
  have:tB l<4:=a4X _ (by omega);omega
 simp only[if_neg hk2c]at hm;have main:eB RR (.pointer (some ⟨p,0,none⟩)) va (.int .u64 (win:Nat)) (.pointer (some ⟨p6,0,none⟩)) (.pointer (some ⟨p9,0,none⟩)) (.int .i64 (min win 131072:Nat)) (.pointer (some ⟨px,0,none⟩)) (.int .i64 (Jc l:Nat)) w6:=by
  refine aK9 (made:=aC7 l) (L:=bx l%2==1) (A:=λb=>A b/\b≠p6/\b≠p9/\b≠px) o6' k0 k2 k3 hvo og6 hG6 ot6 o6 hr6 ha6 hSub hNew (by omega) (by omega) q1 (by omega) (by omega) (by omega) hk01 (by omega) (by omega) (by omega) hall hmost rfl rfl ?_ ?_ ?_
  .intro h w' x;rw[if_pos (by omega)]at hm;cases hm;rw[hRR];exact⟨rfl,(x06.mono λ_ _ h=> .inr h).trans x λy hy h=>by omega⟩
  .intro h h2 w' h5;rw[if_neg (by omega),if_pos (by omega)]at hm;cases hm;rw[hRR];refine⟨rfl,(x06.mono λ_ _ h=> .inr h).trans h5 λy hy h=> ?_⟩;rcases h with h|h|h
   .exact .inl h.1
   .exact .inr h
   .omega
  .intro h h2 w' va' h3 h4 h5 hG';have z5:=h5.size;rw[if_neg (by omega),if_neg (by omega)]at hm;cases hm;rw[hRR];rw[a3V]at h4;refine⟨va',gc,_,rfl,λb hb=>hb.1,h3,hG',λb hb=>hNew b (by omega),h4,(x06.mono λ_ _ h=> .inr h).trans h5 λy hy h=> ?_⟩;rcases h with h|h|h
   .exact .inl h.1
   .exact .inr h
   .omega
 rcases hk01 with h|h
 .have e1:Jc l=oM l:=by unfold Jc;rw[if_neg (by omega)]
  have e2:(((tB l:Nat):Int)==1)=false:=by rw[h]<;>rfl
  rw[e1]at main;simp(disch:=omega)only[SV,n0,c1,c2,d1,d2,e2];exact main
 .have e1:Jc l=1:=by unfold Jc;rw[if_pos (by omega)]
  have e2:(((tB l:Nat):Int)==1)=true:=by rw[h]<;>rfl
  rw[e1]at main;simp(disch:=omega)only[SV,n0,c1,c2,d1,d2,e2];exact main
end Go.Proofs.YthohephggmkeeaaGreatDoor
namespace Go.Proofs.YthohephggmkeeaaGreatDoor
open Go Go.En
set_option maxRecDepth 4000
def SM(x:Int)(k:Nat):Int:=orI .u64 (IntKind.u64.wrap (x*2^k)) (x.fdiv (2^(64-k)))
def aJ5 (v x:Int):Int:=IntKind.u64.wrap (SM (IntKind.u64.wrap (v+IntKind.u64.wrap (x*14029467366897019727))) 31*11400714785074694791)
theorem aXs:∀k:Fin 64,yK .u64 (k.val:Int) 63=(k.val:Int):=by decide
theorem aUT:∀k:Fin 64,IntKind.u64.wrap (64-(k.val:Int))=64-(k.val:Int):=by decide
theorem axB(x:Int)(k:Nat)(hk:k<64)(w:a7B):
 aL pg sB #[.int .u64 x,.int .i64 (k:Int)] w (λv w'=>v= .int .u64 (SM x k)/\w'=w):=by
 refine L8 ?_;have h1:=aXs ⟨k,hk⟩;have h2:=aUT ⟨k,hk⟩;simp only at h1 h2;have e1:min k IntKind.u64.bits=k:=by simp only[IntKind.bits];omega
 have e2:min (64-(k:Int)).toNat IntKind.u64.bits=64-k:=by simp only[IntKind.bits];omega
 simp(disch:=omega)only[Ft,A4,SV,h1,h2,e1,e2,SM]
theorem JI(x:Int)(k:Nat)(hk:k<64)(w:a7B):
 aL pg U3 #[.int .u64 x,.int .u64 (k:Int)] w (λv w'=>v= .int .u64 (SM x k)/\w'=w):=by
 refine aBU ?_;have h2:=aUT ⟨k,hk⟩;simp only at h2;have e1:min k IntKind.u64.bits=k:=by simp only[IntKind.bits];omega
 have e2:min (64-(k:Int)).toNat IntKind.u64.bits=64-k:=by simp only[IntKind.bits];omega
 simp(disch:=omega)only[aEh,ajM,SV,h2,e1,e2,SM]
theorem aAB(v x:Int)(w:a7B):
 aL pg Zk #[.int .u64 v,.int .u64 x] w (λr w'=>r= .int .u64 (aJ5 v x)/\w'=w):=by
 refine aE9 ?_;simp(disch:=omega)only[aGK,axA,SV];refine(axB _ 31 (by omega) w).mono ?_;rintro r w' ⟨rfl,rfl⟩;simp(disch:=omega)only[SV,aJ5]
theorem apX(v x:Int)(w:a7B):
 aL pg Rt #[.int .u64 v,.int .u64 x] w (λr w'=>r= .int .u64 (aJ5 v x)/\w'=w):=by
 refine azC ?_;simp(disch:=omega)only[aA5,abD,SV];refine(JI _ 31 (by omega) w).mono ?_;rintro r w' ⟨rfl,rfl⟩;simp(disch:=omega)only[SV,aJ5]
def zQ:List UInt8->Int
 |[]=>0
 |c::l=>(c.toNat:Int)+256*zQ l
theorem asY:∀l,0<=zQ l
 |[]=>by simp[zQ]
 |c::l=>by have:=asY l;simp only[zQ];omega
theorem aLF(l:List UInt8)(c:UInt8):zQ (l++[c])=zQ l+(c.toNat:Int)*256^l.length:=by
 induction l with
 |nil=>simp[zQ]
 |cons a l ih=>simp only[a4P,zQ,ih,a1U,Int.pow_succ,Int.mul_add];rw[Int.mul_comm (256:Int) (_*_),Int.mul_assoc];omega
theorem aJz:∀l:List UInt8,zQ l<256^l.length
 |[]=>by simp[zQ]
 |c::l=>by
  have:=aJz l;have hc:c.toNat<256:=c.toNat_lt;simp only[zQ,a1U,Int.pow_succ];omega
theorem aCs{α:Type}{l:List α}{k:Nat}(h:k<l.length):l.take (k+1)=l.take k++[l[k]]:=by
 rw[List.take_succ_eq_append_getElem h]
theorem aRu{x:Int}{c k:Nat}(hk:k<8)(hx0:0<=x)(hx:x<256^k)(hc:c<256):
 orI .u64 x (IntKind.u64.wrap ((c:Int)*2^(8*k)))=x+(c:Int)*256^k:=by
 obtain⟨m,rfl⟩:=Int.eq_ofNat_of_zero_le hx0;have e256:(256:Nat)^k=2^(8*k):=by rw[show(256:Nat)=2^8 from rfl,<-Nat.pow_mul]
 have hm:m<2^(8*k):=by rw[<-e256];exact_mod_cast hx
 have hle:c*2^(8*k)+2^(8*k)<=2^64:=by
  have h1:(c+1)*2^(8*k)<=256*2^(8*k):=a2V _ (by omega);have h2:(256:Nat)*2^(8*k)=2^(8*k+8):=by rw[a4A,a2N]
  have h3:(2:Nat)^(8*k+8)<=2^64:=a1K (by omega) (by omega);rw[a3D]at h1;omega
 have hpos:0<2^(8*k):=Nat.pow_pos (by omega);have w:IntKind.u64.wrap ((c:Int)*2^(8*k))=((c*2^(8*k):Nat):Int):=by
  have:((c:Int)*2^(8*k))=((c*2^(8*k):Nat):Int):=by push_cast;rfl
  rw[this];exact eL (by omega) (by omega)
 rw[w];have b1:(BitVec.ofInt 64 (m:Int)|||BitVec.ofInt 64 ((c*2^(8*k):Nat):Int)).toNat=m+c*2^(8*k):=by
  rw[BitVec.toNat_or];simp only[BitVec.toNat_ofInt];have e1:(((m:Int)%((2^64:Nat):Int)).toNat)=m:=by omega
  have e2:((((c*2^(8*k):Nat):Int)%((2^64:Nat):Int)).toNat)=c*2^(8*k):=by omega
  rw[e1,e2,Nat.or_comm,a2N c,<-Nat.two_pow_add_eq_or_of_lt hm];omega
 show IntKind.u64.wrap ((BitVec.ofInt 64 (m:Int)|||BitVec.ofInt 64 ((c*2^(8*k):Nat):Int)).toNat:Int)=_;rw[b1];have:((m+c*2^(8*k):Nat):Int)=(m:Int)+(c:Int)*256^k:=by
  rw[<-e256];push_cast;rfl
 rw[<-this];exact eL (by omega) (by omega)
theorem apW(v:a7C)(l:List UInt8)(w:a7B)(h:Bs w v l)(hl:l.length<=8):
 aL pg Vi #[v] w (λr w'=>r= .int .u64 (zQ l)/\w'=w):=by
 obtain⟨a,n,c,rfl,hn,hc,hcell⟩:=h;rw[a1M]at hn;subst hn;refine aCr ?_;simp(disch:=omega)only[aE8,I0,I1,alW,Tb,Tc,alX,alY,SV];refine aN.rule (λn t w'=>∃k:Nat,n=l.length-k/\k<=l.length/\t=(.int .u64 (zQ (l.take k)),.int .i64 (k:Int))/\w'=w) l.length ⟨0,rfl,a4G _,rfl,rfl⟩ ?_;rintro n t w' ⟨k,rfl,hk,rfl,rfl⟩;by_cases hlt:k<l.length
 .obtain ⟨b,off,rfl,hcell'⟩:=hcell (by omega);have hcl:=hcell' k hlt;rw[a2F,a1I hlt,a2Q]at hcl;have hb:(l[k].toNat)<256:=l[k].toNat_lt;have hd:decide ((k:Int)<(l.length:Int))=true:=by simpa using hlt
  have e1:min (8*(k:Int)).toNat IntKind.u64.bits=8*k:=by simp only[IntKind.bits];omega
  simp(disch:=omega)only[Ta,SV,hd,aCE,hcl,kH,e1];have hlen:(l.take k).length=k:=by simp;omega
  have hx:=aJz (l.take k);rw[hlen]at hx;refine⟨l.length-(k+1),by omega,k+1,rfl,by omega, ?_⟩;rw[aRu (by omega) (asY _) hx hb,aCs hlt,aLF,hlen];rfl
 .have hd:decide ((k:Int)<(l.length:Int))=false:=by simpa using hlt
  simp(disch:=omega)only[Ta,SV,hd,axE];rw[a1T (by omega)]
  try(unfold I0;exact⟨rfl,rfl⟩)
end Go.Proofs.YthohephggmkeeaaGreatDoor
namespace Go.Proofs.YthohephggmkeeaaGreatDoor
open Go Go.En Go.Pu
set_option maxRecDepth 4000
theorem aND:∀l:List UInt8,((cG l:Nat):Int)=zQ l
 |[]=>rfl
 |c::l=>by rw[cG,zQ,<-aND l];omega
theorem aSv(s:ByteArray)(n:Nat)(h1:1<=n)(h8:n<=8)(hn:n<=s.size)(w:a7B):
 aL pg pL #[.agg #[.string s,.int .i64 0],.int .i64 (n:Int)] w
  (λv w'=>v= .tuple #[.agg #[.string (s.extract n s.size),.int .i64 0],.int .u64 (zQ ((aM s).take n))]/\aE w w' aP):=by
 refine(jQ (x:=s) (e:=0) ⟨h1,h8⟩).mono ?_;rintro r w1 ⟨x',rfl,hx,x1⟩;have hl:=aI s;have ht:gH (aM s) 0 n=((aM s).take n,(aM s).drop n,0):=by unfold gH;rw[if_neg (by decide),if_neg (by omega)]
 rw[ht]at hx⊢;have hx2:x'=s.extract n s.size:=Fs (by
  rw[hx,cX];exact(a1T (by rw[a1L];omega)).symm)
 rw[hx2,aND];exact⟨rfl,x1⟩
theorem aMt(s:ByteArray)(i n:Nat)(h1:1<=n)(h8:n<=8)(hn:i+n<=s.size)(w:a7B):
 aL pg amB #[.string s,.int .i64 (i:Int),.int .i64 (n:Int)] w (λv w'=>v= .int .u64 (zQ (((aM s).drop i).take n))/\aE w w' aP):=by
 refine aFu ?_;simp(disch:=omega)only[aJP,aA4,SV];have hsz:(s.extract i s.size).size=s.size-i:=oY _ _ _ (a1J _);refine(aSv _ n h1 h8 (by omega) w).mono ?_;rintro v w1 ⟨rfl,x1⟩;simp(disch:=omega)only[SV];refine bD λw2 o2 x2 s2=> ?_;refine aS o2 rfl (by simp[one]) (by decide) λw3 o3 x3 s3=> ?_;refine⟨?_,(x1.seq x2).new x3 x1.size⟩;rw[cX];congr 2;rw[a5R];congr 1;omega
end Go.Proofs.YthohephggmkeeaaGreatDoor
namespace Go.Proofs.YthohephggmkeeaaGreatDoor
open Go Go.En
set_option maxRecDepth 4000
variable{all n:Nat}{kept:List UInt8}{vs:List Int}
def aUn:List Int:=[IntKind.u64.wrap (11400714785074694791+14029467366897019727),14029467366897019727,0,IntKind.u64.wrap (0-11400714785074694791)]
def UF(vs:List Int)(s:List UInt8)(i:Nat):List Int:=vs.mapIdx λj v=>if j<i then aJ5 v (zQ ((s.drop (8*j)).take 8))else v
def Tg:Nat->List UInt8->List Int
 |0,_=>aUn
 |k+1,L=>UF (Tg k L) ((L.drop (32*k)).take 32) 4
theorem rV(vs:List Int)(s:List UInt8)(i:Nat):(UF vs s i).length=vs.length:=by simp[UF]
theorem rD:∀k L,(Tg k L).length=4
 |0,_=>rfl
 |k+1,L=>by rw[Tg,rV,rD k L]
theorem aGG(vs:List Int)(s:List UInt8):UF vs s 0=vs:=by
 apply a3Y
 .simp [UF]
 .intro i h1 h2;simp[UF]
theorem aKB(vs:List Int)(s:List UInt8)(i:Nat)(h:i<vs.length):(UF vs s i)[i]?=some vs[i]:=by
 rw[a1I (by rw[rV];exact h)];simp[UF]
theorem aKC(vs:List Int)(s:List UInt8)(i:Nat)(h:i<vs.length):(UF vs s i).set i (aJ5 vs[i] (zQ ((s.drop (8*i)).take 8)))=UF vs s (i+1):=by
 apply a3Y
 .simp [UF]
 .intro j h1 h2;rw[a6R];simp only[UF,List.getElem_mapIdx];by_cases hij:i=j
  .subst hij;simp
  .simp only[hij,if_false];by_cases hj:j<i
   .rw [if_pos hj,if_pos (by omega)]
   .rw [if_neg hj,if_neg (by omega)]
theorem aAH:∀k (L M:List UInt8),32*k<=L.length->Tg k (L++M)=Tg k L
 |0,_,_,_=>rfl
 |k+1,L,M,h=>by
  rw[Tg,Tg,aAH k L M (by omega)];congr 1;rw[a5D (by omega),a5E (by rw[a1L];omega)]
def cF(vs:List Int)(kept:List UInt8)(n all:Nat):List a7C:=vs.map (Value.int .u64)++(kept.map kH++[.int .i64 (n:Int),.int .u64 (all:Int)])
theorem pF(h1:vs.length=4)(h2:kept.length=32):(cF vs kept n all).length=38:=by
 simp[cF,h1,h2]
theorem aAT(i:Nat)(h:i<vs.length):(cF vs kept n all)[i]?=some (.int .u64 vs[i]):=by
 unfold cF;rw[a1V (by simpa using h)];simp[h]
theorem Z4 (h1:vs.length=4)(i:Nat)(h:i<kept.length):(cF vs kept n all)[4+i]?=some (kH kept[i]):=by
 unfold cF;rw[a3G (by simp[h1]),a1M,h1,a5V,a1V (by simpa using h)];simp[h]
theorem QJ(h1:vs.length=4)(h2:kept.length=32):(cF vs kept n all)[36]?=some (.int .i64 (n:Int)):=by
 unfold cF;rw[a3G (by simp[h1]),a1M,h1,a3G (by simp[h2]),a1M,h2]<;>rfl
theorem IB(h1:vs.length=4)(h2:kept.length=32):(cF vs kept n all)[37]?=some (.int .u64 (all:Int)):=by
 unfold cF;rw[a3G (by simp[h1]),a1M,h1,a3G (by simp[h2]),a1M,h2]<;>rfl
theorem aBH(i:Nat)(x:Int)(h:i<vs.length):(cF vs kept n all).set i (.int .u64 x)=cF (vs.set i x) kept n all:=by
 unfold cF;rw[a4S _ _ (by simpa using h),a6E]
theorem W3 (h1:vs.length=4)(h2:kept.length=32)(m:Nat):(cF vs kept n all).set 36 (.int .i64 (m:Int))=cF vs kept m all:=by
 unfold cF;rw[a3H _ _ (by simp[h1]),a1M,h1,a3H _ _ (by simp[h2]),a1M,h2]<;>rfl
theorem arU(h1:vs.length=4)(h2:kept.length=32)(m:Nat):(cF vs kept n all).set 37 (.int .u64 (m:Int))=cF vs kept n m:=by
 unfold cF;rw[a3H _ _ (by simp[h1]),a1M,h1,a3H _ _ (by simp[h2]),a1M,h2]<;>rfl
def Wu(l:List UInt8)(o:Nat)(x:List UInt8):List UInt8:=l.take o++x++l.drop (o+x.length)
theorem aFC{l:List UInt8}{o:Nat}{x:List UInt8}(h:o+x.length<=l.length):(Wu l o x).length=l.length:=by
 simp[Wu];omega
theorem aOH{l:List UInt8}{o:Nat}{c:UInt8}{x:List UInt8}(h:o+(x.length+1)<=l.length):Wu (l.set o c) (o+1) x=Wu l o (c::x):=by
 unfold Wu;rw[List.take_set,List.drop_set_of_lt (by omega)];have e:(l.take (o+1)).set o c=l.take o++[c]:=by
  rw[List.take_succ_eq_append_getElem (by omega),a3H _ _ (by simp;omega)];simp only[a1N];rw[show o-min o l.length=0 from by omega]<;>rfl
 rw[e];simp only[a2R,List.singleton_append,a1U,a4P,a4F];rw[show o+1+x.length=o+(x.length+1)from by omega]
theorem aDw(h1:vs.length=4):∀(x kept:List UInt8) (o:Nat),o+x.length<=kept.length→
 aF (cF vs kept n all) (4+o) (x.map kH)=cF vs (Wu kept o x) n all:=by
 intro x
 induction x with
 |nil=>intro kept o _;simp[aF,Wu]
 |cons c x ih=>
  intro kept o h;rw[a1U]at h;have e:(cF vs kept n all).set (4+o) (kH c)=cF vs (kept.set o c) n all:=by
   unfold cF;rw[a3H _ _ (by simp[h1]),a1M,h1,a5V,a4S _ _ (by simp;omega),a6E]
  rw[a4D,aF,e,a4E,ih _ _ (by simp;omega),aOH (by omega)]
def aMz(w:a7B)(b:Nat)(L:List UInt8)(all:Nat):Prop:=
 ∃kept,kept.length=32/\kept.take (L.length%32)=L.drop (32*(L.length/32))/\aT w b (cF (Tg (L.length/32) L) kept (L.length%32) all)
abbrev axG(w:a7B)(b:Nat)(L:List UInt8):Prop:=aMz w b L L.length
theorem aT3 (w:a7B):aL pg afH #[] w (λv w'=>v= .pointer (some ⟨w.heap.size,0,none⟩)/\axG w' w.heap.size []/\aE w w' aP):=by
 refine aH5 ?_;simp(disch:=omega)only[aN2,aE7,SV];refine bY λw1 o1 x1 s1=>⟨rfl,⟨List.replicate 32 0,rfl,rfl, ?_⟩,x1⟩;exact o1
theorem UO{w:a7B}{b:Nat}{cs:List a7C}(h:aT w b cs):aT (dr w) b cs:=h.ext (aE.dr w aP) (λh=>h)
theorem aH3 (w0:a7B)(b:Nat)(vs:List Int)(kept:List UInt8)(all:Nat)(h1:vs.length=4)(h2:kept.length=32)(v:a7C)(R:a7C->a7C->a7B->Prop)
 (hR:∀w',aT w' b (cF (UF vs kept 4) kept 32 all)->aE w0 w' (λx=>x=b)->R (.pointer (some ⟨b,0,none⟩)) v w') (w:a7B) (ho:aT w b (cF vs kept 32 all)) (hx:aE w0 w (λx=>x=b)):
 yH R (.pointer (some ⟨b,0,none⟩)) v w:=by
 simp(disch:=omega)only[yH,Rn,rX,rX];refine aN.rule (λn t w'=>∃i:Nat,i<=4/\n=4-i/\t= .int .i64 (i:Int)/\aT w' b (cF (UF vs kept i) kept 32 all)/\aE w0 w' (λx=>x=b)) 4
  ⟨0,by omega,rfl,rfl,by rw[aGG];exact ho,hx⟩ ?_
 rintro n t w' ⟨i,hi,rfl,rfl,ho,hx⟩;by_cases hlt:i<4
 .have hd:decide ((i:Int)<4)=true:=by simp;omega
  have hod:=UO ho;have hv:=aKB vs kept i (by omega);have hc:(cF (UF vs kept i) kept 32 all)[i]?=some (.int .u64 vs[i]):=by
   rw[aAT i (by rw[rV];omega)];rw[a1I (by rw[rV];omega)]at hv;rw[a1Z hv]
  have t1:(8*(i:Int)).toNat=8*i:=by omega
  have t2:(8*(i:Int)+8).toNat=8*i+8:=by omega
  simp(disch:=omega)only[GD,SV,hd,hod.cell,hc,t1,t2,sI (show 8*i≠32 by omega)];have hs:((kept.drop (8*i)).take 8).length=8:=by rw[a1N,a1L];omega
  have hbs:Bs (dr w') (.slice (some ⟨b,4+8*i,none⟩) (8*i+8-8*i) (32-8*i)) ((kept.drop (8*i)).take 8):=by
   rw[show 8*i+8-8*i=((kept.drop (8*i)).take 8).length from by omega];refine hod.bs (by omega) λj hj=> ?_;rw[a4E,Z4 (by rw[rV];exact h1) (8*i+j) (by omega)];simp
  refine(apW _ _ _ hbs (by omega)).mono ?_;rintro r w1 ⟨rfl,rfl⟩;simp(disch:=omega)only[SV,hod.cell,hc];refine(aAB _ _ _).mono ?_;rintro r w1 ⟨rfl,rfl⟩;refine jK hod rfl (by rw[pF (by rw[rV];exact h1) h2];omega) λw2 o2 x2 s2=> ?_;rw[aBH i _ (by rw[rV];omega),aKC vs kept i (by omega)]at o2;exact⟨4-(i+1),by omega,i+1,by omega,rfl,rfl,o2,(hx.seq (aE.dr _ _)).seq x2⟩
 .have:i=4:=by omega
  subst this;have hd:decide (((4:Nat):Int)<4)=false:=by simp
  simp(disch:=omega)only[GD,SV,hd];exact hR _ ho hx
theorem aH6 (w0:a7B)(b:Nat)(L l:List UInt8)(_hlen:L.length+l.length<=1099511627776)(R:a7B->Prop)
 (hR:∀w',aMz w' b (L++l) (L.length+l.length)->aE w0 w' (λx=>x=b)->R w') (v:a7C) (w:a7B)
 (h:aMz w b L (L.length+l.length)) (hv:Bs w v l) (hb:¬VH v (λx=>x=b)) (hx:aE w0 w (λx=>x=b)):
 lV R (.pointer (some ⟨b,0,none⟩)) v w:=by
 unfold lV;refine aN.rule (λn t w'=>∃m:Nat,m<=l.length/\n=l.length-m/\Bs w' t (l.drop m)/\¬VH t (λx=>x=b)/\aMz w' b (L++l.take m) (L.length+l.length)/\aE w0 w' (λx=>x=b)) l.length
  ⟨0,by omega,rfl,hv,hb,by simpa using h,hx⟩ ?_
 rintro n t w' ⟨m,hm,rfl,hv,hb,⟨kept,h2,hk,ho⟩,hx⟩;have hv':=hv;obtain⟨a,n,c,rfl,hn,hc,hcell⟩:=hv';rw[a1M,a1L]at hn;by_cases hlt:m<l.length
 .obtain ⟨b',o',rfl,hcell'⟩:=hcell (by omega);have hd:decide ((0:Int)<(n:Int))=true:=by simp;omega
  have hM:(L++l.take m).length=L.length+m:=by simp;omega
  rw[hM]at hk ho;obtain⟨q,hq⟩:∃q,q=(L.length+m)/32:=⟨_,rfl⟩;obtain⟨r,hr⟩:∃r,r=(L.length+m)%32:=⟨_,rfl⟩;rw[<-hq,<-hr]at hk ho;have hqr:L.length+m=32*q+r/\r<32:=by omega
  have h1:(Tg q (L++l.take m)).length=4:=rD _ _;have hod:=UO ho;have t1:(r:Int).toNat=r:=by omega
  simp(disch:=omega)only[vI,vH,fY,fY,vG,rY,yJ,yI,rW,SV,hd,hod.cell,QJ h1 h2,sI (show r≠32 by omega)];have hvd:Bs (dr w') (.slice (some ⟨b',o',none⟩) n c) (l.drop m):=hv.ext (aE.dr w' aP) (by unfold VH aP;split<;>simp);refine ZH hod (by rw[pF h1 h2];omega) hvd (aKX _) λw1 o1 x1 s1=> ?_;obtain⟨u,hu⟩:∃u,u=min n (32-r):=⟨_,rfl⟩;have hlm:(List.map kH (l.drop m)).length=n:=by rw[a1M,a1L,hn]
  rw[hlm]at o1⊢;rw[<-hu]at o1⊢;have hu1:u<=n/\u<=32-r/\(u=n∨u=32-r):=by omega
  have hul:((l.drop m).take u).length=u:=by rw[a1N,a1L];omega
  rw[<-a4R,aDw h1 _ _ _ (by omega)]at o1;obtain⟨kept1,hk1⟩:∃x,x=Wu kept r ((l.drop m).take u):=⟨_,rfl⟩;rw[<-hk1]at o1;have h21:kept1.length=32:=by rw[hk1,aFC (by omega)];exact h2
  simp(disch:=omega)only[SV,o1.cell,QJ h1 h21];refine eZ o1 rfl (by rw[pF h1 h21];omega) λw2 o2 x2 s2=> ?_;rw[<-Int.natCast_add,W3 h1 h21]at o2;have hx2:aE w' w2 (λx=>x=b):=((aE.dr w' _).seq x1).seq x2;have hv2:=hv.ext hx2 hb;have hv3:=hv2.drop hu1.1;have hb3:=aF8 (k:=u) hb (by omega) (n-u);rw[<-a3M,a3V]at hv3;have hM2:L++l.take (m+u)=(L++l.take m)++(l.drop m).take u:=by rw[a2R,List.take_add]
  have hacc:Tg q (L++l.take (m+u))=Tg q (L++l.take m):=by rw[hM2];exact aAH _ _ _ (by omega)
  have hlen2:(L++l.take (m+u)).length=L.length+(m+u):=by simp;omega
  have hkeep:kept1.take (r+u)=(L++l.take (m+u)).drop (32*q):=by
   rw[hk1,hM2,a5D (by omega),<-hk];unfold Wu;rw[a5E (by simp;omega),a1T (by simp;omega)]
  rw[<-hacc]at o2;simp(disch:=omega)only[SV,o2.cell,QJ (rD _ _) h21];by_cases hfull:r+u=32
  .have he:(((r+u:Nat):Int)==32)=true:=by rw[hfull]<;>rfl
   rw[he];simp(disch:=omega)only[SV];rw[hfull]at o2 hkeep;have h11:=rD q (L++l.take (m+u));refine aH3 w2 b _ kept1 _ h11 h21 _ _ (λw3 o3 x3=> ?_) w2 o2 (aE.refl _ _);have h13:(UF (Tg q (L++l.take (m+u))) kept1 4).length=4:=by rw[rV];exact h11
   simp(disch:=omega)only[vI,vH,fY,fY,vG,rY,yJ,yI,rW,SV];refine eZ o3 rfl (by rw[pF h13 h21];omega) λw4 o4 x4 s4=> ?_;have o4:aT w4 b ((cF (UF (Tg q (L++l.take (m+u))) kept1 4) kept1 32 (L.length+l.length)).set 36 (.int .i64 ((0:Nat):Int))):=o4;rw[W3 h13 h21]at o4;have hx4:=x3.seq x4;have hkk:kept1=(L++l.take (m+u)).drop (32*q):=by rw[<-hkeep,a1T (by omega)]
   refine⟨l.length-(m+u),by omega,m+u,by omega,rfl,hv3.ext hx4 hb3,hb3,⟨kept1,h21, ?_, ?_⟩,(hx.seq hx2).seq hx4⟩
   .have z:(L++l.take (m+u)).drop (32*((L.length+(m+u))/32))=[]:=List.drop_eq_nil_of_le (by rw[hlen2];omega);have z1:(L.length+(m+u))%32=0:=by omega
    rw[hlen2,z,z1]<;>rfl
   .have z1:(L.length+(m+u))%32=0:=by omega
    have z2:(L.length+(m+u))/32=q+1:=by omega
    have z3:kept1.take 32=kept1:=a1T (by omega);rw[hlen2,z1,z2,Tg,<-hkk,z3];exact o4
  .have he:(((r+u:Nat):Int)==32)=false:=by rw[beq_eq_false_iff_ne];omega
   rw[he];simp(disch:=omega)only[SV];refine⟨l.length-(m+u),by omega,m+u,by omega,rfl,hv3,hb3,⟨kept1,h21, ?_, ?_⟩,hx.seq hx2⟩
   .rw [hlen2,show(L.length+(m+u))%32=r+u from by omega,show(L.length+(m+u))/32=q from by omega];exact hkeep
   .rw [hlen2,show(L.length+(m+u))%32=r+u from by omega,show(L.length+(m+u))/32=q from by omega];exact o2
 .have hd:decide ((0:Int)<(n:Int))=false:=by simp;omega
  simp(disch:=omega)only[vI,vH,fY,fY,vG,rY,yJ,yI,rW,SV,hd];refine hR _ ⟨kept,h2, ?_, ?_⟩ hx
  .have e:l.take m=l:=a1T (by omega);rw[e]at hk;exact hk
  .have e:l.take m=l:=a1T (by omega);rw[e]at ho;exact ho
theorem aPt(b:Nat)(L l:List UInt8)(hlen:L.length+l.length<=1099511627776)(v:a7C)(w:a7B)(h:axG w b L)(hv:Bs w v l)(hb:¬VH v (λx=>x=b)):
 aL pg Ai #[.pointer (some ⟨b,0,none⟩),v] w (λr w'=>r= .tuple #[]/\axG w' b (L++l)/\aE w w' (λx=>x=b)):=by
 refine ahE ?_;obtain⟨kept,h2,hk,ho⟩:=h;have h1:=rD (L.length/32) L;have hv':=hv;obtain⟨a,n,c,rfl,hn,hc,hcell⟩:=hv';rw[a1M]at hn;simp(disch:=omega)only[afD,P7,P6,lV,SV,ho.cell,IB h1 h2];refine jK ho rfl (by rw[pF h1 h2];omega) λw1 o1 x1 s1=> ?_;rw[<-Int.natCast_add,hn,arU h1 h2]at o1;refine aH6 w b L l hlen _ (λw' hh hx=>⟨?_,hx⟩) _ w1 ⟨kept,h2,hk,o1⟩ (hv.ext x1 hb) hb x1;unfold axG;rw[a1O];exact hh
theorem aMo(n:Int):0<=IntKind.u64.wrap n/\IntKind.u64.wrap n<=18446744073709551615:=by rw[aZe];omega
theorem aLZ(x:Int)(k:Nat):0<=SM x k/\SM x k<=18446744073709551615:=aMo _
def jA(vs:List Int):Nat->Int
 |0=>0
 |i+1=>IntKind.u64.wrap (jA vs i+SM (vs.getD i 0) ([1,7,12,18].getD i 0))
def jB(vs:List Int):Nat->Int
 |0=>jA vs 4
 |i+1=>IntKind.u64.wrap (IntKind.u64.wrap (apS .u64 (jB vs i) (aJ5 0 (vs.getD i 0))*11400714785074694791)+9650029242287828579)
def aDx(L:List UInt8):Int:=if L.length<32 then 2870177450012600261 else jB (Tg (L.length/32) L) 4
def aLh(x:Int):Int:=
 let y1:=IntKind.u64.wrap (apS .u64 x (x.fdiv (2^min (33:Int).toNat IntKind.u64.bits))*14029467366897019727)
 let y2:=IntKind.u64.wrap (apS .u64 y1 (y1.fdiv (2^min (29:Int).toNat IntKind.u64.bits))*1609587929392839161)
 apS .u64 y2 (y2.fdiv (2^min (32:Int).toNat IntKind.u64.bits))
def aNQ(x m:Int):Int:=IntKind.u64.wrap (IntKind.u64.wrap (SM (apS .u64 x (aJ5 0 m)) 27*11400714785074694791)+9650029242287828579)
def aR4 (x m:Int):Int:=IntKind.u64.wrap (IntKind.u64.wrap (SM (apS .u64 x (IntKind.u64.wrap (m*11400714785074694791))) 23*14029467366897019727)+1609587929392839161)
def aX0 (x:Int)(c:UInt8):Int:=IntKind.u64.wrap (SM (apS .u64 x (IntKind.u64.wrap ((c.toNat:Int)*2870177450012600261))) 11*11400714785074694791)
def e8 (x:Int)(B:List UInt8):Nat->Int
 |0=>x
 |j+1=>aNQ (e8 x B j) (zQ ((B.drop (8*j)).take 8))
def e1 (x:Int)(B:List UInt8):Nat->Int
 |0=>x
 |j+1=>aX0 (e1 x B j) (B.getD j 0)
def MM(x:Int)(C:List UInt8):Int×List UInt8:=if 4<=C.length then(aR4 x (zQ (C.take 4)),C.drop 4)else(x,C)
def aKA(x:Int)(B:List UInt8):Int:=
 let r:=MM (e8 x B (B.length/8)) (B.drop (8*(B.length/8)))
 e1 r.1 r.2 r.2.length
def XXH(L:List UInt8):Int:=aLh (aKA (IntKind.u64.wrap (aDx L+(L.length:Int))) (L.drop (32*(L.length/32))))
theorem aMu(b:Nat)(L:List UInt8)(hlen:L.length<=1099511627776)(w:a7B)(h:axG w b L):
 aL pg DY #[.pointer (some ⟨b,0,none⟩)] w (λr w'=>r= .int .u64 (aDx L)/\w'=w):=by
 refine afG ?_;obtain⟨kept,h2,hk,ho⟩:=h;have h1:=rD (L.length/32) L;by_cases hs:L.length<32
 .have hd:decide ((L.length:Int)<32)=true:=by simp;omega
  simp(disch:=omega)only[Lt,gW,gV,SV,ho.cell,IB h1 h2,hd,aDx,hs]
 .have hd:decide ((L.length:Int)<32)=false:=by simp;omega
  obtain⟨vs,hvs⟩:∃vs,vs=Tg (L.length/32) L:=⟨_,rfl⟩;have hH:aDx L=jB vs 4:=by rw[hvs];unfold aDx;rw[if_neg hs]
  rw[hH];rw[<-hvs]at ho h1;clear hvs hH;simp(disch:=omega)only[Lt,iW,fZ,lW,iX,iY,gA,kG,gT,gU,gV,gW,SV,ho.cell,IB h1 h2,hd];refine aN.rule (λn t w'=>∃i:Nat,i<=4/\n=4-i/\t=(.int .u64 (jA vs i),.int .i64 (i:Int))/\w'=w) 4 ⟨0,by omega,rfl,rfl,rfl⟩ ?_;rintro n t w' ⟨i,hi,rfl,rfl,rfl⟩;by_cases hlt:i<4
  .have hd:decide ((i:Int)<4)=true:=by simp;omega
   have hv:=aAT (vs:=vs) (kept:=kept) (n:=L.length%32) (all:=L.length) i (by omega);have hg:(#[Value.int .i64 1,.int .i64 7,.int .i64 12,.int .i64 18]:Array a7C)[i]?=some (.int .i64 (([1,7,12,18].getD i 0:Nat):Int)):=by
    have:i=0∨i=1∨i=2∨i=3:=by omega
    rcases this with rfl|rfl|rfl|rfl<;>rfl
   have ht:[1,7,12,18].getD i 0<64:=by
    have:i=0∨i=1∨i=2∨i=3:=by omega
    rcases this with rfl|rfl|rfl|rfl<;>decide
   simp(disch:=omega)only[Dg,iW,fZ,lW,iX,iY,gA,kG,gT,gU,gV,gW,SV,hd,hg,ho.cell,hv];refine(axB _ _ ht _).mono ?_;rintro r w1 ⟨rfl,rfl⟩;simp(disch:=omega)only[SV];refine⟨4-(i+1),by omega,i+1,by omega,rfl, ?_⟩;have hvd:vs.getD i 0=vs[i]'(by omega):=by rw[a1P,a1I (by omega)]<;>rfl
   rw[jA,hvd];rfl
  .have:i=4:=by omega
   subst this;have hd:decide (((4:Nat):Int)<4)=false:=by simp
   have ha:=aDN (off:=0) ho (by rw[pF h1 h2];omega);have hb:((cF vs kept (L.length%32) L.length).drop 0).take 4=vs.map (Value.int .u64):=by
    rw[a1F];unfold cF;rw[a5E (by simp;omega),a1T (by simp;omega)]
   rw[hb]at ha;simp(disch:=omega)only[Dg,iW,fZ,lW,iX,iY,gA,kG,gT,gU,gV,gW,SV,hd,ha,decide_false];refine aN.rule (λn t w2=>∃i:Nat,i<=4/\n=4-i/\t=(.int .u64 (jB vs i),.int .i64 (i:Int))/\w2=w') 4 ⟨0,by omega,rfl,rfl,rfl⟩ ?_;rintro n t w2 ⟨i,hi,rfl,rfl,rfl⟩;by_cases hlt:i<4
   .have hd:decide ((i:Int)<4)=true:=by simp;omega
    have hg:((vs.map (Value.int .u64)).toArray)[i]?=some (.int .u64 (vs[i]'(by omega))):=by simp[show i<vs.length by omega]
    simp(disch:=omega)only[Df,iW,fZ,lW,iX,iY,gA,kG,gT,gU,gV,gW,SV,hd,hg];refine(aAB _ _ _).mono ?_;rintro r w1 ⟨rfl,rfl⟩;simp(disch:=omega)only[SV];refine⟨4-(i+1),by omega,i+1,by omega,rfl, ?_⟩;have hvd:vs.getD i 0=vs[i]'(by omega):=by rw[a1P,a1I (by omega)]<;>rfl
    rw[jB,hvd];rfl
   .have:i=4:=by omega
    subst this;have hd:decide (((4:Nat):Int)<4)=false:=by simp
    simp(disch:=omega)only[Df,iW,fZ,lW,iX,iY,gA,kG,gT,gU,gV,gW,SV,hd,decide_false]
theorem aKu(w:a7B)(R:a7C->a7B->Prop)(y:Int)(D:List UInt8)(v:a7C)(hv:Bs w v D)(hD:D.length<32)(hR:R (.int .u64 (aLh (e1 y D D.length))) w):
 kP R (.int .u64 y) v w:=by
 have hv':=hv;obtain⟨a,n,c,rfl,hn,hc,hcell⟩:=hv';rw[a1M]at hn;simp(disch:=omega)only[kP,nQ,rA,iQ,iQ,SV];refine aN.rule (λm t w'=>∃j:Nat,j<=n/\m=n-j/\t=(.int .u64 (e1 y D j),.int .i64 (j:Int))/\w'=w) n ⟨0,by omega,rfl,rfl,rfl⟩ ?_;rintro m t w' ⟨j,hj,rfl,rfl,rfl⟩;by_cases hlt:j<n
 .obtain ⟨b,off,rfl,hcell'⟩:=hcell (by omega);have hcl:=hcell' j hlt;rw[a2F,a1I (by omega),a2Q]at hcl;have hb:(D[j]'(by omega)).toNat<256:=a2D _;have hd:decide ((j:Int)<(n:Int))=true:=by simpa using hlt
  simp(disch:=omega)only[Ls,nP,iQ,rA,nQ,kP,nS,kQ,jN,jO,pI,pJ,SV,hd,hcl,kH];refine(axB _ 11 (by omega) _).mono ?_;rintro r w1 ⟨rfl,rfl⟩;simp(disch:=omega)only[SV];refine⟨n-(j+1),by omega,j+1,by omega,rfl, ?_⟩;have hg:D.getD j 0=D[j]'(by omega):=by rw[a1P,a1I (by omega)]<;>rfl
  rw[e1,hg];rfl
 .have hd:decide ((j:Int)<(n:Int))=false:=by simpa using hlt
  have:j=D.length:=by omega
  subst this;simp(disch:=omega)only[Ls,nP,iQ,rA,nQ,kP,nS,kQ,jN,jO,pI,pJ,nP,SV,hd,decide_false];exact hR
theorem aR7 (w:a7B)(R:a7C->a7B->Prop)(x:Int)(B:List UInt8)(v:a7C)(hv:Bs w v B)(hB:B.length<32)(hR:R (.int .u64 (aLh (aKA x B))) w):
 jO R (.int .u64 x) v w:=by
 unfold jO jN;refine aN.rule (λn t w'=>∃(j:Nat) (u:a7C),8*j<=B.length/\n=B.length-j/\t=(.int .u64 (e8 x B j),u)/\Bs w u (B.drop (8*j))/\w'=w) B.length ⟨0,v,by omega,rfl,rfl,hv,rfl⟩ ?_;rintro n t w' ⟨j,u,hj,rfl,rfl,hu,rfl⟩;have hu':=hu;obtain⟨a,n,c,rfl,hn,hc,hcell⟩:=hu';rw[a1M,a1L]at hn;by_cases h8:8<=n
 .obtain ⟨b',o',rfl,_⟩:=hcell (by omega);have hd:decide ((8:Int)<=(n:Int))=true:=by simp;omega
  have t8:(8:Int).toNat=8:=rfl;simp(disch:=omega)only[Im,nP,iQ,rA,nQ,kP,nS,kQ,jN,jO,pI,pJ,SV,hd,t8];have hs:=hu.take h8;rw[<-a4R]at hs;refine(apW _ _ _ hs (by rw[a1N];omega)).mono ?_;rintro r w1 ⟨rfl,rfl⟩;refine(aAB _ _ _).mono ?_;rintro r w1 ⟨rfl,rfl⟩;simp(disch:=omega)only[SV];refine(axB _ 27 (by omega) _).mono ?_;rintro r w1 ⟨rfl,rfl⟩;simp(disch:=omega)only[SV,t8];have hs2:=hu.drop h8;rw[<-a3M,a3V]at hs2;exact⟨B.length-(j+1),by omega,j+1,_,by omega,rfl,rfl,by rw[a6Q];exact hs2⟩
 .have hd:decide ((8:Int)<=(n:Int))=false:=by simp;omega
  have hj8:j=B.length/8:=by omega
  obtain⟨C,hC⟩:∃C,C=B.drop (8*j):=⟨_,rfl⟩;have hCl:C.length=n:=by rw[hC,a1L,hn]
  have htail:aKA x B=(let r:=MM (e8 x B j) C;e1 r.1 r.2 r.2.length):=by rw[hC,hj8]<;>rfl
  rw[htail]at hR;rw[<-hC]at hu;simp(disch:=omega)only[Im,nP,iQ,rA,nQ,kP,nS,kQ,jN,jO,pI,pJ,SV,hd,decide_false];by_cases h4:4<=n
  .obtain ⟨b',o',rfl,_⟩:=hcell (by omega);have hd:decide ((4:Int)<=(n:Int))=true:=by simp;omega
   have t4:(4:Int).toNat=4:=rfl;have ha:MM (e8 x B j) C=(aR4 (e8 x B j) (zQ (C.take 4)),C.drop 4):=by unfold MM;rw[if_pos (by omega)]
   rw[ha]at hR;simp(disch:=omega)only[kQ,nS,SV,hd,t4];have hs:=hu.take h4;rw[<-a4R]at hs;refine(apW _ _ _ hs (by rw[a1N];omega)).mono ?_;rintro r w1 ⟨rfl,rfl⟩;simp(disch:=omega)only[SV];refine(axB _ 23 (by omega) _).mono ?_;rintro r w1 ⟨rfl,rfl⟩;simp(disch:=omega)only[SV,t4];have hs2:=hu.drop h4;rw[<-a3M]at hs2;exact aKu _ _ _ _ _ hs2 (by rw[a1L];omega) hR
  .have hd:decide ((4:Int)<=(n:Int))=false:=by simp;omega
   have ha:MM (e8 x B j) C=(e8 x B j,C):=by unfold MM;rw[if_neg (by omega)]
   rw[ha]at hR;simp(disch:=omega)only[kQ,nS,SV,hd];exact aKu _ _ _ _ _ hu (by omega) hR
theorem aT4 (b:Nat)(L:List UInt8)(hlen:L.length<=1099511627776)(w:a7B)(h:axG w b L):
 aL pg DX #[.pointer (some ⟨b,0,none⟩)] w (λr w'=>r= .int .u64 (XXH L)/\aE w w' aP):=by
 refine awZ ?_;have h':=h;obtain⟨kept,h2,hk,ho⟩:=h';have h1:=rD (L.length/32) L;have hod:=UO ho;simp(disch:=omega)only[awY,pJ,pI,SV];refine(aMu b L hlen (dr w) ⟨kept,h2,hk,hod⟩).mono ?_;rintro r w1 ⟨rfl,rfl⟩;have hod2:=UO hod;have hr:L.length%32<32:=by omega
 have hbs:Bs (dr (dr w)) (.slice (some ⟨b,4,none⟩) (L.length%32-0) (32-0)) (L.drop (32*(L.length/32))):=by
  rw[<-hk];have e:(kept.take (L.length%32)).length=L.length%32:=by rw[a1N];omega
  rw[show L.length%32-0=(kept.take (L.length%32)).length from by omega];refine hod2.bs (by omega) λj hj=> ?_;rw[Z4 h1 j (by omega)];simp
 have t0:lQ ⟨b,4,none⟩ 32 0 1=⟨b,4,none⟩:=by rw[sI (by omega)]
 simp(disch:=omega)only[SV,hod.cell,hod2.cell,IB h1 h2,QJ h1 h2,t0];refine aR7 _ _ _ _ _ hbs (by rw[a1L];omega) ⟨rfl,(aE.dr w _).seq (aE.dr _ _)⟩
theorem aWo(L:List UInt8)(hlen:L.length<=1099511627776)(v:a7C)(w:a7B)(hv:Bs w v L):
 aL pg aCF #[v] w (λr w'=>r= .int .u64 (XXH L)/\aE w w' aP):=by
 refine aKI ?_;simp(disch:=omega)only[aSu,aGJ,SV];refine(aT3 w).mono ?_;rintro r w1 ⟨rfl,h1,x1⟩;have hnb:¬VH v (λx=>x=w.heap.size):=by
  intro hb;refine hv.old ?_;unfold VH at*;split at hb
  .omega
  .exact hb
 have hv1:=hv.ext x1 (by unfold VH aP;split<;>simp);refine(aPt _ [] L (by simpa using hlen) v w1 h1 hv1 hnb).mono ?_;rintro r w2 ⟨rfl,h2,x2⟩;refine(aT4 _ L hlen w2 h2).mono ?_;rintro r w3 ⟨rfl,x3⟩;exact⟨rfl,(x1.new x2 (a1J _)).seq x3⟩
theorem aJW(s:ByteArray)(hs:s.size<=1099511627776)(w:a7B)(R:a7C->a7B->Prop)(y:Int)(i:Nat)(hi:i<=s.size)
 (hR:R (.int .u64 (aLh (e1 y ((aM s).drop i) ((aM s).drop i).length))) w):
 QY R (.string s) (.int .u64 y) (.int .i64 (i:Int)) w:=by
 obtain⟨D,hD⟩:∃D,D=(aM s).drop i:=⟨_,rfl⟩;have hDl:D.length=s.size-i:=by rw[hD,a1L,aI]
 rw[<-hD]at hR;unfold QY QX;refine aN.rule (λm t w'=>∃j:Nat,i+j<=s.size/\m=s.size-j/\t=(.int .u64 (e1 y D j),.int .i64 ((i+j:Nat):Int))/\w'=w) s.size ⟨0,by omega,rfl,rfl,rfl⟩ ?_;rintro m t w' ⟨j,hj,rfl,rfl,rfl⟩;have hg:∀(h:i+j<s.size),s[i+j]'h=D[j]'(by omega):=λh=>by
  rw[Fq];simp only[hD,List.getElem_drop]
 obtain⟨k,hk⟩:∃k,k=i+j:=⟨_,rfl⟩;rw[<-hk];by_cases hlt:k<s.size
 .have hb:(D[j]'(by omega)).toNat<256:=a2D _;have hd:decide ((k:Int)<(s.size:Int))=true:=by simpa using hlt
  have hg':s[k]'hlt=D[j]'(by omega):=by subst hk;exact hg _
  simp(disch:=omega)only[abA,SV,hd,hg'];refine(JI _ 11 (by omega) _).mono ?_;rintro r w1 ⟨rfl,rfl⟩;simp(disch:=omega)only[SV];refine⟨s.size-(j+1),by omega,j+1,by omega,rfl, ?_⟩;have hg:D.getD j 0=D[j]'(by omega):=by rw[a1P,a1I (by omega)]<;>rfl
  rw[e1,hg,show i+(j+1)=k+1 from by omega];rfl
 .have hd:decide ((k:Int)<(s.size:Int))=false:=by simpa using hlt
  have:j=D.length:=by omega
  subst this;simp(disch:=omega)only[abA,aaZ,SV,hd];exact hR
theorem aJZ(s:ByteArray)(hs:s.size<=1099511627776)(w0:a7B)(R:a7C->a7B->Prop)(x:Int)(i:Nat)(hi:i<=s.size)
 (hR:∀w,aE w0 w aP->R (.int .u64 (aLh (aKA x ((aM s).drop i)))) w):
 ∀w,aE w0 w aP->L9 R (.string s) (.int .u64 x) (.int .i64 (i:Int)) w:=by
 intro w hx;obtain⟨B,hB⟩:∃B,B=(aM s).drop i:=⟨_,rfl⟩;have hBl:B.length=s.size-i:=by rw[hB,a1L,aI]
 rw[<-hB]at hR;unfold L9 QZ;refine aN.rule (λn t w'=>∃j:Nat,8*j<=B.length/\n=B.length-j/\t=(.int .u64 (e8 x B j),.int .i64 ((i+8*j:Nat):Int))/\aE w0 w' aP) B.length ⟨0,by omega,rfl,rfl,hx⟩ ?_;rintro n t w ⟨j,hj,rfl,rfl,hx⟩;have hBd:(aM s).drop (i+8*j)=B.drop (8*j):=by rw[hB,a3V]
 obtain⟨k,hk⟩:∃k,k=i+8*j:=⟨_,rfl⟩;rw[<-hk]at hBd;rw[<-hk];by_cases h8:k+8<=s.size
 .have hd:decide ((k:Int)+8<=(s.size:Int))=true:=by simp;omega
  simp(disch:=omega)only[abC,SV,hd];refine(aMt s k 8 (by omega) (by omega) h8 w).mono ?_;rintro r w1 ⟨rfl,x1⟩;refine(apX _ _ _).mono ?_;rintro r w2 ⟨rfl,rfl⟩;simp(disch:=omega)only[SV];refine(JI _ 27 (by omega) _).mono ?_;rintro r w2 ⟨rfl,rfl⟩;simp(disch:=omega)only[SV];refine⟨B.length-(j+1),by omega,j+1,by omega,rfl, ?_,hx.seq x1⟩;rw[hBd,e8,show i+8*(j+1)=k+8 from by omega];rfl
 .have hd:decide ((k:Int)+8<=(s.size:Int))=false:=by simp;omega
  have hj8:j=B.length/8:=by omega
  obtain⟨C,hC⟩:∃C,C=B.drop (8*j):=⟨_,rfl⟩;have hCl:C.length=s.size-k:=by rw[hC,a1L];omega
  have htail:aKA x B=(let r:=MM (e8 x B j) C;e1 r.1 r.2 r.2.length):=by rw[hC,hj8]<;>rfl
  rw[htail]at hR;rw[<-hC]at hBd;simp(disch:=omega)only[abC,abB,aA3,SV,hd];by_cases h4:k+4<=s.size
  .have hd:decide ((k:Int)+4<=(s.size:Int))=true:=by simp;omega
   have ha:MM (e8 x B j) C=(aR4 (e8 x B j) (zQ (C.take 4)),C.drop 4):=by unfold MM;rw[if_pos (by omega)]
   rw[ha]at hR;simp(disch:=omega)only[SV,hd];refine(aMt s k 4 (by omega) (by omega) h4 w).mono ?_;rintro r w1 ⟨rfl,x1⟩;simp(disch:=omega)only[SV];refine(JI _ 23 (by omega) _).mono ?_;rintro r w2 ⟨rfl,rfl⟩;simp(disch:=omega)only[SV];have hD:(aM s).drop (k+4)=C.drop 4:=by rw[<-hBd,a3V]
   refine aJW s hs _ R _ (k+4) h4 ?_;rw[hD,hBd];exact hR _ (hx.seq x1)
  .have hd:decide ((k:Int)+4<=(s.size:Int))=false:=by simp;omega
   have ha:MM (e8 x B j) C=(e8 x B j,C):=by unfold MM;rw[if_neg (by omega)]
   rw[ha]at hR;simp(disch:=omega)only[SV,hd];refine aJW s hs _ R _ k (by omega) ?_;rw[hBd];exact hR _ hx
theorem aRO(s:ByteArray)(vs:List Int)(hv4:vs.length=4)(b:Nat)(i:a7C)(w:a7B)(ho:aT w b (vs.map (Value.int .u64)))(kn:a7C->a7C->a7C->a7B->Prop)
 (hk:kn (.string s) (.int .u64 (jB vs 4)) i (dr w)):
 Mb kn (.string s) i (.pointer (some ⟨b,0,none⟩)) w:=by
 have hod:=UO ho;have hg:∀k,(h:k<4)->(vs.map (Value.int .u64))[k]?=some (.int .u64 (vs[k]'(by omega))):=λk h=>by
  simp[show k<vs.length by omega]
 have g0:=hg 0 (by omega);have g1:=hg 1 (by omega);have g2:=hg 2 (by omega);have g3:=hg 3 (by omega);have t0:(0:Int).toNat=0:=rfl;have t1:(1:Int).toNat=1:=rfl;have t2:(2:Int).toNat=2:=rfl;have t3:(3:Int).toNat=3:=rfl;simp(disch:=omega)only[Mb,atK,SV,t0,t1,t2,t3,hod.cell,g0];refine(JI _ 1 (by omega) _).mono ?_;rintro r w1 ⟨rfl,rfl⟩;simp(disch:=omega)only[SV,t0,t1,t2,t3,hod.cell,g0,g1,g2,g3];refine(JI _ 7 (by omega) _).mono ?_;rintro r w1 ⟨rfl,rfl⟩;simp(disch:=omega)only[SV,t0,t1,t2,t3,hod.cell,g0,g1,g2,g3];refine(JI _ 12 (by omega) _).mono ?_;rintro r w1 ⟨rfl,rfl⟩;simp(disch:=omega)only[SV,t0,t1,t2,t3,hod.cell,g0,g1,g2,g3];refine(JI _ 18 (by omega) _).mono ?_;rintro r w1 ⟨rfl,rfl⟩;have hj:jA vs 4=IntKind.u64.wrap (IntKind.u64.wrap (IntKind.u64.wrap (SM (vs[0]'(by omega)) 1+SM (vs[1]'(by omega)) 7)+SM (vs[2]'(by omega)) 12)+SM (vs[3]'(by omega)) 18):=by
  have hd:∀k,(h:k<4)->vs.getD k 0=vs[k]'(by omega):=λk h=>by
   rw[a1P,a1I (by omega)]<;>rfl
  have hr:=aLZ (vs[0]'(by omega)) 1;have e:IntKind.u64.wrap ((0:Int)+SM (vs[0]'(by omega)) 1)=SM (vs[0]'(by omega)) 1:=by rw[Int.zero_add];exact eL hr.1 (by have:=hr.2;omega)
  simp only[jA,hd 0 (by omega),hd 1 (by omega),hd 2 (by omega),hd 3 (by omega)];show IntKind.u64.wrap (IntKind.u64.wrap (IntKind.u64.wrap (IntKind.u64.wrap ((0:Int)+SM _ 1)+SM _ 7)+SM _ 12)+SM _ 18)=_;rw[e]
 simp(disch:=omega)only[SV,FG,FG,<-hj];refine aN.rule (λn t w'=>∃i:Nat,i<=4/\n=4-i/\t=(.int .u64 (jB vs i),.int .i64 (i:Int))/\w'=dr w) 4 ⟨0,by omega,rfl,rfl,rfl⟩ ?_;rintro n t w' ⟨j,hj,rfl,rfl,rfl⟩;by_cases hlt:j<4
 .have hd:decide ((j:Int)<4)=true:=by simp;omega
  simp(disch:=omega)only[VW,SV,hd,hod.cell,hg j hlt];refine(apX _ _ _).mono ?_;rintro r w1 ⟨rfl,rfl⟩;simp(disch:=omega)only[SV];refine⟨4-(j+1),by omega,j+1,by omega,rfl, ?_⟩;have hvd:vs.getD j 0=vs[j]'(by omega):=by rw[a1P,a1I (by omega)]<;>rfl
  rw[jB,hvd];rfl
 .have:j=4:=by omega
  subst this;have hd:decide (((4:Nat):Int)<4)=false:=by simp
  simp(disch:=omega)only[VW,SV,hd];exact hk
theorem aJY(s:ByteArray)(hs:s.size<=1099511627776)(w0:a7B)(b:Nat)(hb:w0.heap.size<=b)(kn:a7C->a7C->a7C->a7B->Prop)
 (hk:∀w,aT w b ((Tg (s.size/32) (aM s)).map (Value.int .u64))->aE w0 w aP->kn (.string s) (.int .i64 ((32*(s.size/32):Nat):Int)) (.pointer (some ⟨b,0,none⟩)) w)
 (w:a7B) (ho:aT w b (aUn.map (Value.int .u64))) (hx:aE w0 w aP):
 FI kn (.string s) (.int .i64 0) (.pointer (some ⟨b,0,none⟩)) w:=by
 unfold FI;refine aN.rule (λn t w'=>∃q:Nat,32*q<=s.size/\n=s.size-q/\t= .int .i64 ((32*q:Nat):Int)/\aT w' b ((Tg q (aM s)).map (Value.int .u64))/\aE w0 w' aP) s.size ⟨0,by omega,rfl,rfl,ho,hx⟩ ?_;rintro n t w ⟨q,hq,rfl,rfl,ho,hx⟩;obtain⟨i,hi⟩:∃i,i=32*q:=⟨_,rfl⟩;rw[<-hi];by_cases hlt:i+32<=s.size
 .have hd:decide ((i:Int)+32<=(s.size:Int))=true:=by simp;omega
  obtain⟨S,hS⟩:∃S,S=((aM s).drop (32*q)).take 32:=⟨_,rfl⟩;obtain⟨vs,hvs⟩:∃vs,vs=Tg q (aM s):=⟨_,rfl⟩;have hv4:vs.length=4:=by rw[hvs];exact rD _ _
  have hnext:Tg (q+1) (aM s)=UF vs S 4:=by rw[hvs,hS]<;>rfl
  rw[<-hvs]at ho;simp(disch:=omega)only[V1,V0,AF,AF,Mc,VZ,uP,uP,SV,hd];refine aN.rule (λn t w'=>∃k:Nat,k<=4/\n=4-k/\t= .int .i64 (k:Int)/\aT w' b ((UF vs S k).map (Value.int .u64))/\aE w0 w' aP) 4
   ⟨0,by omega,rfl,rfl,by rw[aGG];exact ho,hx⟩ ?_
  rintro n t w ⟨k,hk4,rfl,rfl,ho,hx⟩;by_cases hlk:k<4
  .have hd:decide ((k:Int)<4)=true:=by simp;omega
   have hod:=UO ho;have hg:((UF vs S k).map (Value.int .u64))[k]?=some (.int .u64 (vs[k]'(by omega))):=by
    rw[a2F,aKB vs S k (by omega)]<;>rfl
   simp(disch:=omega)only[VY,SV,hd,hod.cell,hg];have hsl:((aM s).drop (i+8*k)).take 8=(S.drop (8*k)).take 8:=by
    rw[hS,List.drop_take,a5R,a3V,<-hi,show min 8 (32-8*k)=8 from by omega]
   refine(aMt s (i+8*k) 8 (by omega) (by omega) (by omega) (dr w)).mono ?_;rintro r w1 ⟨rfl,x1⟩;have o1:=hod.ext x1 (λh=>h);rw[hsl];simp(disch:=omega)only[SV,o1.cell,hg];refine(apX _ _ _).mono ?_;rintro r w2 ⟨rfl,rfl⟩;have hbo:w0.heap.size<=b:=hb;refine jK o1 rfl (by rw[a1M,rV];omega) λw2 o2 x2 s2=> ?_;rw[<-a6E,aKC vs S k (by omega)]at o2;exact⟨4-(k+1),by omega,k+1,by omega,rfl,rfl,o2,((hx.seq (aE.dr _ _)).seq x1).new x2 hb⟩
  .have:k=4:=by omega
   subst this;have hd:decide (((4:Nat):Int)<4)=false:=by simp
   simp(disch:=omega)only[VY,VX,SV,hd];rw[<-hnext]at ho;refine⟨s.size-(q+1),by omega,q+1,by omega,rfl, ?_,ho,hx⟩;rw[show 32*(q+1)=i+32 from by omega];rfl
 .have hd:decide ((i:Int)+32<=(s.size:Int))=false:=by simp;omega
  simp(disch:=omega)only[V1,V0,AF,AF,Mc,VZ,uP,uP,SV,hd];have:q=s.size/32:=by omega
  subst this;rw[hi];exact hk _ ho hx
theorem aXP(s:ByteArray)(hs:s.size<=1099511627776)(w:a7B):
 aL pg U2 #[.string s] w (λr w'=>r= .int .u64 (XXH (aM s))/\aE w w' aP):=by
 refine aFt ?_;have hl:(aM s).length=s.size:=aI s;unfold aJO atQ atP V5 V4 atO V3;by_cases h32:32<=s.size
 .have hd:decide ((32:Int)<=(s.size:Int))=true:=by simp;omega
  have hd':decide ((s.size:Int)≥32)=true:=by simp;omega
  simp(disch:=omega)only[atM,atL,V2,SV,hd,hd'];refine aFg λw1 o1 x1 s1=> ?_;refine aEU o1 rfl (by simp[one]) (by decide) λw2 o2 x2 s2=> ?_;refine aJY s hs w _ (a1J _) _ (λw3 o3 x3=> ?_) w2 o2 (x1.new x2 (a1J _));refine aRO s _ (rD _ _) _ _ w3 o3 _ ?_;simp(disch:=omega)only[Ma,VV,SV];refine aJZ s hs w _ _ _ (by omega) (λw4 x4=>⟨?_,x4⟩) _ (x3.seq (aE.dr _ _));unfold XXH aDx;rw[hl,if_neg (by omega)]
 .have hd:decide ((32:Int)<=(s.size:Int))=false:=by simp;omega
  have hd':decide ((s.size:Int)≥32)=false:=by simp;omega
  simp(disch:=omega)only[atN,Ma,VV,SV,hd,hd'];refine aJZ s hs w _ _ 0 (by omega) (λw4 x4=>⟨?_,x4⟩) _ (aE.refl _ _);unfold XXH aDx;have e:IntKind.u64.wrap (2870177450012600261+(s.size:Int))=2870177450012600261+(s.size:Int):=eL (by omega) (by omega);rw[hl,if_pos (by omega),show s.size/32=0 from by omega,e,Nat.mul_zero]
end Go.Proofs.YthohephggmkeeaaGreatDoor

/- Parts of the proof of DecodeBytes: merged and given short names by a program of ours. -/
import Derived.Test.YthohephggmkeeaaGreatDoorZpC
set_option linter.unusedVariables false
set_option linter.unusedSimpArgs false
open Array renaming ext' → a6V
open Bool renaming and_eq_true → a1S, false_eq_true → a2A, not_true → a3P, not_false → a4Z, or_eq_false_iff → a5P
open Int renaming toNat_natCast → a1H, tdiv_eq_ediv_of_nonneg → a1R, tmod_eq_emod_of_nonneg → a2B, fdiv_eq_ediv_of_nonneg → a3A, le_refl → a6P
open List renaming getElem?_cons_zero → a1A, getElem?_cons_succ → a1B, take_succ_cons → a1C, set_cons_succ → a1D, set_cons_zero → a1E, drop_zero → a1F, take_zero → a1G, getElem?_eq_getElem → a1I, length_drop → a1L, length_map → a1M, length_take → a1N, length_append → a1O, getD_eq_getElem?_getD → a1P, take_of_length_le → a1T, length_cons → a1U, getElem?_append_left → a1V, getElem?_eq_none → a1X, length_replicate → a2C, mem_cons_of_mem → a2E, getElem?_map → a2F, drop_succ_cons → a2H, map_append → a2I, drop_eq_getElem_cons → a2J, getElem?_take_of_lt → a2L, getElem_mem → a2P, append_assoc → a2R, replicate_succ → a2S, mem_range → a2U, mem_append → a2X, map_congr_left → a2Y, mem_cons → a3C, mem_of_getElem? → a3E, take_add_one → a3F, set_append_right → a3H, map_drop → a3M, getElem_map → a3R, getElem?_range → a3S, drop_drop → a3V, mem_singleton → a3W, getElem_cons_zero → a3Z, ext_getElem? → a4C, map_cons → a4D, getElem?_drop → a4I, mem_map → a4J, append_nil → a4M, getElem?_eq_some_iff → a4N, cons_append → a4P, take_length → a4Q, map_take → a4R, count_append → a4U, count_cons → a4V, replicate_succ' → a5C, drop_append_of_le_length → a5D, getElem?_replicate → a5F, length_pos_iff → a5G, mem_cons_self → a5L, getLast?_eq_getElem? → a5Q, take_take → a5R, filter_cons → a5S, range_succ → a5Y, getElem_cons_succ → a6B, drop_length → a6H, mem_of_mem_take → a6I, mem_filter → a6K, flatten_cons → a6N, take_append_drop → a6U, count_singleton → a6W, getLast?_concat → a6X, map_nil → a6Y
open Nat renaming le_refl → a1J, pow_le_pow_right → a1K, zero_add → a1Q, lt_or_ge → a1Y, two_pow_pos → a2G, mul_comm → a2N, pow_succ → a2O, min_eq_left → a2T, mul_le_mul_right → a2V, mul_one → a2Z, mod_eq_of_lt → a3B, add_mul → a3D, add_zero → a3I, eq_zero_or_pos → a3J, le_trans → a3K, div_le_self → a3Q, add_sub_cancel → a3X, pow_add → a4A, add_assoc → a4E, zero_le → a4G, and_two_pow_sub_one_eq_mod → a4O, mod_two_eq_zero_or_one → a4Y, div_div_eq_div_mul → a5I, one_mul → a5J, sub_self → a5N, div_lt_iff_lt_mul → a5O, add_sub_cancel_left → a5V, mul_div_cancel_left → a5W, mul_assoc → a6J, sub_zero → a6M, mul_add → a6Q, log2_two_pow → a6S, pow_lt_pow_right → a6Z, succ_mul → a7A
open Option renaming map_some → a2Q, getD_some → a5H
open Option.some renaming inj → a1Z
open Prod.mk renaming inj → a5K
open UInt8 renaming toNat_lt → a2D, toNat_ofNat_of_lt' → a5U
namespace Go.Proofs.YthohephggmkeeaaGreatDoor
open Go Go.En Go.Pu
set_option maxRecDepth 4000
variable{w:a7B}
def sqc(q:Sq):List a7C:=[.int .u32 q.ll,.int .u32 q.ml,.int .u32 q.of]
def sqs(l:List Sq):List a7C:=l.flatMap sqc
theorem aKi(l:List Sq)(q:Sq):sqs (l++[q])=sqs l++sqc q:=by unfold sqs;rw[List.flatMap_append];simp
theorem aET(l:List Sq):(sqs l).length=l.length*3:=by
 induction l with
 |nil=>rfl
 |cons a l ih=>
  have:sqs (a::l)=sqc a++sqs l:=rfl;rw[this,a1O,ih,a1U];simp[sqc];omega
theorem UP.hd0 {lo hi:Nat}{l:List UInt8}{left:Int}{cs:List a7C}(h:UP w lo hi l left)(o:aT w hi cs):0<cs.length:=by
 obtain⟨v,h1,_⟩:=h;rw[afT o h1];simp
theorem P9.ownM {w':a7B}{o:Nat->TT}{a:Nat->Option Addr}{M:Nat->Prop}(h:P9 w o a)(hM:∀b,M b->∃cs,aT w b cs/\0<cs.length/\∀u,cs[0]?≠some (.int .u8 u))(x:aE w w' M):P9 w' o a:=λk hk=>by
 rcases h k hk with h|⟨b,h1,h2,h3⟩
 .exact .inl h
 .refine .inr ⟨b,h1,h2,h3.ext x λhb=> ?_⟩;obtain⟨cs,hc1,hc2,hc3⟩:=hM b hb;have e:=afT h3 hc1;subst e;cases hT:(o k).2 with
  |nil=>rw[hT]at hc2;simp[fe]at hc2
  |cons y r=>
   have:=(Vz (k:= .u8) (L:=(o k).2) (i:=0) (e:=y) (by rw[hT]<;>rfl)).1;exact hc3 _ this
theorem aLO{k3:K4}{t5:a7C}{n pt ps lo hi:Nat}{t:Nat->TT}{a:Nat->Option Addr}{st:Nat->Nat}{l:List UInt8}{left:Int}{w0:a7B}(hn:1<=n/\n<=98047)(hg:tY w0)(x0:aE w0 w aP)(oT:aT w pt (c6 t a))(hT:P9 w t a)(oS:aT w ps (s3L st))(hB:UP w lo hi l left)
 (h0:w0.heap.size<=pt) (h1:pt<lo) (h2:lo<=hi) (h3:hi<ps) (hG:Qd t st) (hl:l.length<=1000000) (hb1:left<=8*l.length) (hb2: -1000<=left)
 (hk:∀w' out,mH w' w.heap.size 3 out n (sqs (sqF t (aG l) n st left).1)->UP w' lo hi l (sqF t (aG l) n st left).2->aT w' pt (c6 t a)->P9 w' t a->aE w w' (λy=>y=hi∨y=ps)->k3 t5 (.pointer (some ⟨pt,0,none⟩)) (.pointer (some ⟨hi,0,none⟩)) out w'):
 lO k3 t5 (.int .i64 n) (.pointer (some ⟨pt,0,none⟩)) (.pointer (some ⟨hi,0,none⟩)) (.pointer (some ⟨ps,0,none⟩)) (.slice none 0 0) (.int .i64 n) (.int .i64 0) w:=by
 have hps:=oS.lt;have z0:=x0.size;have hTx:∀{w':a7B},aE w w' (λy=>y=hi∨y=ps)->P9 w' t a:=λx=>by
  obtain⟨cs,oc,hcs⟩:=hB.hd;refine hT.ownM (λb hb=> ?_) x;rcases hb with rfl|rfl
  .exact ⟨cs,oc,hB.hd0 oc,hcs⟩
  .exact ⟨_,oS,by simp[s3L],λu=>by simp[s3L]⟩
 unfold lO;refine aN.rule (λm (v:a7C×a7C) w'=>∃(i:Nat) (out:a7C) (qs:List Sq) (st':Nat->Nat) (left':Int),m=n-i/\i<n/\v=(out,.int .i64 i)/\qs.length=i/\mH w' w.heap.size 3 out i (sqs qs)/\aT w' ps (s3L st')/\UP w' lo hi l left'/\Qd t st'/\P9 w' t a/\
  sqF t (aG l) n st left=(qs++(sqF t (aG l) (n-i) st' left').1,(sqF t (aG l) (n-i) st' left').2)/\left-160*i<=left'/\left'<=left/\aE w w' (λy=>y=hi∨y=ps)) n
  ⟨0,_,[],st,left,rfl,by omega,rfl,rfl,mH.nil _ _ _,oS,hB,hG,hT,rfl,by simp,a6P _,aE.refl _ _⟩ ?_
 rintro m v w1 ⟨i,out,qs,st',left',rfl,hin,rfl,hqs,os1,oS1,hB1,hG1,hT1,hE,hc1,hc2,x1⟩;have d1:decide ((i:Int)<(n:Int))=true:=by simp;omega
 unfold Pv Pt;simp(disch:=omega)only[SV,d1];unfold Gi Gh Q4;refine JV λw2 o2 x2 s2=> ?_;obtain⟨hG0,hs0⟩:=hG1 0 (by omega);obtain⟨hGo,hso⟩:=hG1 1 (by omega);obtain⟨hGm,hsm⟩:=hG1 2 (by omega);have z1:=x1.size;have oT2:=(oT.ext x1 (by omega)).ext x2 (λh=>h);have oS2:=oS1.ext x2 (λh=>h);have hB2:=hB1.ext x2 (λ_ _ _ h=>h) h2;have hT2:=hT1.ext x2;have os2:=(os1.ne (a1J w1.heap.size)).ext x2 (λb _ h=>h);have x02:aE w0 w2 aP:=x0.trans (x1.seq (x2.mono λ_ _ h=>h.elim)) λb hb h=>by omega
 have t1:(1:Int).toNat=1:=rfl;have t2:(2:Int).toNat=2:=rfl;have t0:(0:Int).toNat=0:=rfl;obtain⟨pq,hpq⟩:∃pq,pq=w1.heap.size:=⟨_,rfl⟩;rw[<-hpq]at o2 os2⊢;have hpq2:ps<pq:=by have:=oS1.lt;omega
 have hpw:w.heap.size<=pq:=by omega
 have hnb:∀(w':a7B),UP w' lo hi l left->True:=λ_ _=>trivial;have xx2:aE w1 w2 (λy=>y=hi∨y=pq):=x2.mono λ_ _ h=>h.elim;have hc3: -90000000<=left'-200:=by omega
 have l2:=dX (off:=2) oT2 (by simp[c6]);have c2:=oS2.cell (off:=1);rw[aNM _ (by omega)]at c2;simp only[c6,a2H,a1F,a1C,a1G]at l2;simp(disch:=omega)only[SV,t0,t1,t2,l2,c2];obtain⟨b2,ht2⟩:=(hT2 1 (by omega)).tbl (by omega);obtain⟨cs2,oc2,hcs2⟩:=hB2.hd;have hhi2:=oc2.lt;refine(apK (k:=1) (T:=t 1) (s:=st' 1) (hg.ext x02) (by omega) ht2 hGo hso hB2 h2 hhi2 (by omega) (by omega) hl).mono ?_;rintro r u2 ⟨rfl,hBv2,xv2⟩;obtain⟨hv2,hw21,hw22⟩:=CC (k:=1) (by omega) hGo hso (aG l) left';have oTv2:=oT2.ext xv2 (by omega);have oSv2:=oS2.ext xv2 (by omega);have hTv2:=hT2.own oc2 (hB2.hd0 oc2) hcs2 xv2;have osv2:=os2.ext xv2 (λb h e=>by omega);have oqv2:=o2.ext xv2 (by omega);have x0v2:aE w0 u2 aP:=x02.trans xv2 λb hb h=>by omega
 refine H6 oqv2 rfl (by simp) λw3 o3 x3 s3=> ?_;simp only[a1E,a1D]at o3;have oT3:=oTv2.ext x3 (by omega);have oS3:=oSv2.ext x3 (by omega);have hT3:=hTv2.own oqv2 (by simp) (λu=>by simp) x3;have os3:=osv2.ext x3 (λb h e=>h.2 e);have hB3:=hBv2.ext x3 (λb _ _=>by omega) h2;have x03:aE w0 w3 aP:=x0v2.trans x3 λb hb h=>by omega
 have xx3:aE w1 w3 (λy=>y=hi∨y=pq):=(xx2.seq (xv2.mono λ_ _ h=> .inl h)).seq (x3.mono λ_ _ h=> .inr h);have l3:=dX (off:=4) oT3 (by simp[c6]);have c3:=oS3.cell (off:=2);rw[aNM _ (by omega)]at c3;simp only[c6,a2H,a1F,a1C,a1G]at l3;simp(disch:=omega)only[SV,t0,t1,t2,l3,c3];obtain⟨b3,ht3⟩:=(hT3 2 (by omega)).tbl (by omega);obtain⟨cs3,oc3,hcs3⟩:=hB3.hd;have hhi3:=oc3.lt;refine(apK (k:=2) (T:=t 2) (s:=st' 2) (hg.ext x03) (by omega) ht3 hGm hsm hB3 h2 hhi3 (by omega) (by omega) hl).mono ?_;rintro r u3 ⟨rfl,hBv3,xv3⟩;obtain⟨hv3,hw31,hw32⟩:=CC (k:=2) (by omega) hGm hsm (aG l) (vR 1 (t 1).2 (st' 1:Nat) (aG l) left').2;have oTv3:=oT3.ext xv3 (by omega);have oSv3:=oS3.ext xv3 (by omega);have hTv3:=hT3.own oc3 (hB3.hd0 oc3) hcs3 xv3;have osv3:=os3.ext xv3 (λb h e=>by omega);have oqv3:=o3.ext xv3 (by omega);have x0v3:aE w0 u3 aP:=x03.trans xv3 λb hb h=>by omega
 refine H6 oqv3 rfl (by simp) λw4 o4 x4 s4=> ?_;simp only[a1E,a1D]at o4;have oT4:=oTv3.ext x4 (by omega);have oS4:=oSv3.ext x4 (by omega);have hT4:=hTv3.own oqv3 (by simp) (λu=>by simp) x4;have os4:=osv3.ext x4 (λb h e=>h.2 e);have hB4:=hBv3.ext x4 (λb _ _=>by omega) h2;have x04:aE w0 w4 aP:=x0v3.trans x4 λb hb h=>by omega
 have xx4:aE w1 w4 (λy=>y=hi∨y=pq):=(xx3.seq (xv3.mono λ_ _ h=> .inl h)).seq (x4.mono λ_ _ h=> .inr h);have l4:=dX (off:=0) oT4 (by simp[c6]);have c4:=oS4.cell (off:=0);rw[aNM _ (by omega)]at c4;simp only[c6,a2H,a1F,a1C,a1G]at l4;simp(disch:=omega)only[SV,t0,t1,t2,l4,c4];obtain⟨b4,ht4⟩:=(hT4 0 (by omega)).tbl (by omega);obtain⟨cs4,oc4,hcs4⟩:=hB4.hd;have hhi4:=oc4.lt;refine(apK (k:=0) (T:=t 0) (s:=st' 0) (hg.ext x04) (by omega) ht4 hG0 hs0 hB4 h2 hhi4 (by omega) (by omega) hl).mono ?_;rintro r u4 ⟨rfl,hBv4,xv4⟩;obtain⟨hv4,hw41,hw42⟩:=CC (k:=0) (by omega) hG0 hs0 (aG l) (vR 2 (t 2).2 (st' 2:Nat) (aG l) (vR 1 (t 1).2 (st' 1:Nat) (aG l) left').2).2;have oTv4:=oT4.ext xv4 (by omega);have oSv4:=oS4.ext xv4 (by omega);have hTv4:=hT4.own oc4 (hB4.hd0 oc4) hcs4 xv4;have osv4:=os4.ext xv4 (λb h e=>by omega);have oqv4:=o4.ext xv4 (by omega);have x0v4:aE w0 u4 aP:=x04.trans xv4 λb hb h=>by omega
 refine H6 oqv4 rfl (by simp) λw5 o5 x5 s5=> ?_;simp only[a1E,a1D]at o5;have oT5:=oTv4.ext x5 (by omega);have oS5:=oSv4.ext x5 (by omega);have hT5:=hTv4.own oqv4 (by simp) (λu=>by simp) x5;have os5:=osv4.ext x5 (λb h e=>h.2 e);have hB5:=hBv4.ext x5 (λb _ _=>by omega) h2;have x05:aE w0 w5 aP:=x0v4.trans x5 λb hb h=>by omega
 have xx5:aE w1 w5 (λy=>y=hi∨y=pq):=(xx4.seq (xv4.mono λ_ _ h=> .inl h)).seq (x5.mono λ_ _ h=> .inr h);obtain⟨q,lf,hq⟩:∃q lf,v3 t (aG l) st' left'=(q,lf):=⟨_,_,rfl⟩;have hq1:(v3 t (aG l) st' left').1=q:=by rw[hq]
 have hq2:(v3 t (aG l) st' left').2=lf:=by rw[hq]
 have hlf:=aNW hG1 (aG l) left';rw[hq2]at hlf;have o5:aT w5 pq (sqc (v3 t (aG l) st' left').1):=o5;have hB5:UP w5 lo hi l (v3 t (aG l) st' left').2:=hB5;rw[hq1]at o5;rw[hq2]at hB5;have l5:=pG (off:=0) o5 (by simp[sqc]);simp only[sqc,a1F,a1C,a1G]at l5;simp(disch:=omega)only[SV,l5];refine Na (cells:= #[.int .u32 q.ll,.int .u32 q.ml,.int .u32 q.of]) (by decide) (by decide) (by kernel_rfl) λw6 o6 x6 s6=> ?_;have os6:=(os5.ext x6 (λb _ h=>h)).osl;have z5:=xx5.size;have z6:=x6.size;refine pS (m:=1) (news:=sqc q) os6 (o6.cl (off:=0) (l:=sqc q) (n:=1) rfl (λi hi=>by rw[a1Q]<;>rfl)) (by simp[sqc,one]) (by omega) (by omega) λv7 w7 o7 x7=> ?_;rw[<-aKi]at o7;have oT7:=(oT5.ext x6 (λh=>h)).ext x7 (by omega);have oS7:=(oS5.ext x6 (λh=>h)).ext x7 (by omega);have hw6:aE w1 w6 (λy=>y=hi∨y=ps):=(xx5.mono λb hb h=>by omega:aE w1 w5 (λy=>y=hi∨y=ps)).more x6;have hw7:aE w w7 (λy=>y=hi∨y=ps):=(x1.seq hw6).trans x7 λb hb h=>by omega
 have hB7:=(hB5.ext x6 (λ_ _ _ h=>h) h2).ext x7 (λb _ _=>by omega) h2;have hT6:=hT5.ext x6;have hT7:P9 w7 t a:=hTx hw7;by_cases hlast:i+1=n
 .have n1:((i:Int)==(n:Int)-1)=true:=by simp;omega
  simp(disch:=omega)only[SV,n1];have h1:n-i=1:=by omega
  rw[h1,aCC,hq]at hE;rw[hE]at hk;rw[hlast]at o7;exact hk _ _ o7 hB7 oT7 hT7 hw7
 .have n1:((i:Int)==(n:Int)-1)=false:=by simp;omega
  simp(disch:=omega)only[SV,n1];unfold nI;obtain⟨m,hm⟩:∃m,n-i=m+2:=⟨n-i-2,by omega⟩;have hm1:n-(i+1)=m+1:=by omega
  have hE2:=awL hG1 (aG l) m left';rw[hq]at hE2;simp only at hE2;obtain⟨g1,g2,g3⟩:=aaV (B:=aG l) (j:=3) (left:=lf) hG1;refine aJN oT7 hT7 oS7 hB7 h1 h2 h3 hG1 hl (by omega) (by omega) λw8 oS8 hB8 x8=> ?_;unfold Gg;have e1:(i:Int)+1=((i+1:Nat):Int):=by omega
  simp(disch:=omega)only[SV,e1];have hT8:P9 w8 t a:=hTx (hw7.seq x8);refine⟨n-(i+1),by omega,i+1,_,qs++[q],_,_,rfl,by omega,rfl,by rw[a1O,hqs]<;>rfl,o7.ext x8 (λb hb h=>by omega),oS8,hB8,g1,hT8, ?_,by omega,by omega,hw7.seq x8⟩;rw[hE,hm,hE2,hm1,a2R];rfl
end Go.Proofs.YthohephggmkeeaaGreatDoor
namespace Go.En
open Go
section
variable{P:Program}
theorem aTI{f:FuncId}{fn:Func}(hf:P.funcs[f]?=some fn)(hb:fn.body.isSome=true)(hn:(fn.name== "runtime.NumGoroutine")=false)(cap:Array a7C)(args:List a7C)(w:a7B):
 (Ps (.func (.func f) #[] cap) args).run P w= .ok (.enter f (args.toArray++cap)) w:=by
 unfold Ps Deferred.ofValue;simp only[pure_bind,invoke,Array.empty_append];exact aqP hf hb hn _ _
theorem aE.putObj (w:a7B)(l:Nat)(o:Obj):aE w (w.putObj l o) (λy=>y=l):=
 ⟨rfl,rfl,rfl,by simp,λb hb hM=>World.putObj_heap_other hM⟩
theorem aV4 {f:FuncId}(first captured:List a7C)(w:a7B):(aGz (.func f) first captured).run P w= .ok (.value (.func (.func f) first.toArray captured.toArray)) w:=by
 unfold aGz V Instr.makeFunc;simp[Sem.run_bind,Sem.run_pure]
end
end Go.En
namespace Go.Proofs.YthohephggmkeeaaGreatDoor
open Go Go.En Go.Pu
set_option maxRecDepth 4000
variable{w:a7B}
theorem aV6 {n bound pa po pm:Nat}{va ov:a7C}{all out:List UInt8}(oa:aT w pa [va])(oo:aT w po [ov])(om:aT w pm [.int .i64 (bound:Nat)])(ha:∃a c,va= .slice a all.length c)(ho:∃a c,ov= .slice a out.length c)
 (hb:out.length<=all.length) (h1:all.length<=100000000) (h2:n<=10000000000):
 aL pg kJ #[.int .i64 (n:Nat),.pointer (some ⟨pa,0,none⟩),.pointer (some ⟨po,0,none⟩),.pointer (some ⟨pm,0,none⟩)] w (λr w'=>r= .bool (decide (all.length-out.length+n<=bound))/\w'=w):=by
 obtain⟨a1,c1,rfl⟩:=ha;obtain⟨a2,c2,rfl⟩:=ho;refine amQ ?_;have ca:=oa.cell (off:=0);have co:=oo.cell (off:=0);have cm:=om.cell (off:=0);simp only[a1A]at ca co cm;have e1:((all.length:Nat):Int)-((out.length:Nat):Int)=((all.length-out.length:Nat):Int):=by omega
 have e2:((all.length-out.length:Nat):Int)+((n:Nat):Int)=((all.length-out.length+n:Nat):Int):=by omega
 simp(disch:=omega)only[TP,aiG,SV,ca,co,cm,e1,e2];congr 1;exact decide_eq_decide.2 (by omega)
theorem aVl{k2:a7C->a7C->a7C->a7C->a7C->a7C->a7C->a7C->a7C->a7B->Prop}{lv wv rv tv rm qv qn ix va:a7C}{pa x m:Nat}{all:List UInt8}{S:Nat->Prop}
 (oa:aT w pa [va]) (ha:BR w S 1 va all.length (all.map kH)) (hS:∀b,S b->b≠pa) (hSn:∀b,w.heap.size<=b->S b) (hx:0<x) (hxl:x<=all.length) (hal:all.length+m<=10000000) (hx2:x<4294967296) (hm:m<4294967296)
 (hk:∀va' w',aT w' pa [va']->BR w' S 1 va' (cpy x m all).length ((cpy x m all).map kH)->aE w w' (λy=>S y∨y=pa)->k2 lv wv rv tv (.pointer (some ⟨pa,0,none⟩)) rm qv qn ix w'):
 tI k2 lv wv rv tv (.pointer (some ⟨pa,0,none⟩)) rm (.int .u32 (x:Nat)) qv qn ix (.int .u32 (m:Nat)) (.int .u32 0) w:=by
 unfold tI;refine aN.rule (λn (t:a7C) w'=>∃(j:Nat) (va':a7C),n=m-j/\t= .int .u32 (j:Nat)/\j<=m/\aT w' pa [va']/\BR w' S 1 va' (cpy x j all).length ((cpy x j all).map kH)/\aE w w' (λy=>S y∨y=pa)) m
  ⟨0,va,by omega,rfl,by omega,oa,ha,aE.refl _ _⟩ ?_
 rintro n t w1 ⟨j,va',rfl,rfl,hj,oa,ha,x1⟩;by_cases hlt:j<m
 .have d1:decide ((j:Int)<(m:Int))=true:=decide_eq_true (by omega);obtain⟨L,hL⟩:∃L,L=cpy x j all:=⟨_,rfl⟩;have hLl:L.length=all.length+j:=by rw[hL,Qv]
  rw[<-hL]at ha;obtain⟨av,cv,rfl⟩:=ha.len;have z1:=x1.size;have cd:=(aH oa).cell (off:=0);simp only[a1A]at cd;have e1:((L.length:Nat):Int)-((x:Nat):Int)=((L.length-x:Nat):Int):=by omega
  have had:BR (dr w1) S 1 (.slice av L.length cv) L.length (L.map kH):=ha.ext (aE.dr w1 aP) λ_ _ h=>h;rcases ha.2 with⟨_,h0⟩|⟨ab,ac,rest,hav,hSb,ob,hcap,hcap2⟩
  .omega
  injection hav with hav1 _ hav2;subst hav1;have hcell:(dr w1).cell? ⟨ab,L.length-x,none⟩=some (.int .u8 ((L.getD (L.length-x) 0).toNat:Nat)):=by
   rw[(aH ob).cell,a1V (by rw[a1M];omega),a2F,a1I (by omega)];simp only[a2Q,a1P,a1I (show L.length-x<L.length by omega),a5H];rfl
  obtain⟨z,hz⟩:∃z,z=L.getD (L.length-x) 0:=⟨_,rfl⟩;rw[<-hz]at hcell;simp(disch:=omega)only[Nx,SV,d1,cd,e1,hcell];refine mO (cells:= #[.int .u8 (z.toNat:Nat)]) (by decide) (by decide) (by kernel_rfl) λw2 o2 x2 s2=> ?_;have oa2:aT w2 pa [.slice (some ⟨ab,0,none⟩) L.length cv]:=(aH oa).ext x2 λh=>h;have c2:=oa2.cell (off:=0);simp only[a1A]at c2;simp(disch:=omega)only[SV,c2];have lit:Bs w2 (.slice (some ⟨(dr w1).heap.size,0,none⟩) 1 1) [z]:=by
   refine⟨_,_,_,rfl,rfl,by omega,λ_=>⟨_,_,rfl,λi hi=> ?_⟩⟩;obtain rfl:i=0:=by omega
   exact o2.cell
  have z2:w2.heap.size=w1.heap.size+1:=s2;refine apB (had.ext x2 λ_ _ h=>h) lit (λb hb=>hSn b (by omega)) (by simp;omega) λv3 w3 o3 x3=> ?_;obtain⟨a3,c3,rfl⟩:=o3.len;have oa3:=oa2.ext x3 λh=>hS _ h rfl;refine JH oa3 rfl (by simp) λw4 o4 x4 s4=> ?_;have o34:=o3.ext x4 λb hb h=>hS _ hb h;have hc:cpy x (j+1) all=L++[z]:=by rw[aDg,hz,hL]
  refine⟨m-(j+1),by omega,j+1,_,rfl,by simp,by omega,o4,by rw[hc];exact o34, ?_⟩;have y1:aE w w2 (λy=>S y∨y=pa):=x1.trans ((aE.dr w1 aP).seq x2) λy hy h=>h.elim;exact(y1.trans x3 λy hy h=> .inl h).trans x4 λy hy h=> .inr h
 .have d1:decide ((j:Int)<(m:Int))=false:=decide_eq_false (by omega);obtain rfl:j=m:=by omega
  simp(disch:=omega)only[Nx,SV,d1];exact hk _ _ oa ha x1
def aUd(w:a7B)(base:Nat)(o:Except Int (List UInt8×Rp))(v:a7C):Prop:=match o with
 | .error e=>v= .tuple #[.slice none 0 0,.agg #[.int .u32 0,.int .u32 0,.int .u32 0],.int .i64 e]
 | .ok (a,r)=>∃x,v= .tuple #[x,Uw r,.int .i64 0]/\mH w base 1 x a.length (a.map kH)
structure aUc(w0 w:a7B)(p1 p9 pm pt pa:Nat)(ov lv va:a7C)(out lits all:List UInt8)(r:Rp)(bound:Nat):Prop where
 ext:aE w0 w (λy=>w0.heap.size<=y)
 o1:aT w p1 [ov]
 o9:aT w p9 (P8 r)
 om:aT w pm [.int .i64 (bound:Nat)]
 ot:aT w pt (P8 ⟨0,0,0⟩)
 oa:aT w pa [va]
 hal:BR w (λb=>w0.heap.size<=b/\b≠p1/\b≠p9/\b≠pm/\b≠pt/\b≠pa) 1 va all.length (all.map kH)
 lit:Bs w lv lits
 old:¬VH lv (λb=>w0.heap.size<=b)
 ok:agB r
 b1:out.length<=all.length
 b2:all.length<=out.length+bound
 lt:p1<w.heap.size/\p9<w.heap.size/\pm<w.heap.size/\pt<w.heap.size/\pa<w.heap.size
theorem aR1 (q:List Sq){i:Nat}(h:i<q.length)(rest:List a7C):((sqs q++rest).drop (i*3)).take 3=sqc q[i]:=by
 induction q generalizing i with
 |nil=>simp at h
 |cons s q ih=>
  cases i with
  |zero=>rfl
  |succ i=>
   have e:sqs (s::q)++rest=sqc s++(sqs q++rest):=by unfold sqs;rw[List.flatMap_cons,a2R]
   rw[e,show(i+1)*3=3+i*3 by omega,<-a3V,show(sqc s++(sqs q++rest)).drop 3=sqs q++rest from rfl];exact ih (by simpa using h)
theorem aRT{RR:a7C->a7B->Prop}{pt:Nat}{e:Int}(ot:aT w pt (P8 ⟨0,0,0⟩))(hR:∀w',aE w w' (λy=>y=pt)->RR (.tuple #[.slice none 0 0,.agg #[.int .u32 0,.int .u32 0,.int .u32 0],.int .i64 e]) w'):
 bF pg (dL 75 (.pointer (some ⟨pt,0,none⟩)) (.agg #[.int .u32 0,.int .u32 0,.int .u32 0])) w λ_u w=>LdR pg 75 (.pointer (some ⟨pt,0,none⟩)) w λr1=>RR (.tuple #[.slice none 0 0,r1,.int .i64 e]) w:=by
 refine dC ot rfl (by simp[one]) (by simp) λw1 o1 x1 s1=> ?_;refine jE o1 (by simp[aF]) ?_;exact hR _ x1
theorem aXT{ov lv qv:a7C}{out lits:List UInt8}{q:List Sq}{r:Rp}{win bound b0:Nat}(ho:Bs w ov out)(hl:Bs w lv lits)(hq:mH w b0 3 qv q.length (sqs q))(hr:agB r)
 (hqs:∀s∈q,s.ll<4294967296/\s.ml<4294967296/\s.of<4294967296) (h1:out.length<=2000000) (h2:lits.length<=1000000) (h3:bound<=131072) (h4:win<18446744073709551616) (h5:q.length<=1000000):
 aL pg Ro #[ov,lv,qv,Uw r,.int .u64 (win:Nat),.int .i64 (bound:Nat)] w (λv w'=>aUd w' w.heap.size (Jm win bound out.length q out lits r) v/\aE w w' aP):=by
 refine axU ?_;obtain⟨RR,hRR⟩:∃RR:a7C->a7B->Prop,RR=λv w'=>aUd w' w.heap.size (Jm win bound out.length q out lits r) v/\aE w w' aP:=⟨_,rfl⟩;rw[<-hRR];obtain⟨oav,ocv,rfl,hoc⟩:∃a c,ov= .slice a out.length c/\out.length<=c:=by
  obtain⟨a,n,c,rfl,hn,hc,-⟩:=id ho;rw[a1M]at hn;subst hn;exact⟨a,c,rfl,hc⟩
 obtain⟨qa,qc,rfl⟩:=hq.len;unfold aAP WY WX;refine bY λw1 o1 x1 s1=> ?_;refine bY λw2 o2 x2 s2=> ?_;refine bY λw3 o3 x3 s3=> ?_;refine iN λw4 o4 x4 s4=> ?_;obtain⟨p1,hp1⟩:∃p,p=w.heap.size:=⟨_,rfl⟩;obtain⟨p9,hp9⟩:∃p,p=w1.heap.size:=⟨_,rfl⟩;obtain⟨pm,hpm⟩:∃p,p=w2.heap.size:=⟨_,rfl⟩;obtain⟨pt,hpt⟩:∃p,p=w3.heap.size:=⟨_,rfl⟩;have o1:aT w1 p1 [.slice oav out.length ocv]:=by rw[hp1];exact o1
 have o2:aT w2 p9 (P8 r):=by rw[hp9];exact o2
 have o3:aT w3 pm [.int .i64 (bound:Nat)]:=by rw[hpm];exact o3
 have o4:aT w4 pt (P8 ⟨0,0,0⟩):=by rw[hpt];exact o4
 rw[<-hp1,<-hp9,<-hpm,<-hpt];have x14:aE w1 w4 aP:=(x2.seq x3).seq x4;have x04:aE w w4 aP:=x1.seq x14;have o1d:=o1.ext x14 λh=>h;have c1:=o1d.cell (off:=0);simp only[a1A]at c1;simp(disch:=omega)only[SV,c1];refine(LZ (ho.ext x04 (aR _)) (by omega)).mono ?_;rintro v5 w5 ⟨h5,x5⟩
 try simp(disch:=omega)only[SV,c1]
 refine aIB λw6 o6 x6 s6=> ?_;obtain⟨pa,hpa⟩:∃p,p=w5.heap.size:=⟨_,rfl⟩;have o6:aT w6 pa [.slice none 0 0]:=by rw[hpa];exact o6
 rw[<-hpa];obtain⟨va,vc,rfl⟩:=h5.len;refine JH o6 rfl (by simp) λw7 o7 x7 s7=> ?_;have z5:=x5.size;have z04:=x04.size;have x47:aE w4 w7 aP:=(x5.seq x6).trans x7 λy hy h=>by omega
 have x07:=x04.seq x47;have z7:=x47.size;have mk:=λ(a b:List a7C) (w:a7B)=>aV4 (P:=pg) (f:=kJ) a b w;simp(disch:=omega)only[SV,mk];have old:∀{v:a7C} {l:List UInt8},Bs w v l->¬VH v (λb=>w.heap.size<=b):=λh=>h.old;have A0:aUc w w7 p1 p9 pm pt pa (.slice oav out.length ocv) lv (.slice va out.length vc) out lits out r bound:=by
  refine⟨(aE.refl w _).trans x07 λy hy h=>h.elim,o1d.ext x47 λh=>h,((o2.ext x3 λh=>h).ext x4 λh=>h).ext x47 λh=>h,(o3.ext x4 λh=>h).ext x47 λh=>h,o4.ext x47 λh=>h,o7, ?_,hl.ext x07 (aR _),old hl,hr,a1J _,by omega,by omega⟩;refine⟨h5.1,h5.2.imp id ?_⟩;rintro⟨b,c,rest,e,hb,ob,hc⟩;have hb5:=ob.lt;exact⟨b,c,rest,e,by refine⟨?_, ?_, ?_, ?_, ?_, ?_⟩<;>omega,(ob.ext x6 λh=>h).ext x7 λh=>by omega,hc⟩
 obtain⟨x0,hx0⟩:∃x0,x0=Jm win bound out.length q out lits r:=⟨_,rfl⟩;unfold J8 J7 WW;simp(disch:=omega)only[SV];unfold B0;refine aN.rule (λn (t:a7C×a7C) w'=>∃(i:Nat) (lv' va':a7C) (lits' all':List UInt8) (r':Rp),n=q.length-i/\t=(lv',.int .i64 (i:Nat))/\i<=q.length/\lits'.length<=lits.length/\
  aUc w w' p1 p9 pm pt pa (.slice oav out.length ocv) lv' va' out lits' all' r' bound/\Jm win bound out.length (q.drop i) all' lits' r'=x0) q.length
  ⟨0,lv,_,lits,out,r,by omega,rfl,by omega,by omega,A0,by rw[hx0]<;>rfl⟩ ?_
 rintro n t W ⟨i,lv',va',lits',all',r',rfl,rfl,hi,hll,H,hx⟩;obtain⟨la,lc,rfl,hlc⟩:∃a c,lv'= .slice a lits'.length c/\lits'.length<=c:=by
  obtain⟨a,n,c,rfl,hn,hc,-⟩:=id H.lit;rw[a1M]at hn;subst hn;exact⟨a,c,rfl,hc⟩
 obtain⟨aa,ac,rfl⟩:=H.hal.len;have zW:=H.ext.size
 have err:∀{W':a7B} {e:Int},aT W' pt (P8 ⟨0,0,0⟩)->aE w W' (λy=>w.heap.size<=y)->x0= .error e→
     bF pg (dL 75 (.pointer (some ⟨pt,0,none⟩)) (.agg #[.int .u32 0,.int .u32 0,.int .u32 0])) W' λ_u w=>LdR pg 75 (.pointer (some ⟨pt,0,none⟩)) w λr1=>RR (.tuple #[.slice none 0 0,r1,.int .i64 e]) w:=by
  intro W' e ot x he;refine aRT ot λw' xt=> ?_;rw[hRR,<-hx0,he];exact⟨rfl,((aE.refl w aP).trans x λy hy h=>by omega).trans xt λy hy h=>by omega⟩
 have rcl:∀(v:a7C) (w:a7B),(Ps (.func (.func kJ) #[] #[.pointer (some ⟨pa,0,none⟩),.pointer (some ⟨p1,0,none⟩),.pointer (some ⟨pm,0,none⟩)]) [v]).run pg w=
     .ok (.enter kJ #[v,.pointer (some ⟨pa,0,none⟩),.pointer (some ⟨p1,0,none⟩),.pointer (some ⟨pm,0,none⟩)]) w:=λv w=>aTI (P:=pg) (f:=kJ) Tryz.func89 rfl (by kernel_rfl) _ _ w
 have room:∀{W':a7B} (n:Nat),aT W' pa [.slice aa all'.length ac]->aT W' p1 [.slice oav out.length ocv]->aT W' pm [.int .i64 (bound:Nat)]->n<=10000000000->∀{K:a7C->a7B->Prop},K (.bool (decide (all'.length-out.length+n<=bound))) W'→
     aL pg kJ #[.int .i64 (n:Nat),.pointer (some ⟨pa,0,none⟩),.pointer (some ⟨p1,0,none⟩),.pointer (some ⟨pm,0,none⟩)] W' K:=by
  intro W' n oa o1 om hn K hK;refine(aV6 oa o1 om ⟨_,_,rfl⟩ ⟨_,_,rfl⟩ H.b1 (by have:=H.b2;omega) hn).mono ?_;rintro v w' ⟨rfl,rfl⟩;exact hK
 have hSn:∀{W':a7B},W.heap.size<=W'.heap.size->∀b,W'.heap.size<=b->w.heap.size<=b/\b≠p1/\b≠p9/\b≠pm/\b≠pt/\b≠pa:=λhs b hb=>by
  obtain⟨h1,h2,h3,h4,h5⟩:=H.lt;refine⟨?_, ?_, ?_, ?_, ?_, ?_⟩<;>omega
 by_cases hlt:i<q.length
 .have d1:decide ((i:Int)<(q.length:Int))=true:=decide_eq_true (by omega);obtain⟨s,hs⟩:∃s,s=q[i]:=⟨_,rfl⟩;obtain⟨hs1,hs2,hs3⟩:=hqs s (hs▸a2P hlt);rw[a2J hlt,<-hs]at hx;unfold Jm at hx;rcases hq.2 with⟨_,h0⟩|⟨qb,qcap,rest,hqv,hqb,ob,hqc,hqc2⟩
  .omega
  injection hqv with hq1 _ hq2;subst hq1;have hqlt:=ob.lt;have oB:aT W qb (sqs q++rest):=ob.ext H.ext λh=>by omega
  have lS:(cK 134 (.pointer (some ⟨qb,i*3,none⟩))).run pg W= .ok (.value (.agg #[.int .u32 (s.ll:Nat),.int .u32 (s.ml:Nat),.int .u32 (s.of:Nat)])) W:=by
   have:=pG (off:=i*3) oB (by rw[a1O,aET];omega);rw[aR1 q hlt,<-hs]at this;exact this
  unfold J6 J5;simp(disch:=omega)only[SV,d1];unfold ES ER Ny;simp(disch:=omega)only[SV,lS];refine JV λw1 o1 x1 s1=> ?_;obtain⟨ps,hps⟩:∃p,p=W.heap.size:=⟨_,rfl⟩;rw[<-hps]at o1⊢;refine aAo o1 rfl (by simp[one]) (by simp) λw2 o2 x2 s2=> ?_;have o2:aT w2 ps [.int .u32 (s.ll:Nat),.int .u32 (s.ml:Nat),.int .u32 (s.of:Nat)]:=o2;have xW2:aE W w2 aP:=x1.trans x2 λy hy h=>by omega
  have c0:=o2.cell (off:=0);simp only[a1A]at c0;by_cases hgt:lits'.length<s.ll
  .rw [if_pos hgt]at hx;have d2:decide ((lits'.length:Int)<(s.ll:Int))=true:=decide_eq_true (by omega);simp(disch:=omega)only[SV,c0,d2];exact err (H.ot.ext xW2 λh=>h) (H.ext.trans xW2 λy hy h=>h.elim) hx.symm
  .rw [if_neg hgt]at hx;have d2:decide ((lits'.length:Int)<(s.ll:Int))=false:=decide_eq_false (by omega);have l9:(cK 75 (.pointer (some ⟨p9,0,none⟩))).run pg w2= .ok (.value (Uw r')) w2:=fG (off:=0) (H.o9.ext xW2 λh=>h) (by simp);have l2:(cK 134 (.pointer (some ⟨ps,0,none⟩))).run pg w2= .ok (.value (.agg #[.int .u32 (s.ll:Nat),.int .u32 (s.ml:Nat),.int .u32 (s.of:Nat)])) w2:=pG (off:=0) o2 (by simp);simp(disch:=omega)only[SV,c0,d2,l9,l2];refine(aOF H.ok hs3).mono ?_;rintro v w3 ⟨rfl,x3⟩;have xW3:aE W w3 aP:=xW2.seq x3
   have alR:∀{W':a7B} {K:a7C->a7B->Prop} (n:Rp),(∀w',aT w' W'.heap.size (P8 n)->aE W' w' aP->w'.heap.size=W'.heap.size+1->K undef w')→
       ∀{w1:a7B},aT w1 W'.heap.size (P8 ⟨0,0,0⟩)->aE W' w1 aP->w1.heap.size=W'.heap.size+1->bF pg (dL 75 (.pointer (some ⟨W'.heap.size,0,none⟩)) (Uw n)) w1 K:=by
    intro W' K n hK w1 oo xy sz;refine dC oo rfl (by simp[one]) (by simp) λw' o' x' s'=> ?_;exact hK w' o' (xy.trans x' λy hy h=>by omega) (by omega)
   cases hoff:HL r' s.ll s.of with
   |error e=>
    rw[hoff]at hx;have he:(e !=0)=true:=by simpa using aD0 hoff
    have o2':=H.ot.ext xW3 λh=>h;unfold agO;simp(disch:=omega)only[SV,he];refine iN λw4 o4 x4 s4=> ?_;refine alR ⟨0,0,0⟩ (λw5 o5 x35 s5=> ?_) o4 x4 s4;have x5:=xW3.seq x35
    try simp(disch:=omega)only[SV,he]
    exact err (H.ot.ext x5 λh=>h) (H.ext.trans x5 λy hy h=>h.elim) hx.symm
   |ok p=>
    obtain⟨x,r1⟩:=p;obtain⟨hr1,hxp,hxl⟩:=aHx H.ok hs3 hoff;rw[hoff]at hx;simp only at hx;unfold agO;have he:((0:Int) !=0)=false:=rfl;simp(disch:=omega)only[SV,he];refine iN λw4 o4 x4 s4=> ?_;obtain⟨pr,hpr⟩:∃p,p=w3.heap.size:=⟨_,rfl⟩;refine alR r1 (λw5 o5 x35 s5=> ?_) o4 x4 s4;have x5:=xW3.seq x35;rw[<-hpr]at o5⊢;have oa5:=H.oa.ext x5 λh=>h;have ca:=oa5.cell (off:=0);simp only[a1A]at ca;have hb1:=H.b1;have hb2:=H.b2;have e1:((all'.length:Nat):Int)+((s.ll:Nat):Int)=((all'.length+s.ll:Nat):Int):=by omega
    by_cases hc:all'.length+s.ll<x∨win<x
    .rw [if_pos hc]at hx;by_cases hc1:all'.length+s.ll<x
     .have d3:decide (((all'.length+s.ll:Nat):Int)<(x:Int))=true:=decide_eq_true (by omega);simp(disch:=omega)only[SV,he,ca,e1,d3];exact err (H.ot.ext x5 λh=>h) (H.ext.trans x5 λy hy h=>h.elim) hx.symm
     .have d3:decide (((all'.length+s.ll:Nat):Int)<(x:Int))=false:=decide_eq_false (by omega);have d4:decide ((win:Int)<(x:Int))=true:=decide_eq_true (by omega);simp(disch:=omega)only[SV,he,ca,e1,d3,d4];exact err (H.ot.ext x5 λh=>h) (H.ext.trans x5 λy hy h=>h.elim) hx.symm
    .rw [if_neg hc]at hx;have d3:decide (((all'.length+s.ll:Nat):Int)<(x:Int))=false:=decide_eq_false (by omega);have d4:decide ((win:Int)<(x:Int))=false:=decide_eq_false (by omega);have oS:=(o2.ext x3 λh=>h).ext x35 λh=>h;have cm:=oS.cell (off:=1);simp only[a1A,a1B]at cm;have e2:((s.ll:Nat):Int)+((s.ml:Nat):Int)=((s.ll+s.ml:Nat):Int):=by omega
     simp(disch:=omega)only[SV,he,ca,e1,d3,d4,cm,e2,rcl,aBm];refine room _ oa5 (H.o1.ext x5 λh=>h) (H.om.ext x5 λh=>h) (by omega) ?_;by_cases hb:bound<all'.length-out.length+s.ll+s.ml
     .rw [if_pos hb]at hx;have d5:decide (all'.length-out.length+(s.ll+s.ml)<=bound)=false:=decide_eq_false (by omega);simp(disch:=omega)only[SV,d5];exact err (H.ot.ext x5 λh=>h) (H.ext.trans x5 λy hy h=>h.elim) hx.symm
     rw[if_neg hb]at hx;have d5:decide (all'.length-out.length+(s.ll+s.ml)<=bound)=true:=decide_eq_true (by omega);have cad:=(aH oa5).cell (off:=0);simp only[a1A]at cad;simp(disch:=omega)only[SV,d5,cad];have hlt':=H.lt;have zW2:=xW2.size;have z3:=x3.size;have z5:=x5.size;have psl:=o2.lt;have ps2:ps<w3.heap.size:=by omega
     have hT:BR (dr w5) (λb=>(w.heap.size<=b/\b≠p1/\b≠p9/\b≠pm/\b≠pt/\b≠pa)/\b≠ps/\b≠pr) 1 (.slice aa all'.length ac) all'.length (all'.map kH):=
      ((OA H.hal λb hb hw=>⟨hb,by omega,by omega⟩).ext x5 λ_ _ h=>h).ext (aE.dr w5 aP) λ_ _ h=>h
     have hlit5:Bs (dr w5) (.slice la lits'.length lc) lits':=(H.lit.ext x5 (aR _)).ext (aE.dr w5 aP) (aR _);have htk:Bs (dr w5) (.slice (dI la lc 0 1) (s.ll-0) (lc-0)) (lits'.take s.ll):=by
      have:=Sl.take' hlit5 (k:=s.ll) (by omega)
      rwa [<-a4R]at this
     have hS5:∀b,(dr w5).heap.size<=b->(w.heap.size<=b/\b≠p1/\b≠p9/\b≠pm/\b≠pt/\b≠pa)/\b≠ps/\b≠pr:=λb hb=>by
      have hb:w5.heap.size<=b:=hb;refine⟨⟨?_, ?_, ?_, ?_, ?_, ?_⟩, ?_, ?_⟩<;>omega
     refine apB hT htk hS5 (by rw[a1N];omega) λv6 w6 h6 x6=> ?_;have x56:=(aE.dr w5 _).seq x6;obtain⟨a6,c6',rfl⟩:=h6.len;have oa6:=(aH oa5).ext x6 λh=>h.1.2.2.2.2.2 rfl;refine JH oa6 rfl (by simp) λw7 o7 x7 s7=> ?_;have o7:aT w7 pa [.slice a6 (all'++lits'.take s.ll).length c6']:=o7;have oR7:=(o5.ext x56 λh=>h.2.2 rfl).ext x7 λh=>by omega
     have l21:(cK 75 (.pointer (some ⟨pr,0,none⟩))).run pg (dr w7)= .ok (.value (Uw r1)) (dr w7):=fG (off:=0) (aH oR7) (by simp);simp(disch:=omega)only[SV,l21];have o97:=((H.o9.ext x5 λh=>h).ext x56 λh=>h.1.2.2.1 rfl).ext x7 λh=>by omega
     refine dC (aH o97) rfl (by simp[one]) (by simp) λw8 o8 x8 s8=> ?_;have o8:aT w8 p9 (P8 r1):=o8;have x78:=(aE.dr w7 _).seq x8;have oS8:=((oS.ext x56 λh=>h.2.1 rfl).ext x7 λh=>by omega).ext x78 λh=>by omega
     have cm8:=oS8.cell (off:=1);simp only[a1A,a1B]at cm8;simp(disch:=omega)only[SV,cm8];have z56:=x56.size;have z78:=x78.size;have z7':=x7.size;have h8:=(h6.ext x7 λb hb h=>hb.1.2.2.2.2.2 h).ext x78 λb hb h=>hb.1.2.2.1 h;have hlen:(all'++lits'.take s.ll).length=all'.length+s.ll:=by rw[a1O,a1N];omega
     refine aVl (all:=all'++lits'.take s.ll) (o7.ext x78 λh=>by omega) h8 (λb hb h=>hb.1.2.2.2.2.2 h) (λb hb=>hS5 b (show w5.heap.size<=b by omega)) hxp (by omega) (by omega) hxl hs2 λva9 w9 oa9 ha9 x9=> ?_;unfold EP;have e3:((i:Nat):Int)+1=((i+1:Nat):Int):=by omega
     simp(disch:=omega)only[SV,e3];have z9:=x9.size;have keep:∀{p:Nat} {cs:List a7C},aT w5 p cs->p≠pa->p≠p9->(¬((w.heap.size<=p/\p≠p1/\p≠p9/\p≠pm/\p≠pt/\p≠pa)/\p≠ps/\p≠pr))->aT w9 p cs:=λo ha h9 hT=>
      (((o.ext x56 hT).ext x7 ha).ext x78 h9).ext x9 λh=>h.elim hT ha
     have xall:aE W w9 (λy=>w.heap.size<=y):=by
      have y1:aE W w5 (λy=>w.heap.size<=y):=(aE.refl W _).trans x5 λy hy h=>h.elim;have y2:=y1.trans x56 λy hy h=>h.1.1;have y3:=y2.trans x7 λy hy (h:y=pa)=>(by omega:w.heap.size<=y);have y4:=y3.trans x78 λy hy (h:y=p9)=>(by omega:w.heap.size<=y);exact y4.trans x9 λy hy h=>h.elim (λh=>h.1.1) λh=>by omega
     have hdr:Bs W (.slice (dI la lc s.ll 1) (lits'.length-s.ll) (lc-s.ll)) (lits'.drop s.ll):=by
      have:=Sl.drop' H.lit (k:=s.ll) (by omega)
      rwa [<-a3M]at this
     have hdo:¬VH (.slice (dI la lc s.ll 1) (lits'.length-s.ll) (lc-s.ll)) (λb=>w.heap.size<=b):=by
      rcases a3J (lits'.length-s.ll)with h0|h0
      .rw [h0];exact At.nil _ qb _ _ λh=>by omega
      .obtain ⟨ba,of,e⟩:∃b o,la=some ⟨b,o,none⟩:=by
        obtain⟨a,n,c,e,hn,hc,hh⟩:=id H.lit;injection e with e1 e2 e3;obtain⟨b,o,h,_⟩:=hh (by rw[a1M]at hn;omega);exact⟨b,o,by rw[e1,h]⟩
       subst e;exact aF8 H.old (by omega) _
     refine⟨q.length-(i+1),by omega,i+1,_,va9,lits'.drop s.ll,_,r1,rfl,rfl,by omega,by rw[a1L];omega, ?_,hx⟩;refine⟨H.ext.trans xall λy hy h=>h,keep (H.o1.ext x5 λh=>h) (by omega) (by omega) λh=>h.1.2.1 rfl,(o8.ext x9 λh=>h.elim (λh=>h.1.2.2.1 rfl) λh=>by omega),keep (H.om.ext x5 λh=>h) (by omega) (by omega) λh=>h.1.2.2.2.1 rfl,
      keep (H.ot.ext x5 λh=>h) (by omega) (by omega) λh=>h.1.2.2.2.2.1 rfl,oa9,OA ha9 λb hb _=>hb.1,hdr.ext xall hdo,hdo,hr1,by rw[Qv];omega,by rw[Qv];omega,by omega⟩
 .have d1:decide ((i:Int)<(q.length:Int))=false:=decide_eq_false (by omega);obtain rfl:i=q.length:=by omega
  rw[a6H]at hx;unfold Jm at hx;simp(disch:=omega)only[EP,tI,Ny,ER,ES,J5,J6,SV,d1];unfold Nw;simp(disch:=omega)only[SV,rcl,aBm];refine room _ H.oa H.o1 H.om (by omega) ?_;by_cases hb:all'.length-out.length+lits'.length<=bound
  .rw [if_neg (by omega)]at hx;have d2:decide (all'.length-out.length+lits'.length<=bound)=true:=decide_eq_true hb;have cd:=(aH H.oa).cell (off:=0);simp only[a1A]at cd;simp(disch:=omega)only[SV,d2,cd];have hb2:=H.b2;refine apB (H.hal.ext (aE.dr W aP) λ_ _ h=>h) (H.lit.ext (aE.dr W aP) (aR _)) (hSn (a1J _)) (by omega) λv2 w2 h2 x2=> ?_;have x2':aE W w2 (λb=>w.heap.size<=b/\b≠p1/\b≠p9/\b≠pm/\b≠pt/\b≠pa):=(aE.dr W _).seq x2;have l9d:(cK 75 (.pointer (some ⟨p9,0,none⟩))).run pg (dr W)= .ok (.value (Uw r')) (dr W):=fG (off:=0) (aH H.o9) (by simp);have l92:(cK 75 (.pointer (some ⟨p9,0,none⟩))).run pg w2= .ok (.value (Uw r')) w2:=fG (off:=0) (H.o9.ext x2' λh=>h.2.2.1 rfl) (by simp);simp(disch:=omega)only[SV,l9d,l92];refine dC (H.ot.ext x2' λh=>h.2.2.2.2.1 rfl) rfl (by simp[one]) (by simp) λw3 o3 x3 s3=> ?_
   try simp(disch:=omega)only[SV]
   refine jE o3 (by simp[aF]) ?_;rw[hRR,<-hx0,<-hx];have z2:=x2'.size;have hpt':=H.lt.2.2.2.1;have xa:aE w w3 aP:=(((aE.refl w aP).trans H.ext λy hy h=>by omega).trans x2' λy hy h=>by omega).trans x3 λy hy h=>by omega
   refine⟨⟨v2,rfl, ?_⟩,xa⟩;have h3:BR w3 (λb=>w.heap.size<=b/\b≠p1/\b≠p9/\b≠pm/\b≠pt/\b≠pa) 1 v2 (all'++lits').length ((all'++lits').map kH):=h2.ext x3 λb hb h=>hb.2.2.2.2.1 h;refine⟨h3.1,h3.2.imp id ?_⟩;rintro⟨b,c,rest,e,hb,ob,hc⟩;exact⟨b,c,rest,e,hb.1,ob,hc⟩
  .rw [if_pos (by omega)]at hx;have d2:decide (all'.length-out.length+lits'.length<=bound)=false:=decide_eq_false hb;simp(disch:=omega)only[SV,d2];exact err H.ot H.ext hx.symm
end Go.Proofs.YthohephggmkeeaaGreatDoor
namespace Go.En
open Go
section
variable{P:Program}{w:a7B}{t e:TypeId}
theorem aDo(s:ByteArray)(w:a7B):(Builtin.firstCells 1 s.size (.string s)).run P w= .ok ((aM s).map kH).toArray w:=by
 simp only[Builtin.firstCells,Sem.run_pure];rw[show(s.extract 0 s.size)=s from Fs (by rw[cX];simp[a1T,aI])];congr 1;apply a6V;simp[aM,kH]
theorem aKm{S:Nat->Prop}{n:Nat}{i:TypeInfo}{z:a7C}{ty t2:TypeId}(hu:P.underlying t=some (.slice e))(hu2:P.underlying t2=some .string)(hi:P.info? e=some i)(hsz:i.size=1)(hz:i.zero=some z)(hzs:z.cells.size=1)
 {v:a7C} {s:ByteArray} {l:List a7C} (h:BR w S 1 v n l) (hb:∀b,w.heap.size<=b->S b)
 (hn:n+s.size<=9223372036854775807) (hbytes:(n+s.size)*i.bytes<=140737488355328) (hpos:i.bytes≠0)
 {K:a7C->a7B->Prop} (hk:∀v' w',BR w' S 1 v' (n+s.size) (l++(aM s).map kH)->aE w w' S->K v' w'):bF P (yM .append #[t,t2] ty [v,.string s]) w K:=
 aBo (o:=none) hu hu2 hi hsz hz hzs h (by simp[Builtin.lenOf]) (λw' _=>aDo s w') (by rw[a1M,aI,a2Z]) (λy hy=>by
  obtain⟨c,_,rfl⟩:=a4J.1 hy;rfl) hb hn hbytes hpos λv' w' a b _=>hk v' w' a b
end
end Go.En
namespace Go.Proofs.YthohephggmkeeaaGreatDoor
open Go Go.En Go.Pu
set_option maxRecDepth 4000
variable{K RR:a7C->a7B->Prop}{S:Nat->Prop}{all l:List UInt8}{b x y:ByteArray}{bound d dict i n p ph pr pt qb qc qn win:Nat}{e:Int}{h z:FH}{qcs:List a7C}{r:Rp}{s:Sq}{t:Nat->TT}{w:a7B}
theorem apT{v:a7C}{s:ByteArray}(h:BR w S 1 v l.length (l.map kH))(hb:∀b,w.heap.size<=b->S b)(hn:l.length+s.size<=100000000)
 (hk:∀v' w',BR w' S 1 v' (l++aM s).length ((l++aM s).map kH)->aE w w' S->K v' w'):bF pg (yM .append #[22,9] 22 [v,.string s]) w K:=by
 refine aKm (i:=Tryz.t5) Tryz.underlying22 Tryz.underlying9 T2 rfl rfl rfl h hb (by omega) (by rw[show Tryz.t5.bytes=1 from rfl];omega) (by decide) λv' w' o x=>hk v' w' ?_ x;rw[a1O,aI,a2I];exact o
theorem ap1 {v:a7C}{z:UInt8}{cs:List a7C}(h:BR w S 1 v l.length (l.map kH))(o:aT w p (kH z::cs))(hb:∀b,w.heap.size<=b->S b)(hn:l.length<=10000000)
 (hk:∀v' w',BR w' S 1 v' (l++[z]).length ((l++[z]).map kH)->aE w w' S->K v' w'):bF pg (yM .append #[22,22] 22 [v,.slice (some ⟨p,0,none⟩) 1 1]) w K:=by
 have lit:Bs w (.slice (some ⟨p,0,none⟩) 1 1) [z]:=by
  refine⟨some ⟨p,0,none⟩,1,1,rfl,rfl,a1J 1,λ_=>⟨_,_,rfl,λi hi=> ?_⟩⟩;obtain rfl:i=0:=by simpa using hi
  exact o.cell
 exact apB h lit hb (by simp;omega) hk
def aSO:Except Int (List UInt8×Rp)->a7C
 | .error e=> .tuple #[.string ⟨#[]⟩,Uw ⟨0,0,0⟩,.int .i64 e]
 | .ok (a,r)=> .tuple #[.string ⟨a.toArray⟩,Uw r,.int .i64 0]
structure axH(w0 w:a7B)(p9 pt pn:Nat)(va:a7C)(all:List UInt8)(r:Rp)(m bound:Nat):Prop where
 ext:aE w0 w (λy=>w0.heap.size<=y)
 o9:aT w p9 (P8 r)
 ot:aT w pt (P8 ⟨0,0,0⟩)
 on:aT w pn (P8 ⟨0,0,0⟩)
 hal:BR w (λb=>w0.heap.size<=b/\b≠p9/\b≠pt/\b≠pn) 1 va all.length (all.map kH)
 ok:agB r
 b1:m<=all.length
 b2:all.length<=m+bound
 lt:p9<w.heap.size/\pt<w.heap.size/\pn<w.heap.size
theorem aOP{k2:a7C->a7C->a7C->a7C->a7C->a7C->a7C->a7C->a7C->a7C->a7B->Prop}{ov lv wv mv rv tv nv va:a7C}{x:Nat}
 (oq:aT w qb qcs) (hqi:(qcs.drop (i*3)).take 3=sqc s) (hi:i<qn) (hqS:¬S qb) (ha:BR w S 1 va all.length (all.map kH)) (hSn:∀b,w.heap.size<=b->S b) (hx:0<x) (hxl:x<=all.length) (hal:all.length+s.ml<=10000000) (hx2:x<4294967296) (hm:s.ml<4294967296)
 (hk:∀va' w',BR w' S 1 va' (cpy x s.ml all).length ((cpy x s.ml all).map kH)->aE w w' S->k2 ov lv (.slice (some ⟨qb,0,none⟩) qn qc) wv mv rv tv nv va' (.int .i64 (i:Nat)) w'):
 F2 k2 ov lv (.slice (some ⟨qb,0,none⟩) qn qc) wv mv rv tv nv va (.int .i64 (i:Nat)) (.int .u32 (x:Nat)) (.int .u32 0) w:=by
 unfold F2;refine aN.rule (λn (t:a7C×a7C) w'=>∃(j:Nat) (va':a7C),n=s.ml-j/\t=(va',.int .u32 (j:Nat))/\j<=s.ml/\BR w' S 1 va' (cpy x j all).length ((cpy x j all).map kH)/\aE w w' S) s.ml
  ⟨0,va,by omega,rfl,by omega,ha,aE.refl _ _⟩ ?_
 rintro n t w1 ⟨j,va',rfl,rfl,hj,ha,x1⟩;have cml:w1.cell? ⟨qb,i*3+1,none⟩=some (.int .u32 (s.ml:Nat)):=by
  rw[(oq.ext x1 hqS).cell];have:((qcs.drop (i*3)).take 3)[1]?=some (.int .u32 (s.ml:Nat)):=by rw[hqi]<;>rfl
  rwa [a2L (by omega),a4I]at this
 have ti:((i:Nat):Int).toNat=i:=a1H _;have z1:=x1.size;unfold avQ;by_cases hlt:j<s.ml
 .have d1:decide ((j:Int)<(s.ml:Int))=true:=decide_eq_true (by omega);obtain⟨L,hL⟩:∃L,L=cpy x j all:=⟨_,rfl⟩;have hLl:L.length=all.length+j:=by rw[hL,Qv]
  rw[<-hL]at ha;obtain⟨av,cv,rfl⟩:=ha.len;have e1:((L.length:Nat):Int)-((x:Nat):Int)=((L.length-x:Nat):Int):=by omega
  have t1:((L.length-x:Nat):Int).toNat=L.length-x:=a1H _;rcases ha.2 with⟨_,h0⟩|⟨ab,ac,rest,hav,hSb,ob,hcap,hcap2⟩
  .omega
  injection hav with hav1 _ hav2;subst hav1;have hcell:w1.cell? ⟨ab,L.length-x,none⟩=some (.int .u8 ((L.getD (L.length-x) 0).toNat:Nat)):=by
   rw[ob.cell,a1V (by rw[a1M];omega),a2F,a1I (by omega)];simp only[a2Q,a1P,a1I (show L.length-x<L.length by omega),a5H];rfl
  obtain⟨z,hz⟩:∃z,z=L.getD (L.length-x) 0:=⟨_,rfl⟩;rw[<-hz]at hcell;simp(disch:=omega)only[SV,ti,cml,d1,e1,t1,hcell];refine mO (cells:= #[.int .u8 (z.toNat:Nat)]) (by decide) (by decide) (by kernel_rfl) λw2 o2 x2 s2=> ?_;refine ap1 (ha.ext x2 λ_ _ h=>h) o2 (λb hb=>hSn b (by omega)) (by omega) λv3 w3 o3 x3=> ?_;have hc:cpy x (j+1) all=L++[z]:=by rw[aDg,hz,hL]
  have e3:((j:Nat):Int)+1=((j+1:Nat):Int):=by omega
  have w3':IntKind.u32.wrap ((j+1:Nat):Int)=((j+1:Nat):Int):=aGI (by omega) (by omega);simp(disch:=omega)only[SV,e3,w3'];exact⟨s.ml-(j+1),by omega,j+1,_,rfl,rfl,by omega,by rw[hc];exact o3,(x1.trans x2 λy hy h=>h.elim).trans x3 λy hy h=>h⟩
 .have d1:decide ((j:Int)<(s.ml:Int))=false:=decide_eq_false (by omega);obtain rfl:j=s.ml:=by omega
  simp(disch:=omega)only[SV,ti,cml,d1];exact hk _ _ ha x1
theorem aOY{kn:a7C->a7C->a7C->a7C->a7C->a7C->a7C->a7C->a7C->a7C->a7B->Prop}{w0 w1:a7B}{p9 pn m x:Nat}{ov:a7C}{aa:Option Addr}{ac:Nat}{r1:Rp}
 (H:axH w0 w1 p9 pt pn (.slice aa all.length ac) all r m bound) (hal:BR w1 (λb=>(w0.heap.size<=b/\b≠p9/\b≠pt/\b≠pn)/\b≠p) 1 (.slice aa all.length ac) all.length (all.map kH)) (hov:∃z:ByteArray,ov= .string z/\z.size=m) (hm:m<=2000000) (hbd:bound<=131072) (hy:y.size<=1000000) (hlt0:w0.heap.size<=p9/\w0.heap.size<=pt/\w0.heap.size<=pn/\w0.heap.size<=p) (hne:p9≠pt/\p9≠pn/\pt≠pn/\p≠p9)
 (oq:aT w1 qb qcs) (hqi:(qcs.drop (i*3)).take 3=sqc s) (hi:i<qn) (hqb:qb<w0.heap.size) (oR:aT w1 p (P8 r1)) (hr1:agB r1) (hx:0<x) (hx2:x<4294967296) (hs:s.ml<4294967296) (hsy:s.ll<=y.size) (hwin:win<18446744073709551616)
 (hE:∀e w',(if all.length+s.ll<x∨win<x then(16:Int)else if bound<all.length-m+s.ll+s.ml then 12 else 0)=e->e≠0->aE w1 w' (λy=>w0.heap.size<=y)->RR (.tuple #[.string ⟨#[]⟩,Uw ⟨0,0,0⟩,.int .i64 e]) w')
 (hk:∀va' w',¬(all.length+s.ll<x∨win<x)->¬bound<all.length-m+s.ll+s.ml->axH w0 w' p9 pt pn va' (cpy x s.ml (all++(aM y).take s.ll)) r1 m bound->kn ov (.string (y.extract s.ll y.size)) (.slice (some ⟨qb,0,none⟩) qn qc) (.int .u64 (win:Nat)) (.int .i64 (bound:Nat)) (.pointer (some ⟨p9,0,none⟩)) (.pointer (some ⟨pt,0,none⟩)) (.pointer (some ⟨pn,0,none⟩)) va' (.int .i64 (i:Nat)) w'):
 uU kn RR ov (.string y) (.slice (some ⟨qb,0,none⟩) qn qc) (.int .u64 (win:Nat)) (.int .i64 (bound:Nat)) (.pointer (some ⟨p9,0,none⟩)) (.pointer (some ⟨pt,0,none⟩)) (.pointer (some ⟨pn,0,none⟩)) (.slice aa all.length ac) (.int .i64 (i:Nat)) (.int .u32 (s.ll:Nat)) (.int .u32 (x:Nat)) (.pointer (some ⟨p,0,none⟩)) (.int .i64 0) w1:=by
 unfold uU Wj;obtain⟨z,rfl,hz⟩:=hov;have hb1:=H.b1;have hb2:=H.b2;have hlt:=H.lt;have hly:=aI y;have he:((0:Int) !=0)=false:=rfl;have wx:IntKind.u64.wrap ((x:Nat):Int)=((x:Nat):Int):=eL (by omega) (by omega);have wal:IntKind.u64.wrap ((all.length:Nat):Int)=((all.length:Nat):Int):=eL (by omega) (by omega);have wll:IntKind.u64.wrap ((s.ll:Nat):Int)=((s.ll:Nat):Int):=eL (by omega) (by omega);have e1:((all.length:Nat):Int)+((s.ll:Nat):Int)=((all.length+s.ll:Nat):Int):=by omega
 have w1':IntKind.u64.wrap ((all.length+s.ll:Nat):Int)=((all.length+s.ll:Nat):Int):=eL (by omega) (by omega);have lnz:=B5 (aH H.on)
 have err:∀{e:Int},(if all.length+s.ll<x∨win<x then(16:Int)else if bound<all.length-m+s.ll+s.ml then 12 else 0)=e->e≠0→
     bF pg (dL 56 (.pointer (some ⟨pt,0,none⟩)) (Uw ⟨0,0,0⟩)) (dr w1) λ_u w=>LdR pg 56 (.pointer (some ⟨pt,0,none⟩)) w λr1=>RR (.tuple #[.string ⟨#[]⟩,r1,.int .i64 e]) w:=by
  intro e h1 h2;refine fB (aH H.ot) rfl (by simp[one]) (by simp) λw2 o2 x2 s2=> ?_;refine zO o2 (by simp[aF]) ?_;exact hE e w2 h1 h2 ((aE.dr w1 _).seq (x2.mono λy hy h=>by omega))
 by_cases hc:all.length+s.ll<x∨win<x
 .rw [if_pos hc]at err;by_cases hc1:all.length+s.ll<x
  .have d3:decide (((all.length+s.ll:Nat):Int)<(x:Int))=true:=decide_eq_true (by omega);have d4:decide ((x:Int)>((all.length+s.ll:Nat):Int))=true:=decide_eq_true (by omega);simp(disch:=omega)only[SV,he,wx,wal,wll,e1,w1',d3,d4,lnz];exact err rfl (by decide)
  .have d3:decide (((all.length+s.ll:Nat):Int)<(x:Int))=false:=decide_eq_false (by omega);have d4:decide ((x:Int)>((all.length+s.ll:Nat):Int))=false:=decide_eq_false (by omega);have d5:decide ((win:Int)<(x:Int))=true:=decide_eq_true (by omega);have d6:decide ((x:Int)>(win:Int))=true:=decide_eq_true (by omega);simp(disch:=omega)only[SV,he,wx,wal,wll,e1,w1',d3,d4,d5,d6,lnz];exact err rfl (by decide)
 rw[if_neg hc]at err;have d3:decide (((all.length+s.ll:Nat):Int)<(x:Int))=false:=decide_eq_false (by omega);have d4:decide ((x:Int)>((all.length+s.ll:Nat):Int))=false:=decide_eq_false (by omega);have d5:decide ((win:Int)<(x:Int))=false:=decide_eq_false (by omega);have d6:decide ((x:Int)>(win:Int))=false:=decide_eq_false (by omega);have ti:((i:Nat):Int).toNat=i:=a1H _;have tl:((s.ll:Nat):Int).toNat=s.ll:=a1H _;have wli:IntKind.i64.wrap ((s.ll:Nat):Int)=((s.ll:Nat):Int):=dM (by omega) (by omega);have wmi:IntKind.i64.wrap ((s.ml:Nat):Int)=((s.ml:Nat):Int):=dM (by omega) (by omega);have e2:((all.length:Nat):Int)-((m:Nat):Int)=((all.length-m:Nat):Int):=by omega
 have e3:((all.length-m:Nat):Int)+((s.ll:Nat):Int)=((all.length-m+s.ll:Nat):Int):=by omega
 have e4:((all.length-m+s.ll:Nat):Int)+((s.ml:Nat):Int)=((all.length-m+s.ll+s.ml:Nat):Int):=by omega
 have cml:w1.cell? ⟨qb,i*3+1,none⟩=some (.int .u32 (s.ml:Nat)):=by
  rw[oq.cell];have:((qcs.drop (i*3)).take 3)[1]?=some (.int .u32 (s.ml:Nat)):=by rw[hqi]<;>rfl
  rwa [a2L (by omega),a4I]at this
 have hzi:((z.size:Nat):Int)=((m:Nat):Int):=by rw[hz]
 by_cases hb:bound<all.length-m+s.ll+s.ml
 .rw [if_pos hb]at err;have d7:decide (((all.length-m+s.ll+s.ml:Nat):Int)>(bound:Int))=true:=decide_eq_true (by omega);have d8:decide ((bound:Int)<((all.length-m+s.ll+s.ml:Nat):Int))=true:=decide_eq_true (by omega);simp(disch:=omega)only[SV,he,wx,wal,wll,e1,w1',d3,d4,d5,d6,hzi,ti,cml,wli,wmi,e2,e3,e4,d7,d8,lnz];exact err rfl (by decide)
 have d7:decide (((all.length-m+s.ll+s.ml:Nat):Int)>(bound:Int))=false:=decide_eq_false (by omega);have d8:decide ((bound:Int)<((all.length-m+s.ll+s.ml:Nat):Int))=false:=decide_eq_false (by omega);simp(disch:=omega)only[SV,he,wx,wal,wll,e1,w1',d3,d4,d5,d6,hzi,ti,cml,wli,wmi,e2,e3,e4,d7,d8,tl];have hex:(y.extract 0 s.ll).size=s.ll:=by rw[oY _ _ _ hsy];omega
 have hle:aM (y.extract 0 s.ll)=(aM y).take s.ll:=by rw[cX,a1F,a6M]
 refine apT hal (λb hb=>⟨⟨by omega,by omega,by omega,by omega⟩,by have:=oR.lt;omega⟩) (by rw[hex];omega) λva2 w2 h2 x2=> ?_;rw[hle]at h2;have oR2:=oR.ext x2 λh=>h.2 rfl;have lR:=B5 oR2;simp(disch:=omega)only[SV,tl,lR];have o92:=H.o9.ext x2 λh=>h.1.2.1 rfl;refine fB o92 rfl (by simp[one]) (by simp) λw3 o3 x3 s3=> ?_;have o3:aT w3 p9 (P8 r1):=o3;have h3:=h2.ext x3 λb hb h=>hb.1.2.1 h;have hlen:(all++(aM y).take s.ll).length=all.length+s.ll:=by rw[a1O,a1N];omega
 have oq3:=(oq.ext x2 λh=>by omega).ext x3 λh=>by omega
 have z2:=x2.size;have z3:=x3.size;refine aOP oq3 hqi hi (λh=>by omega) h3 (λb hb=>⟨⟨by omega,by omega,by omega,by omega⟩,by have:=oR.lt;omega⟩) hx (by omega) (by omega) hx2 hs λva4 w4 h4 x4=> ?_;refine hk va4 w4 hc hb ⟨?_,o3.ext x4 λh=>h.1.2.1 rfl,((H.ot.ext x2 λh=>h.1.2.2.1 rfl).ext x3 λh=>by omega).ext x4 λh=>h.1.2.2.1 rfl,((H.on.ext x2 λh=>h.1.2.2.2 rfl).ext x3 λh=>by omega).ext x4 λh=>h.1.2.2.2 rfl,OA h4 λb hb _=>hb.1,hr1,by rw[Qv];omega,by rw[Qv];omega,by have:=x4.size;omega⟩;exact((H.ext.trans x2 λy hy h=>h.1.1).trans x3 λy hy h=>by omega).trans x4 λy hy h=>h.1.1
def aMb(win bound m:Nat)(s:Sq)(n k:Nat)(r:Rp):Int:=if n<s.ll then 11 else match HL r s.ll s.of with
 | .error e=>e
 | .ok (x,_)=>if k+s.ll<x∨win<x then 16 else if bound<k-m+s.ll+s.ml then 12 else 0
theorem aQI{m:Nat}{q:List Sq}{lits:List UInt8}(h:aMb win bound m s lits.length all.length r=e)(h0:e≠0):Jm win bound m (s::q) all lits r= .error e:=by
 unfold aMb at h;unfold Jm;split at h
 .rename_i hc;rw[if_pos hc,h]
 .rename_i hc;rw[if_neg hc];cases ho:HL r s.ll s.of with
  |error e'=>rw[ho]at h;rw[<-h]
  |ok v=>
   obtain⟨x,r1⟩:=v;rw[ho]at h;simp only at h⊢;split at h
   .rename_i hc;rw[if_pos hc,h]
   .rename_i hc;rw[if_neg hc];split at h
    .rename_i hb;rw[if_pos hb,h]
    .exact absurd h.symm h0
theorem aOZ{kn:a7C->a7C->a7C->a7C->a7C->a7C->a7C->a7C->a7C->a7C->a7B->Prop}{w0 W:a7B}{p9 pn:Nat}{aa:Option Addr}{ac:Nat}
 (H:axH w0 W p9 pt pn (.slice aa all.length ac) all r x.size bound) (hm:x.size<=2000000) (hbd:bound<=131072) (hy:y.size<=1000000) (hlt0:w0.heap.size<=p9/\w0.heap.size<=pt/\w0.heap.size<=pn) (hne:p9≠pt/\p9≠pn/\pt≠pn)
 (oB:aT W qb qcs) (hat:(qcs.drop (i*3)).take 3=sqc s) (hlen:i*3+3<=qcs.length) (hi:i<qn) (hqb:qb<w0.heap.size) (hs1:s.ll<4294967296) (hs2:s.ml<4294967296) (hs3:s.of<4294967296) (hwin:win<18446744073709551616)
 (hE:∀e w',aMb win bound x.size s y.size all.length r=e->e≠0->aE w0 w' (λy=>w0.heap.size<=y)->RR (.tuple #[.string ⟨#[]⟩,Uw ⟨0,0,0⟩,.int .i64 e]) w')
 (hk:∀va' w' X r1,¬y.size<s.ll->HL r s.ll s.of= .ok (X,r1)->¬(all.length+s.ll<X∨win<X)->¬bound<all.length-x.size+s.ll+s.ml->axH w0 w' p9 pt pn va' (cpy X s.ml (all++(aM y).take s.ll)) r1 x.size bound->kn (.string x) (.string (y.extract s.ll y.size)) (.slice (some ⟨qb,0,none⟩) qn qc) (.int .u64 (win:Nat)) (.int .i64 (bound:Nat)) (.pointer (some ⟨p9,0,none⟩)) (.pointer (some ⟨pt,0,none⟩)) (.pointer (some ⟨pn,0,none⟩)) va' (.int .i64 (i:Nat)) w'):
 Mi kn RR (.string x) (.string y) (.slice (some ⟨qb,0,none⟩) qn qc) (.int .u64 (win:Nat)) (.int .i64 (bound:Nat)) (.pointer (some ⟨p9,0,none⟩)) (.pointer (some ⟨pt,0,none⟩)) (.pointer (some ⟨pn,0,none⟩)) (.slice aa all.length ac) (.int .i64 (i:Nat)) W:=by
 have hlt:=H.lt;have hb1:=H.b1;have hb2:=H.b2;have zW:=H.ext.size;have lS:(cK 134 (.pointer (some ⟨qb,i*3,none⟩))).run pg (dr W)= .ok (.value (.agg #[.int .u32 (s.ll:Nat),.int .u32 (s.ml:Nat),.int .u32 (s.of:Nat)])) (dr W):=by
  have:=pG (off:=i*3) (aH oB) hlen;rw[hat]at this;exact this
 have c0:W.cell? ⟨qb,i*3,none⟩=some (.int .u32 (s.ll:Nat)):=by
  rw[oB.cell];have:((qcs.drop (i*3)).take 3)[0]?=some (.int .u32 (s.ll:Nat)):=by rw[hat]<;>rfl
  rwa [a2L (by omega),a4I]at this
 have l9:=B5 (aH H.o9);have ti:((i:Nat):Int).toNat=i:=a1H _;have wll:IntKind.u64.wrap ((s.ll:Nat):Int)=((s.ll:Nat):Int):=eL (by omega) (by omega);have wyl:IntKind.u64.wrap ((y.size:Nat):Int)=((y.size:Nat):Int):=eL (by omega) (by omega)
 have err:∀{w1:a7B} {e:Int},aE W w1 aP->aMb win bound x.size s y.size all.length r=e->e≠0→
     bF pg (dL 56 (.pointer (some ⟨pt,0,none⟩)) (Uw ⟨0,0,0⟩)) (dr w1) λ_u w=>LdR pg 56 (.pointer (some ⟨pt,0,none⟩)) w λr1=>RR (.tuple #[.string ⟨#[]⟩,r1,.int .i64 e]) w:=by
  intro w1 e x1 h1 h2;refine fB (aH (H.ot.ext x1 λh=>h)) rfl (by simp[one]) (by simp) λw2 o2 x2 s2=> ?_;refine zO o2 (by simp[aF]) ?_;exact hE e w2 h1 h2 (((H.ext.trans x1 λy hy h=>h.elim).seq (aE.dr w1 _)).trans x2 λy hy h=>by omega)
 unfold Mi avR;by_cases hgt:y.size<s.ll
 .have d2:decide ((s.ll:Int)>((y.size:Nat):Int))=true:=decide_eq_true (by omega);have d3:decide (((y.size:Nat):Int)<(s.ll:Int))=true:=decide_eq_true (by omega);have lnz:=B5 (aH H.on);simp(disch:=omega)only[SV,ti,c0,wll,wyl,d2,d3,lnz];exact err (aE.refl _ _) (by unfold aMb;rw[if_pos hgt]) (by decide)
 have d2:decide ((s.ll:Int)>((y.size:Nat):Int))=false:=decide_eq_false (by omega);have d3:decide (((y.size:Nat):Int)<(s.ll:Int))=false:=decide_eq_false (by omega)
 have hst:aMb win bound x.size s y.size all.length r=match HL r s.ll s.of with
     | .error e=>e
     | .ok (x',_)=>if all.length+s.ll<x'∨win<x' then 16 else if bound<all.length-x.size+s.ll+s.ml then 12 else 0:=by unfold aMb;rw[if_neg hgt]
 rw[hst]at hE err;clear hst;have fail:∀{w1:a7B} {e:Int} {t20:a7C},aE W w1 aP->HL r s.ll s.of= .error e->uU kn RR (.string x) (.string y) (.slice (some ⟨qb,0,none⟩) qn qc) (.int .u64 (win:Nat)) (.int .i64 (bound:Nat)) (.pointer (some ⟨p9,0,none⟩)) (.pointer (some ⟨pt,0,none⟩)) (.pointer (some ⟨pn,0,none⟩)) (.slice aa all.length ac) (.int .i64 (i:Nat)) (.int .u32 (s.ll:Nat)) (.int .u32 0) t20 (.int .i64 e) w1:=by
  intro w1 e t20 x1 he;rw[he]at err;unfold uU Wj;have n1:(e !=0)=true:=by simpa using aD0 he
  have lnz:=B5 (aH (H.on.ext x1 λh=>h));simp(disch:=omega)only[SV,n1,lnz];exact err x1 rfl (aD0 he)
 have good:∀{w1:a7B} {p X:Nat} {r1:Rp},aE W w1 aP->W.heap.size<=p->aT w1 p (P8 r1)->HL r s.ll s.of= .ok (X,r1)->uU kn RR (.string x) (.string y) (.slice (some ⟨qb,0,none⟩) qn qc) (.int .u64 (win:Nat)) (.int .i64 (bound:Nat)) (.pointer (some ⟨p9,0,none⟩)) (.pointer (some ⟨pt,0,none⟩)) (.pointer (some ⟨pn,0,none⟩)) (.slice aa all.length ac) (.int .i64 (i:Nat)) (.int .u32 (s.ll:Nat)) (.int .u32 (X:Nat)) (.pointer (some ⟨p,0,none⟩)) (.int .i64 0) w1:=by
  intro w1 p X r1 x1 hp o1 he;obtain⟨hr1,hxp,hxl'⟩:=aHx H.ok hs3 he;rw[he]at hE;simp only at hE;have z1:=x1.size;refine aOY (w0:=w0) (r:=r) (m:=x.size) ⟨H.ext.trans x1 λy hy h=>h.elim,H.o9.ext x1 λh=>h,H.ot.ext x1 λh=>h,H.on.ext x1 λh=>h,H.hal.ext x1 λ_ _ h=>h,H.ok,hb1,hb2,by omega⟩ ((OA H.hal λb hb h=>⟨hb,by omega⟩).ext x1 λ_ _ h=>h) ⟨x,rfl,rfl⟩ hm hbd hy (by omega) (by omega) (oB.ext x1 λh=>h) hat hi hqb o1 hr1 hxp hxl' hs2 (by omega) hwin ?_ λva' w' hc hb H'=>hk va' w' X r1 hgt he hc hb H';intro e w' h1 h2 h3;exact hE e w' h1 h2 (H.ext.seq ((x1.mono λ_ _ h=>h.elim).seq h3))
 simp(disch:=omega)only[SV,ti,c0,wll,wyl,d2,d3,l9,lS];refine Td ?_ ?_
 .refine (alM H.ok hs3).mono ?_;rintro v w1 ⟨rfl,x1⟩;have xW1:aE W w1 aP:=(aE.dr W _).seq x1;have z1:=xW1.size;cases hoff:HL r s.ll s.of with
  |error e=>
   unfold agO;simp(disch:=omega)only[SV];refine lY λw4 o4 x4 s4=> ?_;refine fB o4 rfl (by simp[one]) (by simp) λw5 o5 x5 s5=> ?_
   try simp(disch:=omega)only[SV]
   exact fail ((xW1.seq x4).trans x5 λy hy h=>by omega) hoff
  |ok v=>
   obtain⟨X,r1⟩:=v;unfold agO;simp(disch:=omega)only[SV];refine lY λw4 o4 x4 s4=> ?_;refine fB o4 rfl (by simp[one]) (by simp) λw5 o5 x5 s5=> ?_
   try simp(disch:=omega)only[SV]
   exact good ((xW1.seq x4).trans x5 λy hy h=>by omega) (by omega) o5 hoff
 .refine lY λw4 o4 x4 s4=> ?_;have xW4:aE W w4 aP:=(aE.dr W _).seq x4;have z4:=xW4.size;have zd:(dr W).heap.size=W.heap.size:=rfl;have z4':=o4.lt;refine⟨⟨?_,B5 (H.o9.ext xW4 λh=>h)⟩, ?_⟩
  .have:=pG (off:=i*3) (oB.ext xW4 λh=>h) hlen;rw[hat]at this;exact this
  refine(alM H.ok hs3).mono ?_;rintro v w5 ⟨rfl,x5⟩;have o5:=o4.ext x5 λh=>h;have z5:=x5.size;cases hoff:HL r s.ll s.of with
  |error e=>
   unfold agO;simp(disch:=omega)only[SV];refine fB o5 rfl (by simp[one]) (by simp) λw6 o6 x6 s6=> ?_
   try simp(disch:=omega)only[SV]
   exact fail ((xW4.seq x5).trans x6 λy hy h=>by omega) hoff
  |ok v=>
   obtain⟨X,r1⟩:=v;unfold agO;simp(disch:=omega)only[SV];refine fB o5 rfl (by simp[one]) (by simp) λw6 o6 x6 s6=> ?_
   try simp(disch:=omega)only[SV]
   exact good ((xW4.seq x5).trans x6 λy hy h=>by omega) (by omega) o6 hoff
theorem aLV{qv:a7C}{q:List Sq}{b0:Nat}(hq:mH w b0 3 qv q.length (sqs q))(hr:agB r)
 (hqs:∀s∈q,s.ll<4294967296/\s.ml<4294967296/\s.of<4294967296) (h1:x.size<=2000000) (h2:y.size<=1000000) (h3:bound<=131072) (h4:win<18446744073709551616) (h5:q.length<=1000000):
 aL pg Zi #[.string x,.string y,qv,Uw r,.int .u64 (win:Nat),.int .i64 (bound:Nat)] w (λv w'=>v=aSO (Jm win bound x.size q (aM x) (aM y) r)/\aE w w' aP):=by
 refine aEC ?_;obtain⟨RR,hRR⟩:∃RR:a7C->a7B->Prop,RR=λv w'=>v=aSO (Jm win bound x.size q (aM x) (aM y) r)/\aE w w' aP:=⟨_,rfl⟩;rw[<-hRR];obtain⟨qa,qc,rfl⟩:=hq.len;have hxl:=aI x;unfold aGs alG alF;refine bY λw1 o1 x1 s1=> ?_;have o1:aT w1 w.heap.size (P8 r):=o1;obtain⟨p9,hp9⟩:∃p,p=w.heap.size:=⟨_,rfl⟩;rw[<-hp9]at o1⊢;refine lY λw2 o2 x2 s2=> ?_;obtain⟨pt,hpt⟩:∃p,p=w1.heap.size:=⟨_,rfl⟩;have o2:aT w2 pt (P8 ⟨0,0,0⟩):=by rw[hpt];exact o2
 rw[<-hpt];refine lY λw3 o3 x3 s3=> ?_;obtain⟨pn,hpn⟩:∃p,p=w2.heap.size:=⟨_,rfl⟩;have o3:aT w3 pn (P8 ⟨0,0,0⟩):=by rw[hpn];exact o3
 rw[<-hpn];refine amL λw4 c4 h4' x4 s4 ow4=> ?_;obtain⟨rr,ow4⟩:=ow4;have x34:=x3.seq x4;have x24:=x2.seq x34;have x04:aE w w4 aP:=x1.seq x24;have z04:=x04.size;have A0:axH w w4 p9 pt pn (.slice (some ⟨w3.heap.size,0,none⟩) x.size c4) (aM x) r x.size bound:=by
  refine⟨(aE.refl w _).trans x04 λy hy h=>h.elim,o1.ext x24 λh=>h,o2.ext x34 λh=>h,o3.ext x4 λh=>h, ?_,hr,by omega,by omega,by omega⟩;refine⟨by rw[a1M,hxl];omega,.inr ⟨_,c4,List.replicate rr (.int .u8 0),by rw[hxl],⟨by omega,by omega,by omega,by omega⟩,ow4.1, ?_, ?_⟩⟩
  .rw [a1O,a1M,hxl,a2C];have:=ow4.2;omega
  .have:=ow4.2;rw[hxl];omega
 obtain⟨x0,hx0⟩:∃x0,x0=Jm win bound x.size q (aM x) (aM y) r:=⟨_,rfl⟩;unfold SL SK alE IT;refine aN.rule (λn (t:a7C×a7C×a7C) w'=>∃(i:Nat) (y':ByteArray) (va':a7C) (all':List UInt8) (r':Rp),n=q.length-i/\t=(.string y',va',.int .i64 (i:Nat))/\i<=q.length/\y'.size<=y.size/\
  axH w w' p9 pt pn va' all' r' x.size bound/\Jm win bound x.size (q.drop i) all' (aM y') r'=x0) q.length
  ⟨0,y,_,aM x,r,by omega,rfl,by omega,by omega,A0,by rw[hx0]<;>rfl⟩ ?_
 rintro n t W ⟨i,y',va',all',r',rfl,rfl,hi,hyl,H,hx⟩;obtain⟨aa,ac,rfl⟩:=H.hal.len;have zW:=H.ext.size;have hly:=aI y';have lnz:=B5 (aH H.on);have hb1:=H.b1;have hb2:=H.b2
 have err:∀{W':a7B} {e:Int},aT W' pt (P8 ⟨0,0,0⟩)->aE w W' (λy=>w.heap.size<=y)->x0= .error e→
     bF pg (dL 56 (.pointer (some ⟨pt,0,none⟩)) (Uw ⟨0,0,0⟩)) W' λ_u w=>LdR pg 56 (.pointer (some ⟨pt,0,none⟩)) w λr1=>RR (.tuple #[.string ⟨#[]⟩,r1,.int .i64 e]) w:=by
  intro W' e ot hx he;refine fB ot rfl (by simp[one]) (by simp) λw1 o1 x1 s1=> ?_;refine zO o1 (by simp[aF]) ?_;rw[hRR,<-hx0,he];have hlt:=H.lt;exact⟨rfl,((aE.refl w aP).trans hx λy hy h=>by omega).trans x1 λy hy h=>by omega⟩
 have wyl:IntKind.u64.wrap ((y'.size:Nat):Int)=((y'.size:Nat):Int):=eL (by omega) (by omega);have wal:IntKind.u64.wrap ((all'.length:Nat):Int)=((all'.length:Nat):Int):=eL (by omega) (by omega);unfold alD alC;by_cases hlt:i<q.length
 .have d1:decide ((i:Int)<(q.length:Int))=true:=decide_eq_true (by omega);obtain⟨s,hs⟩:∃s,s=q[i]:=⟨_,rfl⟩;obtain⟨hs1,hs2,hs3⟩:=hqs s (hs▸a2P hlt);rw[a2J hlt,<-hs]at hx;rcases hq.2 with⟨_,h0⟩|⟨qb,qcap,rest,hqv,hqb,ob,hqc,hqc2⟩
  .omega
  injection hqv with hq1 _ hq2;subst hq1;have hqlt:=ob.lt;have oB:aT W qb (sqs q++rest):=ob.ext H.ext λh=>by omega
  simp(disch:=omega)only[SV,d1];unfold SJ;refine aOZ (x:=x) H h1 h3 (by omega) (by omega) (by omega) oB (by rw[aR1 q hlt,hs]) (by rw[a1O,aET];omega) hlt (by omega) hs1 hs2 hs3 h4 ?_ ?_
  .intro e w' h1 h2 hE;rw[hRR,<-hx0,<-hx];exact⟨by rw[aQI (by rw[hly];exact h1) h2]<;>rfl,hE.mono λy hy h=>by omega⟩
  .intro va' w' X r1 hn ho hc hb H';unfold Jm at hx;rw[hly,if_neg hn,ho]at hx;simp only at hx;rw[if_neg hc,if_neg hb]at hx;unfold Wi;have e3:((i:Nat):Int)+1=((i+1:Nat):Int):=by omega
   simp(disch:=omega)only[SV,e3];refine⟨q.length-(i+1),by omega,i+1,_,va',_,r1,rfl,rfl,by omega,by rw[oY _ _ _ (by omega)];omega,H', ?_⟩;have hle:aM (y'.extract s.ll y'.size)=(aM y').drop s.ll:=by rw[cX,a1T (by rw[a1L];omega)]
   rw[hle];exact hx
 .have d1:decide ((i:Int)<(q.length:Int))=false:=decide_eq_false (by omega);obtain rfl:i=q.length:=by omega
  rw[a6H]at hx;unfold Jm at hx;unfold Wh;have e1:((all'.length:Nat):Int)-((x.size:Nat):Int)=((all'.length-x.size:Nat):Int):=by omega
  have e2:((all'.length-x.size:Nat):Int)+((y'.size:Nat):Int)=((all'.length-x.size+y'.size:Nat):Int):=by omega
  by_cases hb:bound<all'.length-x.size+(aM y').length
  .rw [if_pos hb]at hx;have d2:decide (((all'.length-x.size+y'.size:Nat):Int)>(bound:Int))=true:=decide_eq_true (by omega);have d3:decide ((bound:Int)<((all'.length-x.size+y'.size:Nat):Int))=true:=decide_eq_true (by omega);simp(disch:=omega)only[SV,d1,e1,e2,d2,d3,lnz];exact err (aH H.ot) (H.ext.seq (aE.dr W _)) hx.symm
  .rw [if_neg hb]at hx;have d2:decide (((all'.length-x.size+y'.size:Nat):Int)>(bound:Int))=false:=decide_eq_false (by omega);have d3:decide ((bound:Int)<((all'.length-x.size+y'.size:Nat):Int))=false:=decide_eq_false (by omega);have hbs:Bs (dr W) (.slice aa all'.length ac) all':=(aHA H.hal).ext (aE.dr W aP) (aR _);have cv:=cU hbs;have hsz:(⟨all'.toArray⟩:ByteArray).size=all'.length:=by simp[ByteArray.size]
   have l9:=B5 (aH H.o9);simp(disch:=omega)only[SV,d1,e1,e2,d2,d3,cv,l9,anM];refine fB (aH H.ot) rfl (by simp[one]) (by simp) λw1 o1 x1 s1=> ?_;refine zO o1 (by simp[aF]) ?_;rw[hRR,<-hx0,<-hx];have hlt:=H.lt;refine⟨?_,((aE.refl w aP).trans H.ext λy hy h=>by omega).trans ((aE.dr W _).seq x1) λy hy h=>by omega⟩;show Value.tuple #[.string (⟨all'.toArray⟩++y'),Uw r',.int .i64 0]= .tuple #[.string ⟨(all'++aM y').toArray⟩,Uw r',.int .i64 0];rw[Fs (x:=⟨all'.toArray⟩++y') (y:=⟨(all'++aM y').toArray⟩) (by rw[CR]<;>rfl)]
abbrev rv(x:ByteArray)(e:Int):a7C:= .agg #[.string x,.int .i64 e]
theorem aD7 {c:List a7C}{z:a7C}(o:aT w p c)(hc:c.length=2)
 (hR:∀w',aE w w' (λy=>y=p)->RR (.tuple #[rv x e,z]) w'):
 bF pg (dL 40 (.pointer (some ⟨p,0,none⟩)) (rv x e)) w λ_u w=>LdR pg 40 (.pointer (some ⟨p,0,none⟩)) w λr0=>RR (.tuple #[r0,z]) w:=by
 match c,hc with
 |[c0,c1],_=>
  refine aS o rfl (by simp[one]) (by simp) λw6 o6 x6 s6=> ?_;refine YP o6 (by simp[aF]) ?_;simp only[aF,a1E,a1D,a1F,a1C,a1G];exact hR _ x6
theorem aGv:
 aL pg U1 #[rv x e,.int .i64 n] w (λr w'=>∃x' s,r= .tuple #[rv x' (gH (aM x) e n).2.2,.string s]/\aM x'=(gH (aM x) e n).2.1/\aM s=(gH (aM x) e n).1/\aE w w' aP):=by
 refine aBM ?_;obtain⟨RR,hRR⟩:∃RR:a7C->a7B->Prop,RR=λr w'=>∃x' s,r= .tuple #[rv x' (gH (aM x) e n).2.2,.string s]/\aM x'=(gH (aM x) e n).2.1/\aM s=(gH (aM x) e n).1/\aE w w' aP:=⟨_,rfl⟩;rw[<-hRR];have hll:=aI x;unfold aEd ajL;refine bY λw1 o1 x1 s1=> ?_;have o1:aT w1 w.heap.size [.string x,.int .i64 e]:=o1;refine bD λw2 o2 x2 s2=> ?_;have o1:=o1.ext x2 (λh=>h);have x02:=x1.seq x2;have z1:=x1.size;have c0:=o1.cell (off:=0);have c1:=o1.cell (off:=1);have l1:=aV (off:=0) o1 (by simp);simp only[a1A,a1B,a1F,a1C,a1G]at c0 c1 l1;by_cases he:e=0;rotate_left
 .have n1:(e !=0)=true:=by simpa using he
  have ht:gH (aM x) e n=([],aM x,e):=by unfold gH;rw[if_pos he]
  simp(disch:=omega)only[SV,c1,n1,l1];refine aD7 o2 rfl λw' x'=> ?_;rw[hRR,ht];exact⟨x,⟨#[]⟩,rfl,rfl,rfl,x02.new x' (by omega)⟩
 subst he;have n1:((0:Int) !=0)=false:=rfl;have d0:decide ((n:Int)<0)=false:=by simp
 by_cases hsh:x.size<n
 .have d1:decide ((x.size:Int)<(n:Int))=true:=by simp;omega
  have ht:gH (aM x) 0 n=([],aM x,10):=by unfold gH;rw[if_neg (by decide),if_pos (by omega)]
  simp(disch:=omega)only[SV,c1,n1,c0,d0,d1];refine awM o1 rfl (by simp) λw3 o3 x3 s3=> ?_;simp only[a1E,a1D]at o3;have l3:=aV (off:=0) o3 (by simp);simp only[a1F,a1C,a1G]at l3;simp(disch:=omega)only[SV,l3];refine aD7 (o2.ext x3 (by omega)) rfl λw' x'=> ?_;rw[hRR,ht];exact⟨x,⟨#[]⟩,rfl,rfl,rfl,(x02.new x3 (by omega)).new x' (by omega)⟩
 .have d1:decide ((x.size:Int)<(n:Int))=false:=by simp;omega
  have ht:gH (aM x) 0 n=((aM x).take n,(aM x).drop n,0):=by unfold gH;rw[if_neg (by decide),if_neg (by omega)]
  simp(disch:=omega)only[SV,c1,n1,c0,d0,d1,a1H];refine aAn o1 rfl (by simp) λw3 o3 x3 s3=> ?_;simp only[a1E,a1D]at o3;have l3:=aV (off:=0) o3 (by simp);simp only[a1F,a1C,a1G]at l3;simp(disch:=omega)only[SV,l3];refine aD7 (o2.ext x3 (by omega)) rfl λw' x'=> ?_;rw[hRR,ht];refine⟨_,_,rfl, ?_, ?_,(x02.new x3 (by omega)).new x' (by omega)⟩
  .rw [cX,a1T (by rw[a1L];omega)]
  .rw [cX];simp
theorem jQ(hn:1<=n/\n<=8):
 aL pg pL #[rv x e,.int .i64 n] w (λr w'=>∃x',r= .tuple #[rv x' (gH (aM x) e n).2.2,.int .u64 (cG (gH (aM x) e n).1:Nat)]/\aM x'=(gH (aM x) e n).2.1/\aE w w' aP):=by
 refine atJ ?_;obtain⟨RR,hRR⟩:∃RR:a7C->a7B->Prop,RR=λr w'=>∃x',r= .tuple #[rv x' (gH (aM x) e n).2.2,.int .u64 (cG (gH (aM x) e n).1:Nat)]/\aM x'=(gH (aM x) e n).2.1/\aE w w' aP:=⟨_,rfl⟩;rw[<-hRR];unfold atH Uj Ui;refine bY λw1 o1 x1 s1=> ?_;have o1:aT w1 w.heap.size [.string x,.int .i64 e]:=o1;refine bD λw2 o2 x2 s2=> ?_;have o1:=o1.ext x2 (λh=>h);have x02:=x1.seq x2;have z1:=x1.size;have c1:=o1.cell (off:=1);have l1:=aV (off:=0) o1 (by simp);simp only[a1A,a1B,a1F,a1C,a1G]at c1 l1;have d1:decide ((n:Int)<1)=false:=by simp;omega
 have d2:decide (8<(n:Int))=false:=by simp;omega
 have main:B8 RR (.int .i64 n) (.pointer (some ⟨w.heap.size,0,none⟩)) (.pointer (some ⟨w1.heap.size,0,none⟩)) w2:=by
  unfold B8 Xu;simp(disch:=omega)only[SV,l1];refine(aGv).mono ?_;rintro r w3 ⟨x',s,rfl,hx',hs,x3⟩;simp(disch:=omega)only[SV];refine aS (o1.ext x3 (λh=>h)) rfl (by simp[one]) (by simp) λw4 o4 x4 s4=> ?_;simp only[aF,a1E,a1D]at o4;have z2:=x02.size;have z3:=x3.size;have x04:aE w w4 aP:=(x02.seq x3).new x4 (a1J _);have o2:=(o2.ext x3 (λh=>h)).ext x4 (by omega);have hlen:(aM s).length<=8:=by
   rw[hs];unfold gH;split
   .simp
   .split
    .simp
    .simp;omega
  have hss:=aI s;unfold Ko Kn Xt B7;refine aN.rule (λm (v:a7C×a7C×a7C) w'=>∃(i:Nat) (mm:Int),m=s.size-i/\i<=s.size/\v=(.int .u64 (cG ((aM s).take i):Nat),.int .u64 mm,.int .i64 i)/\(i<8->mm=((256^i:Nat):Int))/\w'=w4) s.size ⟨0,1,rfl,by omega,rfl,λ_=>rfl,rfl⟩ ?_;rintro m v w5 ⟨i,mm,rfl,hi,rfl,hmm,hw⟩;rw[hw];clear hw w5;unfold Xs;by_cases hlt:i<s.size
  .have d3:decide ((i:Int)<(s.size:Int))=true:=by simp;omega
   have hmm:=hmm (by omega);subst hmm;obtain⟨c,hc⟩:∃c,c=(aM s)[i]'(by omega):=⟨_,rfl⟩;have hg:s[i]'hlt=c:=by rw[Fq,hc]
   have htk:(aM s).take (i+1)=(aM s).take i++[c]:=by rw[a3F,a1I (by omega),<-hc]<;>rfl
   have hnl:cG ((aM s).take (i+1))=cG ((aM s).take i)+256^i*c.toNat:=by
    rw[htk,ayW,a1N,a2T (by omega)]
   have hb0:=AE ((aM s).take i);have hb1:=AE ((aM s).take (i+1));rw[a1N,a2T (by omega)]at hb0 hb1;have hp:256^i<=256^7:=a1K (by omega) (by omega);have hp1:256^(i+1)<=256^8:=a1K (by omega) (by omega);have hcl:c.toNat<256:=a2D c;have hps:256^(i+1)=256^i*256:=a2O ..;have hcm:256^i*c.toNat<=256^i*256:=Nat.mul_le_mul_left _ (by omega);rw[hnl]at hb1;obtain⟨m2,hm2⟩:∃z,IntKind.u64.wrap (((256^i:Nat):Int)*256)=z:=⟨_,rfl⟩;have hm3:i+1<8->m2=((256^(i+1):Nat):Int):=λh=>by
    have hp2:256^(i+1)<=256^7:=a1K (by omega) (by omega);rw[<-hm2,hps,Int.natCast_mul];exact eL (by omega) (by omega)
   generalize hcx:c.toNat=cx at*;have hgx:(s[i]'hlt).toNat=cx:=by rw[hg,hcx]
   have ew:IntKind.u64.wrap (cx:Int)=(cx:Int):=eL (by omega) (by omega);have em:(cx:Int)*((256^i:Nat):Int)=((256^i*cx:Nat):Int):=by rw[Int.natCast_mul,Int.mul_comm]
   generalize cG ((aM s).take i)=N at*;generalize 256^i=P at*;generalize P*cx=Z at*;have ez:IntKind.u64.wrap (Z:Int)=(Z:Int):=eL (by omega) (by omega);have ea:(N:Int)+(Z:Int)=((N+Z:Nat):Int):=by omega
   have en:IntKind.u64.wrap ((N+Z:Nat):Int)=((N+Z:Nat):Int):=eL (by omega) (by omega);simp(disch:=omega)only[SV,d3,hgx,ew,em,ez,ea,en,hm2,a1H];exact⟨s.size-(i+1),by omega,i+1,m2,rfl,by omega,by rw[hnl]<;>rfl,hm3⟩
  .have d3:decide ((i:Int)<(s.size:Int))=false:=by simp;omega
   obtain rfl:i=s.size:=by omega
   have l4:=aV (off:=0) o4 (by simp);simp only[a1F,a1C,a1G]at l4;unfold Km;simp(disch:=omega)only[SV,d3,l4];refine aD7 o2 rfl λw' x'=> ?_;rw[hRR,<-hss,a4Q,hs];exact⟨_,rfl,hx',x04.new x' (by omega)⟩
 by_cases he:e=0
 .have n1:(e==0)=true:=by simpa using he
  simp(disch:=omega)only[SV,c1,n1,d1,d2];exact main
 .have n1:(e==0)=false:=by simpa using he
  simp(disch:=omega)only[SV,c1,n1,d1,d2];exact main
theorem aFv{x:Nat}(h:x<256):aL pg MH #[.int .u64 (x:Nat)] w (λr w'=>r= .int .u64 (aKD x:Nat)/\w'=w):=by
 refine avT ?_;unfold avS Yu Yt Lh Lg Ys Cs;have e0:(x:Int).tdiv 8=((x/8:Nat):Int):=by rw[a1R (by omega)];omega
 have e1:(x:Int).tmod 8=((x%8:Nat):Int):=by rw[a2B (by omega)];omega
 refine aN.rule (λn (t:a7C×a7C) w'=>∃i:Nat,n=x/8-i/\i<=x/8/\t=(.int .u64 (2^(10+i):Nat),.int .u64 (i:Nat))/\w'=w) (x/8) ⟨0,by omega,by omega,rfl,rfl⟩ ?_;rintro n t w1 ⟨i,rfl,hi,rfl,rfl⟩;have hp:∀k,k<=32->2^(10+k)<2^43:=λk hk=>a6Z (by omega) (by omega);unfold Yr;by_cases hlt:i<x/8
 .have d1:decide ((i:Int)<((x/8:Nat):Int))=true:=decide_eq_true (by omega);have h1:=hp (i+1) (by omega);have e2:((2^(10+i):Nat):Int)*2=((2^(10+(i+1)):Nat):Int):=by rw[<-a4E,a2O];simp
  have e3:(i:Int)+1=((i+1:Nat):Int):=by omega
  obtain⟨X,hX⟩:∃X,X=2^(10+(i+1)):=⟨_,rfl⟩;rw[<-hX]at e2 h1;have w2:IntKind.u64.wrap (X:Int)=(X:Int):=eL (by omega) (by omega);have w3:IntKind.u64.wrap ((i+1:Nat):Int)=((i+1:Nat):Int):=eL (by omega) (by omega);simp(disch:=omega)only[SV,e0,d1,e2,e3,w2,w3];exact⟨_,by omega,i+1,rfl,by omega,by rw[hX]⟩
 .have d1:decide ((i:Int)<((x/8:Nat):Int))=false:=decide_eq_false (by omega);obtain rfl:i=x/8:=by omega
  unfold Lf;have h1:=hp (x/8) (by omega);unfold aKD;obtain⟨X,hX⟩:∃X,X=2^(10+x/8):=⟨_,rfl⟩;rw[<-hX]at h1⊢;have e2:(X:Int).tdiv 8=((X/8:Nat):Int):=by rw[a1R (by omega)];omega
  have hm:X/8*(x%8)<2^43:=Nat.lt_of_le_of_lt (Nat.mul_le_mul_left _ (show x%8<=8 by omega)) (by omega);have e3:((X/8:Nat):Int)*((x%8:Nat):Int)=((X/8*(x%8):Nat):Int):=by simp
  obtain⟨Y,hY⟩:∃Y,Y=X/8*(x%8):=⟨_,rfl⟩;rw[<-hY]at hm e3⊢;have w2:IntKind.u64.wrap (Y:Int)=(Y:Int):=eL (by omega) (by omega);have e4:(X:Int)+(Y:Int)=((X+Y:Nat):Int):=by omega
  have w4:IntKind.u64.wrap ((X+Y:Nat):Int)=((X+Y:Nat):Int):=eL (by omega) (by omega);simp(disch:=omega)only[SV,e0,e1,d1,e2,e3,w2,e4,w4]
theorem aJ7 (or:aT w pr [.string x,.int .i64 e])(oh:aT w ph (rZ h))(ot:aT w pt (rZ z))(hne:ph≠pt/\pr≠pt)(hL:x.size<=b.size)(hb:b.size<=1000000)
 (hk:∀w',aE w w' (λy=>y=pt)->RR (fRV (ZP b.size (aM x,e) dict h)) w'):
 IU RR (.string b) (.pointer (some ⟨pt,0,none⟩)) (.pointer (some ⟨ph,0,none⟩)) (.pointer (some ⟨pr,0,none⟩)) (.int .u64 (dict:Nat)) w:=by
 unfold IU;unfold ZP at hk;have hlx:=aI x;have c1:=or.cell (off:=1);have f1:=(aH or).cell (off:=1);have f0:=(aH or).cell (off:=0);simp only[a1A,a1B]at c1 f1 f0;by_cases he:e=0
 .subst he;have n0:((0:Int) !=0)=false:=rfl;simp only[ne_eq,not_true,if_false]at hk;by_cases hd:dict=0
  .subst hd;have n1:decide (((0:Nat):Int)>0)=false:=rfl;have n2:decide ((0:Int)<((0:Nat):Int))=false:=rfl;simp only[ne_eq,not_true,if_false]at hk;have hq:=wS (off:=0) (aH oh) (by simp[rZ]);simp only[rZ,a1F,a1C,a1G]at hq;have e1:(b.size:Int)-(x.size:Int)=((b.size-(aM x).length:Nat):Int):=by omega
   have we:IntKind.i64.wrap ((b.size-(aM x).length:Nat):Int)=((b.size-(aM x).length:Nat):Int):=dM (by omega) (by omega);simp(disch:=omega)only[SV,c1,n0,n1,n2,hq,f0,e1,we];refine fN (aH ot) rfl (by simp[one]) (by simp[rZ]) λw3 o3 x3 s3=> ?_;have g0:=((aH or).ext x3 hne.2).cell (off:=0);simp only[a1A]at g0;simp(disch:=omega)only[SV,g0,e1,we];refine lA o3 (by simp[aF,rZ]) ?_;exact hk w3 ((aE.dr w _).seq x3)
  .have n1:decide (((dict:Nat):Int)>0)=true:=decide_eq_true (by omega);have n2:decide ((0:Int)<((dict:Nat):Int))=true:=decide_eq_true (by omega);rw[if_pos hd]at hk;simp(disch:=omega)only[SV,c1,n0,n1,n2];refine fN ot rfl (by simp[one]) (by simp[rZ]) λw3 o3 x3 s3=> ?_;refine lA o3 (by simp[aF,rZ]) ?_;exact hk w3 x3
 .have n0:(e !=0)=true:=by simp[he]
  rw[if_pos he]at hk;simp(disch:=omega)only[SV,c1,f1,n0];refine fN (aH ot) rfl (by simp[one]) (by simp[rZ]) λw3 o3 x3 s3=> ?_;have g0:=((aH or).ext x3 hne.2).cell (off:=1);simp only[a1A,a1B]at g0;simp(disch:=omega)only[SV,g0];refine lA o3 (by simp[aF,rZ]) ?_;exact hk w3 ((aE.dr w _).seq x3)
theorem aEP{o:Bool}(or:aT w pr [.string x,.int .i64 e])(oh:aT w ph (rZ h))(ot:aT w pt (rZ z))(hne:ph≠pt/\pr≠pt/\pr≠ph)(hL:x.size<=b.size)(hb:b.size<=1000000)
 (hk:∀w',aE w w' (λy=>y=pt∨y=ph)->RR (fRV (ZP b.size (aM x,e) dict ⟨if o then h.size else h.window,h.size,h.known,h.sum⟩)) w'):
 IV RR (.string b) (.pointer (some ⟨pt,0,none⟩)) (.pointer (some ⟨ph,0,none⟩)) (.pointer (some ⟨pr,0,none⟩)) (.bool o) (.int .u64 (dict:Nat)) w:=by
 unfold IV alH;cases o with
 |false=>
  simp(disch:=omega)only[SV];exact aJ7 or oh ot ⟨hne.1,hne.2.1⟩ hL hb λw' x=>hk w' (x.mono λ_ _ h=> .inl h)
 |true=>
  have c1:=oh.cell (off:=1);simp only[rZ,a1A,a1B]at c1;simp(disch:=omega)only[SV,c1];refine jK oh rfl (by simp[rZ]) λw1 o1 x1 s1=> ?_;exact aJ7 (h:=⟨h.size,h.size,h.known,h.sum⟩) (or.ext x1 hne.2.2) o1 (ot.ext x1 (λe=>hne.1 e.symm)) ⟨hne.1,hne.2.1⟩ hL hb λw' x=>hk w' ((x1.mono λ_ _ h=> .inr h).seq (x.mono λ_ _ h=> .inl h))
theorem adQ{s:List UInt8×Int}(hx:s=(aM x,e))(hn:1<=n/\n<=8)
 (hk:∀r w',(∃x':ByteArray,∃e':Int,r= .tuple #[rv x' e',.int .u64 (nvS s n:Nat)]/\nxS s n=(aM x',e')/\x'.size<=x.size)->aE w w' aP->K r w'):
 aL pg pL #[rv x e,.int .i64 n] w K:=by
 refine(jQ hn).mono ?_;rintro r w1 ⟨x',rfl,hx',x1⟩;subst hx;refine hk _ _ ⟨x',_,rfl, ?_, ?_⟩ x1
 .unfold nxS;rw[hx']
 .have:=aLG (aM x,e) n;unfold nxS at this;rw[<-hx',aI,aI]at this;exact this
theorem aRS{s:List UInt8×Int}{o:Bool}(hx:s=(aM x,e))(hn8:n<=8)(hk0:h.known=false)(hs0:h.size=0)(or:aT w pr [.string x,.int .i64 e])(oh:aT w ph (rZ h))(ot:aT w pt (rZ z))(hne:ph≠pt/\pr≠pt/\pr≠ph)(hL:x.size<=b.size)(hb:b.size<=1000000)
 (hk:∀w',aE w w' (λy=>y=pt∨y=ph∨y=pr)->RR (fRV (ZP b.size (opS s n) dict ⟨if o then(if n=2 then opV s n+256 else opV s n)else h.window,if n=2 then opV s n+256 else opV s n,decide (0<n),h.sum⟩)) w'):
 BK RR (.string b) (.pointer (some ⟨pt,0,none⟩)) (.pointer (some ⟨ph,0,none⟩)) (.pointer (some ⟨pr,0,none⟩)) (.bool o) (.int .u64 (dict:Nat)) (.int .i64 (n:Nat)) w:=by
 unfold BK alI;rcases a3J n with h0|h0
 .subst h0;have n1:decide (((0:Nat):Int)>0)=false:=rfl;have n2:decide ((0:Int)<((0:Nat):Int))=false:=rfl;simp(disch:=omega)only[SV,n1,n2];refine aEP or oh ot hne hL hb λw' xx=> ?_;have:=hk w' (xx.mono λ_ _ h=>h.elim .inl λh=> .inr (.inl h));rw[hx]at this;have e1:(if o=true then h.size else h.window)=if o=true then 0 else h.window:=by rw[hs0]
  rw[e1,hs0,hk0];exact this
 have n1:decide (((n:Nat):Int)>0)=true:=decide_eq_true (by omega);have n2:decide ((0:Int)<((n:Nat):Int))=true:=decide_eq_true (by omega);have lr:=aV (off:=0) or (by simp);simp only[a1F,a1C,a1G]at lr;simp(disch:=omega)only[SV,n1,n2,lr];refine adQ hx ⟨h0,hn8⟩ ?_;rintro r w1 ⟨x',e',rfl,hnx,hsz⟩ x1;have hop:opS s n=(aM x',e'):=by unfold opS;rw[if_pos h0,hnx]
 have hov:opV s n=nvS s n:=by unfold opV;rw[if_pos h0]
 have hnv:=VO s n;rw[hop,hov]at hk;obtain⟨v,hv⟩:∃v,v=nvS s n:=⟨_,rfl⟩;rw[<-hv]at hk hnv⊢;have hd0:decide (0<n)=true:=decide_eq_true h0;rw[hd0]at hk;simp(disch:=omega)only[SV];refine bD λw2 o2 x2 s2=> ?_;refine aS o2 rfl (by simp[one]) (by simp) λw3 o3 x3 s3=> ?_;simp only[aF,a1E,a1D]at o3;have x13:aE w w3 aP:=x1.seq (x2.new x3 (a1J _));have l3:=aV (off:=0) o3 (by simp);simp only[a1F,a1C,a1G]at l3;simp(disch:=omega)only[SV,l3];refine aS (or.ext x13 λh=>h) rfl (by simp[one]) (by simp) λw4 o4 x4 s4=> ?_;have o4:aT w4 pr [.string x',.int .i64 e']:=o4;have oh4:=(oh.ext x13 λh=>h).ext x4 λh=>hne.2.2 h.symm
 try simp(disch:=omega)only[SV]
 refine jK oh4 rfl (by simp[rZ]) λw5 o5 x5 s5=> ?_
 try simp(disch:=omega)only[SV]
 refine aHQ o5 rfl (by simp[rZ]) λw6 o6 x6 s6=> ?_;have o6:aT w6 ph (rZ ⟨h.window,v,true,h.sum⟩):=o6;have x46:=x5.seq x6;have o46:=o4.ext x46 hne.2.2;have ot6:=((ot.ext x13 λh=>h).ext x4 λh=>hne.2.1 h.symm).ext x46 λh=>hne.1 h.symm;have xall:aE w w6 (λy=>y=pt∨y=ph∨y=pr):=((x13.mono λ_ _ h=>h.elim).seq (x4.mono λ_ _ h=> .inr (.inr h))).seq (x46.mono λ_ _ h=> .inr (.inl h));by_cases h2:n=2
 .have n3:(((n:Nat):Int)==2)=true:=by rw[h2]<;>rfl
  have hs:v<65536:=by rw[h2]at hnv;exact hnv
  simp only[if_pos h2]at hk;have c1:=o6.cell (off:=1);simp only[rZ,a1A,a1B]at c1;have e1:(v:Int)+256=((v+256:Nat):Int):=by omega
  have w1':IntKind.u64.wrap ((v+256:Nat):Int)=((v+256:Nat):Int):=eL (by omega) (by omega);simp(disch:=omega)only[SV,n3,c1,e1,w1'];refine jK o6 rfl (by simp[rZ]) λw7 o7 x7 s7=> ?_;have o7:aT w7 ph (rZ ⟨h.window,v+256,true,h.sum⟩):=o7;exact aEP (h:=⟨h.window,v+256,true,h.sum⟩) (o46.ext x7 hne.2.2) o7 (ot6.ext x7 λh=>hne.1 h.symm) hne (by omega) hb λw' xx=>hk w' ((xall.seq (x7.mono λ_ _ h=> .inr (.inl h))).seq (xx.mono λ_ _ h=>h.elim .inl λh=> .inr (.inl h)))
 .have n3:(((n:Nat):Int)==2)=false:=beq_eq_false_iff_ne.2 (by omega);simp only[if_neg h2]at hk;simp(disch:=omega)only[SV,n3];exact aEP (h:=⟨h.window,v,true,h.sum⟩) o46 o6 ot6 hne (by omega) hb λw' xx=>hk w' (xall.seq (xx.mono λ_ _ h=>h.elim .inl λh=> .inr (.inl h)))
theorem aJ8 {s:List UInt8×Int}(hd:d<256)(hx:s=(aM x,e))(hk0:h.known=false)(hs0:h.size=0)(or:aT w pr [.string x,.int .i64 e])(oh:aT w ph (rZ h))(ot:aT w pt (rZ z))(hne:ph≠pt/\pr≠pt/\pr≠ph)(hL:x.size<=b.size)(hb:b.size<=1000000)
 (hk:∀w',aE w w' (λy=>y=pt∨y=ph∨y=pr)->RR (fRV (ZP b.size (opS s (R3 d)) dict ⟨if L3 d then fSz d (opV s (R3 d))else h.window,fSz d (opV s (R3 d)),decide (0<R3 d),h.sum⟩)) w'):
 BL RR (.string b) (.pointer (some ⟨pt,0,none⟩)) (.pointer (some ⟨ph,0,none⟩)) (.pointer (some ⟨pr,0,none⟩)) (.int .u64 (d:Nat)) (.bool (L3 d)) (.int .u64 (dict:Nat)) w:=by
 unfold BL alJ;have hq:((d:Nat):Int).tdiv 64=((d/64:Nat):Int):=by rw[a1R (by omega)];omega
 refine pD (cells:= #[.int .i64 0,.int .i64 2,.int .i64 4,.int .i64 8]) (by decide) (by decide) (by kernel_rfl) λw1 o1 x1 s1=> ?_;have main:∀n,R3 d=n->n<=8->BK RR (.string b) (.pointer (some ⟨pt,0,none⟩)) (.pointer (some ⟨ph,0,none⟩)) (.pointer (some ⟨pr,0,none⟩)) (.bool (L3 d)) (.int .u64 (dict:Nat)) (.int .i64 (n:Nat)) w1:=by
  intro n hn h8;unfold fSz at hk;rw[hn]at hk;exact aRS hx h8 hk0 hs0 (or.ext x1 λh=>h) (oh.ext x1 λh=>h) (ot.ext x1 λh=>h) hne hL hb λw' xx=>hk w' ((x1.mono λ_ _ h=>h.elim).seq xx)
 have k0:=o1.cell (off:=0);have k1:=o1.cell (off:=1);have k2:=o1.cell (off:=2);have k3:=o1.cell (off:=3);simp only[a1A,a1B]at k0 k1 k2 k3;rcases(show d/64=0∨d/64=1∨d/64=2∨d/64=3 by omega)with h4|h4|h4|h4<;>rw[h4]at hq
 .have t:((0:Nat):Int).toNat=0:=rfl;have n1:((0:Int)==0)=true:=rfl;cases ho:L3 d with
  |true=>
   have:=main 1 (by unfold R3;rw[if_pos h4,if_pos ho]) (by omega);rw[ho]at this;simp(disch:=omega)only[SV,hq,t,k0,n1];exact this
  |false=>
   have:=main 0 (by unfold R3;rw[if_pos h4,if_neg (by rw[ho];decide)]) (by omega);rw[ho]at this;simp(disch:=omega)only[SV,hq,t,k0,n1];exact this
 .have t:((1:Nat):Int).toNat=1:=rfl;have n1:((2:Int)==0)=false:=rfl;simp(disch:=omega)only[SV,hq,t,k1,n1];exact main 2 (by unfold R3;rw[if_neg (by omega),h4]) (by omega)
 .have t:((2:Nat):Int).toNat=2:=rfl;have n1:((4:Int)==0)=false:=rfl;simp(disch:=omega)only[SV,hq,t,k2,n1];exact main 4 (by unfold R3;rw[if_neg (by omega),h4]) (by omega)
 .have t:((3:Nat):Int).toNat=3:=rfl;have n1:((8:Int)==0)=false:=rfl;simp(disch:=omega)only[SV,hq,t,k3,n1];exact main 8 (by unfold R3;rw[if_neg (by omega),h4]) (by omega)
theorem aJ9 {s:List UInt8×Int}(hd:d<256)(hx:s=(aM x,e))(hk0:h.known=false)(hs0:h.size=0)(or:aT w pr [.string x,.int .i64 e])(oh:aT w ph (rZ h))(ot:aT w pt (rZ z))(hne:ph≠pt/\pr≠pt/\pr≠ph)(hL:x.size<=b.size)(hb:b.size<=1000000)
 (hk:∀w',aE w w' (λy=>y=pt∨y=ph∨y=pr)->RR (fRV (ZP b.size (opS (opS s (fDn d)) (R3 d)) (opV s (fDn d)) ⟨if L3 d then fSz d (opV (opS s (fDn d)) (R3 d))else h.window,fSz d (opV (opS s (fDn d)) (R3 d)),decide (0<R3 d),h.sum⟩)) w'):
 IW RR (.string b) (.pointer (some ⟨pt,0,none⟩)) (.pointer (some ⟨ph,0,none⟩)) (.pointer (some ⟨pr,0,none⟩)) (.int .u64 (d:Nat)) (.bool (L3 d)) w:=by
 unfold IW alK;have hq:((d:Nat):Int).tmod 4=((d%4:Nat):Int):=by rw[a2B (by omega)];omega
 refine pD (cells:= #[.int .i64 0,.int .i64 1,.int .i64 2,.int .i64 4]) (by decide) (by decide) (by kernel_rfl) λw1 o1 x1 s1=> ?_;have or1:=or.ext x1 λh=>h;have oh1:=oh.ext x1 λh=>h;have ot1:=ot.ext x1 λh=>h;have lr:=aV (off:=0) or1 (by simp);simp only[a1F,a1C,a1G]at lr;have main:∀n:Nat,fDn d=n->0<n->n<=8->aL pg pL #[rv x e,.int .i64 n] w1 λt64 w1=>bF pg (Ge t64 0) w1 λt65 w=>bF pg (Ge t64 1) w λt66 w=>bF pg (Gc 40) w λaXW w=>bF pg (dL 40 aXW t65) w λ_u w=>bF pg (cK 40 aXW) w λt67 w=>bF pg (dL 40 (.pointer (some ⟨pr,0,none⟩)) t67) w λ_u w=>BL RR (.string b) (.pointer (some ⟨pt,0,none⟩)) (.pointer (some ⟨ph,0,none⟩)) (.pointer (some ⟨pr,0,none⟩)) (.int .u64 (d:Nat)) (.bool (L3 d)) t66 w:=by
  intro n hn h0 h8;rw[hn]at hk;refine adQ hx ⟨h0,h8⟩ ?_;rintro r w2 ⟨x',e',rfl,hnx,hsz⟩ x2;have hop:opS s n=(aM x',e'):=by unfold opS;rw[if_pos h0,hnx]
  have hov:opV s n=nvS s n:=by unfold opV;rw[if_pos h0]
  rw[hop,hov]at hk;simp(disch:=omega)only[SV];refine bD λw3 o3 x3 s3=> ?_;refine aS o3 rfl (by simp[one]) (by simp) λw4 o4 x4 s4=> ?_;simp only[aF,a1E,a1D]at o4;have x14:aE w1 w4 aP:=x2.seq (x3.new x4 (a1J _));have l4:=aV (off:=0) o4 (by simp);simp only[a1F,a1C,a1G]at l4;simp(disch:=omega)only[SV,l4];refine aS (or1.ext x14 λh=>h) rfl (by simp[one]) (by simp) λw5 o5 x5 s5=> ?_;have o5:aT w5 pr [.string x',.int .i64 e']:=o5;exact aJ8 (s:=(aM x',e')) hd rfl hk0 hs0 o5 ((oh1.ext x14 λh=>h).ext x5 λh=>hne.2.2 h.symm) ((ot1.ext x14 λh=>h).ext x5 λh=>hne.2.1 h.symm) hne (by omega) hb λw' xx=>hk w' ((((x1.seq x14).mono λ_ _ h=>h.elim).seq (x5.mono λ_ _ h=> .inr (.inr h))).seq xx)
 have k0:=o1.cell (off:=0);have k1:=o1.cell (off:=1);have k2:=o1.cell (off:=2);have k3:=o1.cell (off:=3);simp only[a1A,a1B]at k0 k1 k2 k3;rcases(show d%4=0∨d%4=1∨d%4=2∨d%4=3 by omega)with h4|h4|h4|h4<;>rw[h4]at hq
 .have t:((0:Nat):Int).toNat=0:=rfl;have n1:decide ((0:Int)>0)=false:=rfl;have n2:decide ((0:Int)<0)=false:=rfl;have hn:fDn d=0:=by unfold fDn;rw[if_neg (by omega),h4]
  rw[hn]at hk;simp(disch:=omega)only[SV,hq,t,k0,n1,n2];exact aJ8 (dict:=0) hd hx hk0 hs0 or1 oh1 ot1 hne hL hb λw' xx=>hk w' ((x1.mono λ_ _ h=>h.elim).seq xx)
 .have t:((1:Nat):Int).toNat=1:=rfl;have n1:decide ((1:Int)>0)=true:=rfl;have n2:decide ((0:Int)<1)=true:=rfl;simp(disch:=omega)only[SV,hq,t,k1,n1,n2,lr];exact main 1 (by unfold fDn;rw[if_neg (by omega),h4]) (by omega) (by omega)
 .have t:((2:Nat):Int).toNat=2:=rfl;have n1:decide ((2:Int)>0)=true:=rfl;have n2:decide ((0:Int)<2)=true:=rfl;simp(disch:=omega)only[SV,hq,t,k2,n1,n2,lr];exact main 2 (by unfold fDn;rw[if_neg (by omega),h4]) (by omega) (by omega)
 .have t:((3:Nat):Int).toNat=3:=rfl;have n1:decide ((4:Int)>0)=true:=rfl;have n2:decide ((0:Int)<4)=true:=rfl;simp(disch:=omega)only[SV,hq,t,k3,n1,n2,lr];exact main 4 (by unfold fDn;rw[if_pos h4]) (by omega) (by omega)
theorem aXN(h:d<256):((IntKind.u64.wrap ((d:Int).tdiv 8)).tmod 2==1)=(d/8%2==1)/\((IntKind.u64.wrap ((d:Int).tdiv 4)).tmod 2==1)=(d/4%2==1)/\((IntKind.u64.wrap ((d:Int).tdiv 32)).tmod 2==1)=(d/32%2==1):=by
 have:∀k:Fin 256,((IntKind.u64.wrap ((k.val:Int).tdiv 8)).tmod 2==1)=(k.val/8%2==1)/\((IntKind.u64.wrap ((k.val:Int).tdiv 4)).tmod 2==1)=(k.val/4%2==1)/\((IntKind.u64.wrap ((k.val:Int).tdiv 32)).tmod 2==1)=(k.val/32%2==1):=by decide+kernel
 exact this ⟨d,h⟩
theorem aJU(hb:b.size<=1000000):aL pg Vh #[.string b] w (λr w'=>r=fRV (QD (aM b))/\aE w w' aP):=by
 refine aCj ?_;obtain⟨RR,hRR⟩:∃RR:a7C->a7B->Prop,RR=λr w'=>r=fRV (QD (aM b))/\aE w w' aP:=⟨_,rfl⟩;rw[<-hRR];have hlb:=aI b;unfold aED adH adG;refine rF λw1 o1 x1 s1=> ?_;obtain⟨pt,hpt⟩:∃p,p=w.heap.size:=⟨_,rfl⟩;have o1:aT w1 pt (rZ ⟨0,0,false,false⟩):=by rw[hpt];exact o1
 rw[<-hpt];refine rF λw2 o2 x2 s2=> ?_;obtain⟨ph,hph⟩:∃p,p=w1.heap.size:=⟨_,rfl⟩;have o2:aT w2 ph (rZ ⟨0,0,false,false⟩):=by rw[hph];exact o2
 rw[<-hph];have x02:=x1.seq x2;have z1:=o1.lt;have z2:=o2.lt;simp(disch:=omega)only[SV];refine adQ (x:=b) (e:=0) (s:=(aM b,0)) (n:=1) rfl ⟨by omega,by omega⟩ ?_;rintro r w3 ⟨x',e',rfl,hnx,hsz⟩ x3;have hd:=VO (aM b,0) 1;have hfr:QD (aM b)=if(nxS (aM b,0) 1).2≠0 then .error (nxS (aM b,0) 1).2 else if nvS (aM b,0) 1/8%2=1 then .error 11 else aAQ (aM b).length (nxS (aM b,0) 1) (nvS (aM b,0) 1):=rfl
 rw[hnx,hlb]at hfr;obtain⟨d,hd'⟩:∃d,d=nvS (aM b,0) 1:=⟨_,rfl⟩;rw[<-hd']at hd hfr⊢;have hd:d<256:=hd;obtain⟨b8,b4,b32⟩:=aXN hd;simp(disch:=omega)only[SV];refine bD λw4 o4 x4 s4=> ?_;obtain⟨pr,hpr⟩:∃p,p=w3.heap.size:=⟨_,rfl⟩;rw[<-hpr]at o4⊢;refine aS o4 rfl (by simp[one]) (by simp) λw5 o5 x5 s5=> ?_;have o5:aT w5 pr [.string x',.int .i64 e']:=o5;have x25:aE w2 w5 aP:=x3.seq (x4.trans x5 λy hy h=>by omega);have z3:=x3.size;have oh5:=o2.ext x25 λh=>h;have ot5:=(o1.ext x2 λh=>h).ext x25 λh=>h;have x05:=x02.seq x25;have c1:=o5.cell (off:=1);have f1:=(aH o5).cell (off:=1);simp only[a1A,a1B]at c1 f1;have fin:∀{w':a7B},aE w5 w' (λy=>y=pt∨y=ph∨y=pr)->aE w w' aP:=λx=>x05.trans x λy hy h=>by omega
 by_cases he:e'=0;rotate_left
 .have n1:(e' !=0)=true:=by simp[he]
  rw[if_pos he]at hfr;have lh:=wS (off:=0) (aH oh5) (by simp[rZ]);simp only[rZ,a1F,a1C,a1G]at lh;simp(disch:=omega)only[SV,c1,f1,n1,lh];refine fN (aH ot5) rfl (by simp[one]) (by simp[rZ]) λw6 o6 x6 s6=> ?_;have g0:=((aH o5).ext x6 (by omega)).cell (off:=1);simp only[a1A,a1B]at g0;simp(disch:=omega)only[SV,g0];refine lA o6 (by simp[aF,rZ]) ?_;rw[hRR,hfr];exact⟨rfl,fin ((aE.dr w5 _).seq (x6.mono λy _ h=> .inl h))⟩
 subst he;have n1:((0:Int) !=0)=false:=rfl;rw[if_neg (by simp)]at hfr;by_cases h8:d/8%2=1
 .have n2:(d/8%2==1)=true:=by simpa using h8
  rw[n2]at b8;rw[if_pos h8]at hfr;have lh:=wS (off:=0) oh5 (by simp[rZ]);simp only[rZ,a1F,a1C,a1G]at lh;simp(disch:=omega)only[SV,c1,n1,b8,lh];refine fN ot5 rfl (by simp[one]) (by simp[rZ]) λw6 o6 x6 s6=> ?_;refine lA o6 (by simp[aF,rZ]) ?_;rw[hRR,hfr];exact⟨rfl,fin (x6.mono λy _ h=> .inl h)⟩
 have n2:(d/8%2==1)=false:=by simpa using h8
 rw[n2]at b8;rw[if_neg h8]at hfr;unfold aAQ at hfr;have lr:=aV (off:=0) o5 (by simp);simp only[a1F,a1C,a1G]at lr;simp(disch:=omega)only[SV,c1,n1,b8,b4,b32,lr];refine aHQ oh5 rfl (by simp[rZ]) λw6 o6 x6 s6=> ?_;have o6:aT w6 ph (rZ ⟨0,0,false,d/4%2==1⟩):=o6;have or6:=o5.ext x6 (by omega);have ot6:=ot5.ext x6 (by omega);have l6:=aV (off:=0) or6 (by simp);simp only[a1F,a1C,a1G]at l6;have hfo:(d/32%2==1)=L3 d:=rfl;rw[hfo]at b32;unfold fS2 at hfr;cases ho:L3 d with
 |true=>
  have h32:(d/32%2==1)=true:=ho;rw[if_pos ho]at hfr;simp(disch:=omega)only[SV,h32,a3P,l6];have:=aJ9 (RR:=RR) (b:=b) (s:=(aM x',0)) hd rfl rfl rfl or6 o6 ot6 (by omega) (by omega) hb λw' xx=>by
   rw[hRR,hfr];refine⟨?_,fin ((x6.mono λy _ h=> .inr (.inl h)).seq xx)⟩;rw[if_pos ho,if_pos ho]
  rw[ho]at this;exact this
 |false=>
  have h32:(d/32%2==1)=false:=ho;rw[if_neg (by rw[ho];decide)]at hfr;simp(disch:=omega)only[SV,h32,a4Z,l6];refine adQ (n:=1) rfl ⟨by omega,by omega⟩ ?_;rintro r w7 ⟨x2',e2',rfl,hnx2,hsz2⟩ x7;have hdw:=VO (aM x',0) 1;simp(disch:=omega)only[SV];refine bD λw8 o8 x8 s8=> ?_;refine aS o8 rfl (by simp[one]) (by simp) λw9 o9 x9 s9=> ?_;simp only[aF,a1E,a1D]at o9;have x69:aE w6 w9 aP:=x7.seq (x8.new x9 (a1J _));have l9:=aV (off:=0) o9 (by simp);simp only[a1F,a1C,a1G]at l9;simp(disch:=omega)only[SV,l9];refine aS (or6.ext x69 λh=>h) rfl (by simp[one]) (by simp) λw10 o10 x10 s10=> ?_;have o10:aT w10 pr [.string x2',.int .i64 e2']:=o10
  try simp(disch:=omega)only[SV]
  refine(aFv (show nvS (aM x',0) 1<256 from hdw)).mono ?_;rintro r w11 ⟨rfl,hw⟩;rw[hw];clear hw w11
  try simp(disch:=omega)only[SV]
  refine jK ((o6.ext x69 λh=>h).ext x10 (by omega)) rfl (by simp[rZ]) λw11 o11 x11 s11=> ?_;have o11:aT w11 ph (rZ ⟨aKD (nvS (aM x',0) 1),0,false,d/4%2==1⟩):=o11;have:=aJ9 (RR:=RR) (b:=b) (s:=(aM x2',e2')) hd rfl rfl rfl (o10.ext x11 (by omega)) o11 (((ot6.ext x69 λh=>h).ext x10 (by omega)).ext x11 (by omega)) (by omega) (by omega) hb λw' xx=>by
   rw[hRR,hfr,hnx2];refine⟨?_,fin ((((x6.mono λy _ h=> .inr (.inl h)).seq (x69.mono λ_ _ h=>h.elim)).seq ((x10.mono λy _ h=> .inr (.inr h)).seq (x11.mono λy _ h=> .inr (.inl h)))).seq xx)⟩;rw[if_neg (by rw[ho];decide)]
  rw[ho]at this;exact this
def rbX(l:List UInt8):a7C:=if l.length<3 then .tuple #[.agg #[.bool false,.int .i64 0,.int .i64 0],.int .i64 10]else rbV (l.take 3)
theorem aEL:aL pg DR #[.string b] w (λr w'=>r=rbX (aM b)/\aE w w' aP):=by
 refine adF ?_;obtain⟨RR,hRR⟩:∃RR:a7C->a7B->Prop,RR=λr w'=>r=rbX (aM b)/\aE w w' aP:=⟨_,rfl⟩;rw[<-hRR];unfold Yq Pb;refine rE λw1 o1 x1 s1=> ?_;obtain⟨pt,hpt⟩:∃p,p=w.heap.size:=⟨_,rfl⟩;rw[<-hpt]at o1⊢;simp(disch:=omega)only[SV];refine adQ (x:=b) (e:=0) (s:=(aM b,0)) (n:=3) rfl ⟨by omega,by omega⟩ ?_;rintro r w2 ⟨x',e',rfl,hnx,hsz⟩ x2;simp(disch:=omega)only[SV];refine bD λw3 o3 x3 s3=> ?_;obtain⟨pr,hpr⟩:∃p,p=w2.heap.size:=⟨_,rfl⟩;rw[<-hpr]at o3⊢;refine aS o3 rfl (by simp[one]) (by simp) λw4 o4 x4 s4=> ?_;have o4:aT w4 pr [.string x',.int .i64 e']:=o4;have z1:=o1.lt;have z2:=x2.size;have x14:aE w1 w4 aP:=x2.seq (x3.trans x4 λy hy h=>by omega);have ot4:=o1.ext x14 λh=>h;have c1:=o4.cell (off:=1);have f1:=(aH o4).cell (off:=1);simp only[a1A,a1B]at c1 f1;have fin:∀{w':a7B},aE w4 w' (λy=>y=pt)->aE w w' aP:=λx=>(x1.seq x14).trans x λy hy h=>by omega
 unfold rbX at hRR;by_cases h3:(aM b).length<3
 .have ht:gH (aM b) 0 3=([],aM b,10):=by unfold gH;rw[if_neg (by decide),if_pos h3]
  unfold nxS at hnx;rw[ht]at hnx;obtain rfl:e'=10:=by injection hnx with h1 h2;exact h2.symm
  have n1:((10:Int) !=0)=true:=rfl;rw[if_pos h3]at hRR;simp(disch:=omega)only[SV,c1,f1,n1];refine iG (aH ot4) rfl (by simp[one]) (by simp) λw5 o5 x5 s5=> ?_;have g0:=((aH o4).ext x5 (by omega)).cell (off:=1);simp only[a1A,a1B]at g0;simp(disch:=omega)only[SV,g0];refine wT o5 (by simp[aF]) ?_;rw[hRR];exact⟨rfl,fin ((aE.dr w4 _).seq x5)⟩
 rw[if_neg h3]at hRR;have ht:gH (aM b) 0 3=((aM b).take 3,(aM b).drop 3,0):=by unfold gH;rw[if_neg (by decide),if_neg h3]
 unfold nxS at hnx;rw[ht]at hnx;obtain rfl:e'=0:=by injection hnx with h1 h2;exact h2.symm
 have hv:nvS (aM b,0) 3=cG ((aM b).take 3):=by unfold nvS;rw[ht]
 have hn:=VO (aM b,0) 3;unfold rbV rbA at hRR;rw[<-hv]at hRR;obtain⟨x,hx⟩:∃x,x=nvS (aM b,0) 3:=⟨_,rfl⟩;rw[<-hx]at hRR hn⊢;have hn:x<16777216:=hn;have n1:((0:Int) !=0)=false:=rfl;have e2:(x:Int).tdiv 2=((x/2:Nat):Int):=by rw[a1R (by omega)];omega
 have e8:(x:Int).tdiv 8=((x/8:Nat):Int):=by rw[a1R (by omega)];omega
 have m2:((x:Int).tmod 2==1)=(x%2==1):=by
  rw[a2B (by omega),Bool.eq_iff_iff,beq_iff_eq,beq_iff_eq];omega
 have w2:IntKind.u64.wrap ((x/2:Nat):Int)=((x/2:Nat):Int):=eL (by omega) (by omega);have w8:IntKind.u64.wrap ((x/8:Nat):Int)=((x/8:Nat):Int):=eL (by omega) (by omega);have m4:((x/2:Nat):Int).tmod 4=((x/2%4:Nat):Int):=by rw[a2B (by omega)];omega
 have i4:IntKind.i64.wrap ((x/2%4:Nat):Int)=((x/2%4:Nat):Int):=dM (by omega) (by omega);have i8:IntKind.i64.wrap ((x/8:Nat):Int)=((x/8:Nat):Int):=dM (by omega) (by omega);by_cases hk:x/2%4=3
 .have n3:(((x/2%4:Nat):Int)==3)=true:=by rw[hk]<;>rfl
  rw[if_pos hk]at hRR;simp(disch:=omega)only[SV,c1,n1,e2,w2,m4,n3];refine iG ot4 rfl (by simp[one]) (by simp) λw5 o5 x5 s5=> ?_;refine wT o5 (by simp[aF]) ?_;rw[hRR];exact⟨rfl,fin x5⟩
 .have n3:(((x/2%4:Nat):Int)==3)=false:=beq_eq_false_iff_ne.2 (by omega);rw[if_neg hk]at hRR;simp(disch:=omega)only[SV,c1,n1,e2,w2,m4,n3,m2,e8,w8,i4,i8];refine iG ot4 rfl (by simp[one]) (by simp) λw5 o5 x5 s5=> ?_;refine wT o5 (by simp[aF]) ?_;rw[hRR];exact⟨rfl,fin x5⟩
theorem aHM{s:ByteArray}(h:0<n->0<s.size)(hn:n<=1000000):
 aL pg RG #[.string s,.int .i64 (n:Nat)] w (λr w'=>r= .string ⟨(List.replicate n ((aM s).headD 0)).toArray⟩/\aE w w' aP):=by
 refine aAh ?_;obtain⟨c,hc⟩:∃c,c=(aM s).headD 0:=⟨_,rfl⟩;rw[<-hc];obtain⟨RR,hRR⟩:∃RR:a7C->a7B->Prop,RR=λr w'=>r= .string ⟨(List.replicate n c).toArray⟩/\aE w w' aP:=⟨_,rfl⟩;rw[<-hRR];unfold aBh adP adO;refine aaM (by omega) (by omega) λw1 o1 x1 s1=> ?_;simp only[a1H]at o1⊢;obtain⟨p,hp⟩:∃p,p=w.heap.size:=⟨_,rfl⟩;rw[<-hp]at o1⊢;unfold Pe Pd adN F5;refine aN.rule (λm (t:a7C) w'=>∃i:Nat,m=n-i/\t= .int .i64 i/\i<=n/\aT w' p (List.replicate i (kH c)++List.replicate (n-i) (.int .u8 0))/\aE w1 w' (λy=>y=p)) n
  ⟨0,rfl,rfl,by omega,by simpa using o1,aE.refl _ _⟩ ?_
 rintro m t w2 ⟨i,rfl,rfl,hi,o2,x2⟩;unfold adM;by_cases hlt:i<n
 .have d1:decide ((i:Int)<(n:Int))=true:=by simp;omega
  have ti:(i:Int).toNat=i:=a1H _;have e1:(i:Int)+1=((i+1:Nat):Int):=by omega
  have h0:0<s.size:=h (by omega);have hl:=aI s;have hix:s[(0:Int).toNat]'h0=c:=by
   rw[Fq,hc,List.headD_eq_head?_getD,List.head?_eq_getElem?,a1I (by omega)]<;>rfl
  simp(disch:=omega)only[SV,d1,ti,hix,a1Q,a2Z];refine awN o2 (by simp[one,kH]) (by simp;omega) λw3 o3 x3 s3=> ?_;rw[a3H _ _ (by simp),a2C,a5N,show n-i=(n-(i+1))+1 from by omega,a2S,a1E]at o3;simp(disch:=omega)only[SV,e1];refine⟨n-(i+1),by omega,i+1,rfl,rfl,by omega, ?_,x2.seq x3⟩;rw[a5C,a2R];exact o3
 .have d1:decide ((i:Int)<(n:Int))=false:=by simp;omega
  have hin:i=n:=by omega
  subst hin;unfold Pc;have hb:Bs w2 (.slice (some ⟨p,0,none⟩) i i) (List.replicate i c):=by
   have:=o2.bs (off:=0) (c:=i) (l:=List.replicate i c) (by simp) (λj hj=>by
    rw[a2C]at hj;rw[a1Q,a1V (by simp;omega)];simp[a5F,hj])
   rw[a2C]at this;exact this
  have hcv:=cU hb;simp(disch:=omega)only[SV,d1,hcv];rw[hRR];exact⟨rfl,x1.trans x2 λy hy h=>by omega⟩
theorem aEW(h:∀k,k<3->GK k (t k))(B:List Bool)(st:Nat->Nat)(left:Int):Qd t (sts t B 3 st left).1/\left-27<=(sts t B 3 st left).2/\(sts t B 3 st left).2<=left:=by
 have g0:=(h 0 (by omega)).lg;have g1:=(h 1 (by omega)).lg;have g2:=(h 2 (by omega)).lg;have e:(sts t B 3 st left).2=left-(t 0).1-(t 1).1-(t 2).1:=rfl;refine⟨λk hk=>⟨h k hk, ?_⟩,by omega,by omega⟩;rw[(h k hk).len];rcases(show k=0∨k=1∨k=2 by omega)with rfl|rfl|rfl
 .exact anO B left (t 0).1
 .exact anO B (left-(t 0).1) (t 1).1
 .exact anO B (left-(t 0).1-(t 1).1) (t 2).1
theorem Ws(o:Nat->TT)(n:Nat)(l:List UInt8):aKz o n l=match QK o l with
 | .error e=> .error e
 | .ok (t,r)=>I9 t n r:=by
 cases l with
 |nil=>rfl
 |cons m l=>
  unfold aKz QK;by_cases hm:m.toNat%4≠0
  .simp only[if_pos hm]
  .simp only[if_neg hm];cases Ml m.toNat o 3 o l<;>rfl
theorem amV{o:Nat->TT}{r:List UInt8}(ho:aCG o)(h:QK o l= .ok (t,r)):(∀k,k<3->GK k (t k))/\r.length<=l.length:=by
 cases l with
 |nil=>cases h
 |cons m l=>
  have hh:QK o (m::l)=if m.toNat%4≠0 then .error 11 else Ml m.toNat o 3 o l:=rfl
  rw[hh]at h;by_cases hm:m.toNat%4≠0
  .rw [if_pos hm]at h;cases h
  .rw [if_neg hm]at h;obtain⟨h1,h2⟩:=aGC ho (by omega) (λk hk=>by omega) h;exact⟨h1,by simp;omega⟩
theorem aHv{r:List UInt8}(h:ayX l= .ok (n,r)):n<=98047/\r.length<=l.length:=by
 cases l with
 |nil=>cases h
 |cons f l=>
  have hf:f.toNat<256:=a2D f;rw[ayX]at h;split at h
  .cases h;exact⟨by omega,by simp⟩
  .split at h
   .cases l with
    |nil=>cases h
    |cons x l=>
     have hx:x.toNat<256:=a2D x;cases h;exact⟨by omega,by simp;omega⟩
   .match l with
    |[]=>cases h
    |[x]=>cases h
    |x::y::l=>
     have hx:x.toNat<256:=a2D x;have hy:y.toNat<256:=a2D y;cases h;exact⟨by omega,by simp;omega⟩
theorem aHH{k1:K5}{t5 n8:a7C}{ps lo hi:Nat}{a:Nat->Option Addr}{st:Nat->Nat}{left:Int}(oT:aT w pt (c6 t a))(hT:P9 w t a)(oS:aT w ps (s3L st))(hB:UP w lo hi l left)
 (h1:pt<lo) (h2:lo<=hi) (h3:hi<ps) (hG:∀k,k<3->GK k (t k)) (hl:l.length<=1000000) (hb1:left<=8*l.length) (hb2: -90000000<=left)
 (hk:∀w',aT w' ps (s3L (sts t (aG l) 3 st left).1)->UP w' lo hi l (sts t (aG l) 3 st left).2->aE w w' (λy=>y=hi∨y=ps)->k1 t5 n8 (.pointer (some ⟨pt,0,none⟩)) (.pointer (some ⟨hi,0,none⟩)) (.pointer (some ⟨ps,0,none⟩)) w'):
 lP k1 t5 n8 (.pointer (some ⟨pt,0,none⟩)) (.pointer (some ⟨hi,0,none⟩)) (.pointer (some ⟨ps,0,none⟩)) (.int .i64 0) w:=by
 have hps:=oS.lt;unfold lP;refine aN.rule (λn (v:a7C) w'=>∃(j:Nat) (st':Nat->Nat) (left':Int),n=j/\j<=3/\v= .int .i64 (3-j:Nat)/\aT w' ps (s3L st')/\UP w' lo hi l left'/\sts t (aG l) 3 st left=sts t (aG l) j st' left'/\left-20*(3-j:Nat)<=left'/\left'<=left/\aE w w' (λy=>y=hi∨y=ps)) 3
  ⟨3,st,left,rfl,a1J _,rfl,oS,hB,rfl,by simp,a6P _,aE.refl _ _⟩ ?_
 rintro j v w1 ⟨n,st',left',rfl,hj,rfl,oS1,hB1,hE,hc1,hc2,x1⟩;unfold Py;rcases j with _|j
 .have d1:decide (((3-0:Nat):Int)<3)=false:=rfl;simp(disch:=omega)only[SV,d1];rw[hE]at hk;exact hk _ oS1 hB1 x1
 .obtain ⟨k,hkk⟩:∃k,k=2-j:=⟨_,rfl⟩;have hk3:k<3:=by omega
  have ek:((3-(j+1):Nat):Int)=(k:Int):=by omega
  have d1:decide ((k:Int)<3)=true:=by simp;omega
  rw[ek];have hN:sts t (aG l) (j+1) st' left'=sts t (aG l) j (upS st' k (B6 (aG l) left' (t k).1)) (left'-(t k).1):=by rw[hkk]<;>rfl
  have hGk:=hG k hk3;have hlg:=hGk.lg;have oT1:=oT.ext x1 (by omega);have l2:=dX (off:=k*2) oT1 (by simp[c6];omega);rw[aNf _ _ hk3]at l2;simp(disch:=omega)only[SV,d1,l2,a1H];obtain⟨cs,oc,hcs⟩:=hB1.hd;refine(amT hB1 h2 oc.lt (by omega) (by omega) (by omega) hl).mono ?_;rintro v w2 ⟨rfl,hB2,x2⟩;have q1:iI ((aG l).take left'.toNat) (t k).1=B6 (aG l) left' (t k).1:=rfl;rw[q1];have oS2:=oS1.ext x2 (by omega);refine eZ oS2 rfl (by simp[s3L];omega) λw3 o3 x3 s3=> ?_;rw[aRU _ hk3]at o3;have e1:(k:Int)+1=((3-j:Nat):Int):=by omega
  simp(disch:=omega)only[SV,e1];refine⟨j,by omega,_,_,_,rfl,by omega,rfl,o3,hB2.ext x3 (λb _ _=>by omega) h2,by rw[hE,hN],by omega,by omega,(x1.seq (x2.mono λ_ _ h=> .inl h)).seq (x3.mono λ_ _ h=> .inr h)⟩
def aIq(w:a7B)(base:Nat)(x:Except Int (List Sq×(Nat->TT)))(r:a7C):Prop:=match x with
 | .error e=>r= .tuple #[.slice none 0 0,BF,.int .i64 e]
 | .ok (q,t)=>∃v a,r= .tuple #[v,.agg (c6 t a).toArray,.int .i64 0]/\mH w base 3 v q.length (sqs q)/\P9 w t a
theorem aeK{x0 x1 x2:Int}{a0 a1 a2:Option Addr}{n0 n1 n2:Nat}{c:List a7C}{s e:a7C}(o:aT w p c)(hc:c.length=6)
 (hR:∀w',aE w w' (λy=>y=p)->RR (.tuple #[s,.agg #[.int .i64 x0,.slice a0 n0 n0,.int .i64 x1,.slice a1 n1 n1,.int .i64 x2,.slice a2 n2 n2],e]) w'):
 bF pg (dL 81 (.pointer (some ⟨p,0,none⟩)) (.agg #[.int .i64 x0,.slice a0 n0 n0,.int .i64 x1,.slice a1 n1 n1,.int .i64 x2,.slice a2 n2 n2])) w λ_u w=>LdR pg 81 (.pointer (some ⟨p,0,none⟩)) w λr1=>RR (.tuple #[s,r1,e]) w:=by
 match c,hc with
 |[c0,c1,c2,c3,c4,c5],_=>
  refine dT o rfl (by simp[one]) (by simp) λw6 o6 x6 s6=> ?_;refine JB o6 (by simp[aF]) ?_;simp only[aF,a1E,a1D,a1F,a1C,a1G];exact hR _ x6
theorem aGA{bv:a7C}{o:Nat->TT}{a:Nat->Option Addr}(hg:tY w)(hb:Bs w bv l)(hl:l.length<=1000000)(hT:P9 w o a)(hO:aCG o):
 aL pg Hs #[bv,.agg (c6 o a).toArray] w (λr w'=>aIq w' w.heap.size (sK l o) r/\aE w w' aP):=by
 refine agT ?_;obtain⟨RR,hRR⟩:∃RR:a7C->a7B->Prop,RR=λr w'=>aIq w' w.heap.size (sK l o) r/\aE w w' aP:=⟨_,rfl⟩;rw[<-hRR];have err:∀{e:Int} {w':a7B},sK l o= .error e->aE w w' aP->RR (.tuple #[.slice none 0 0,BF,.int .i64 e]) w':=λh x=>by
  rw[hRR];unfold aIq;rw[h];exact⟨rfl,x⟩
 unfold adU PB PA;refine bY λw1 o1 x1 s1=> ?_;have o1:aT w1 w.heap.size (c6 o a):=o1;refine fI λw2 o2 x2 s2=> ?_;have x02:=x1.seq x2;refine(rN (hb.ext x02 (aR _)) (by omega)).mono ?_;rintro r w3 ⟨p,rfl,h3,x3⟩;have hp1:=h3.1;have hp2:=h3.2.1;have o1:=(o1.ext x2 (λh=>h)).ext x3 (λh=>h);have o2:=o2.ext x3 (λh=>h);have x03:=x02.seq x3;have z2:=x02.size;refine(aKf h3 (by omega)).mono ?_;rintro r w4 ⟨hN,x4⟩;have o1:=o1.ext x4 (by omega);have o2:=o2.ext x4 (by omega);have x04:=x03.new x4 (by omega);have fin:∀{w5 w':a7B},aE w w5 aP->aE w5 w' (λy=>y=w1.heap.size)->aE w w' aP:=λh x=>h.new x (by omega);unfold aGP at hN;cases hn:ayX l with
 |error e=>
  rw[hn]at hN;obtain⟨he,n,l',rfl,h4⟩:=hN;have hR:sK l o= .error e:=by unfold sK;rw[hn]
  have n1:(e !=0)=true:=by simpa using he
  refine(qD h4).mono ?_;rintro r w5 ⟨rfl,hw⟩;rw[hw];clear hw w5;simp(disch:=omega)only[SV,n1];refine(qD h4).mono ?_;rintro r w5 ⟨rfl,hw⟩;rw[hw];clear hw w5;exact aeK o2 rfl λw' x=>err hR (fin x04 x)
 |ok y=>
  obtain⟨n,l'⟩:=y;rw[hn]at hN;obtain⟨rfl,h4⟩:=hN;obtain⟨hn1,hl'⟩:=aHv hn;have n1:((0:Int) !=0)=false:=rfl;refine(qD h4).mono ?_;rintro r w5 ⟨rfl,hw⟩;rw[hw];clear hw w5;have hR:sK l o=if n=0 then(if l'=[]then .ok ([],o)else .error 15)else aKz o n l':=by unfold sK;rw[hn]
  by_cases hn0:n=0
  .subst hn0;rw[if_pos rfl]at hR;have n2:(((0:Nat):Int)==0)=true:=rfl;simp(disch:=omega)only[SV,n1,n2];refine(EJ h4).mono ?_;rintro r w5 ⟨rfl,hw⟩;rw[hw];clear hw w5;by_cases hl0:l'=[]
   .subst hl0;rw[if_pos rfl]at hR;have d1:decide (0<((([]:List UInt8).length:Nat):Int))=false:=rfl;have l1:=fU (off:=0) (aH o1) (by simp[c6]);simp only[c6,a1F,a1C,a1G]at l1;simp(disch:=omega)only[SV,n1,n2,d1,l1];refine aeK (aH o2) rfl λw' x=> ?_;rw[hRR];unfold aIq;rw[hR];have x':=fin (x04.seq (aE.dr _ _)) x;exact⟨⟨_,a,rfl,mH.nil _ _ _,hT.ext x'⟩,x'⟩
   .rw [if_neg hl0]at hR;have hpos:=a5G.2 hl0;have d1:decide (0<((l'.length:Nat):Int))=true:=by simp;exact hpos
    simp(disch:=omega)only[SV,n1,n2,d1];exact aeK o2 rfl λw' x=>err hR (fin x04 x)
  .rw [if_neg hn0]at hR;have n2:((n:Int)==0)=false:=by simp;exact hn0
   have l1:=fU (off:=0) o1 (by simp[c6]);simp only[c6,a1F,a1C,a1G]at l1;simp(disch:=omega)only[SV,n1,n2,l1];have hO6:∀k,k<3->(o k).2.length<=1000000:=λk hk=>by
    rcases a3J (o k).2.length with h|h
    .omega
    .have:=hO k hk (a5G.1 h);rw[this.len];have:2^(o k).1<=2^9:=a1K (by omega) this.lg;omega
   have z4:=x4.size;refine(aWk hg x04 (by omega) h4 z4 (by omega) (hT.ext x04) hO6).mono ?_;rintro r w5 ⟨hTo,x5⟩;rw[Ws]at hR;have x05:=x04.new x5 (by omega);have o1:=o1.ext x5 (by omega);have o2:=o2.ext x5 (by omega);have z5:=x5.size;cases hh:QK o l' with
   |error e=>
    rw[hh]at hR hTo;obtain⟨rfl,he⟩:=hTo;have n3:(e !=0)=true:=by simpa using he
    unfold BF;simp(disch:=omega)only[SV];refine fI λw6 o6 x6 s6=> ?_;refine dT o6 rfl (by simp[one]) (by simp) λw7 o7 x7 s7=> ?_;have x57:aE w5 w7 aP:=x6.new x7 (a1J _);simp(disch:=omega)only[SV,n3];exact aeK (o2.ext x57 (λh=>h)) rfl λw' x=>err hR (fin (x05.seq x57) x)
   |ok y=>
    obtain⟨t,l2⟩:=y;rw[hh]at hR hTo;have hR:sK l o=I9 t n l2:=hR;obtain⟨ta,rfl,hT5,h5⟩:=hTo;obtain⟨hG,hl2⟩:=amV hO hh;simp only[c6];simp(disch:=omega)only[SV];refine fI λw6 o6 x6 s6=> ?_;refine dT o6 rfl (by simp[one]) (by simp) λw7 o7 x7 s7=> ?_;have o7:aT w7 w5.heap.size (c6 t ta):=o7;have x57:aE w5 w7 aP:=x6.new x7 (a1J _);have h7:=(h5.up (a1J _)).ext x57 (λ_ _ _ h=>h);have x07:=x05.seq x57;have z7:=x57.size;simp(disch:=omega)only[SV,n1];refine(EJ h7).mono ?_;rintro r w8 ⟨rfl,hw⟩;rw[hw];clear hw w8;refine(Mn h7 (by omega) (by omega)).mono ?_;rintro bv8 w8 ⟨hb8,hat8,h8,x8⟩;have htk:gH l2 0 l2.length=(l2,[],0):=by unfold gH;rw[if_neg (by decide),if_neg (by omega),a4Q,a6H]
    rw[htk]at hb8;simp only at hb8;have x08:=x07.new x8 (by omega);have z8:=x8.size;have hp5:=h5.2.1;have o8:=o7.ext x8 (by omega);have o2:=(o2.ext x57 (λh=>h)).ext x8 (by omega);have hT8:P9 w8 t ta:=(hT5.ext x57).rdr h7 x8;cases he:YM l2 with
    |none=>
     have hB:I9 t n l2= .error 11:=by unfold I9;rw[he]
     rw[hB]at hR;have n3:((11:Int) !=0)=true:=rfl;refine(Kk hb8 he (by omega)).mono ?_;rintro r w9 ⟨rfl,hw⟩;rw[hw];clear hw w9;simp(disch:=omega)only[SV,n3];exact aeK o2 rfl λw' x=>err hR (fin x08 x)
    |some k=>
     obtain⟨hk0,hk1,hk2,_⟩:=Dw he;refine(Ov hb8 he (by omega)).mono ?_;rintro r w9 ⟨hi,rfl,hhi1,hhi2,hB9,x9⟩;simp(disch:=omega)only[SV,n1];refine aKP λw10 o10 x10 s10=> ?_;have o10:aT w10 w9.heap.size (s3L (λ_=>0)):=o10;have x89:=x9.seq x10;have z10:=x10.size;unfold C2 C1 Pz lP;refine aHH (o8.ext x89 (λh=>h)) (hT8.ext x89) o10 (hB9.ext x10 (λ_ _ _ h=>h) hhi1) (by omega) hhi1 hhi2 hG (by omega) (by omega) (by omega) λw11 o11 hB11 x11=> ?_;obtain⟨g1,g2,g3⟩:=aEW hG (aG l2) (λ_=>0) (k:Int);have z11:=x11.size;have z9:=x9.size;have x011:aE w w11 aP:=(x08.seq x89).trans x11 λb hb h=>by omega
     have x811:aE w8 w11 aP:=x89.trans x11 λb hb h=>by omega
     unfold C0 Px CZ CY Pw lO;refine aLO (n:=n) (by omega) hg x011 (o8.ext x811 (λh=>h)) (hT8.ext x811) o11 hB11 (by omega) (by omega) hhi1 hhi2 g1 (by omega) (by omega) (by omega) λw12 out os12 hB12 oT12 hT12 x12=> ?_;obtain⟨_,_,hlen⟩:=aES (B:=aG l2) (n:=n) (left:=(sts t (aG l2) 3 (λ_=>0) (k:Int)).2) g1;have hB:I9 t n l2=if(runT t (aG l2) n k).2<0 then .error 11 else if 0<(runT t (aG l2) n k).2 then .error 15 else .ok ((runT t (aG l2) n k).1,t):=by unfold I9;rw[he]
     rw[hB]at hR;rw[<-aEQ]at os12 hB12 hlen;have x012:aE w w12 aP:=x011.trans x12 λb hb h=>by omega
     have x812:aE w8 w12 aP:=x811.trans x12 λb hb h=>by omega
     have o2:=o2.ext x812 (λh=>h);unfold Gf;refine(Tp hB12).mono ?_;rintro r w13 ⟨rfl,hw⟩;rw[hw];clear hw w13;generalize hq:runT t (aG l2) n k=q at*;by_cases hneg:q.2<0
     .have d1:decide (q.2<0)=true:=by simpa using hneg
      rw[if_pos hneg]at hR;simp(disch:=omega)only[SV,d1];exact aeK o2 rfl λw' x=>err hR (fin x012 x)
     .have d1:decide (q.2<0)=false:=by simpa using hneg
      rw[if_neg hneg]at hR;simp(disch:=omega)only[SV,d1];refine(Tp hB12).mono ?_;rintro r w13 ⟨rfl,hw⟩;rw[hw];clear hw w13;by_cases hps:0<q.2
      .have d2:decide (0<q.2)=true:=by simpa using hps
       rw[if_pos hps]at hR;simp(disch:=omega)only[SV,d2];exact aeK o2 rfl λw' x=>err hR (fin x012 x)
      .have d2:decide (0<q.2)=false:=by simpa using hps
       rw[if_neg hps]at hR;have l9:=fU (off:=0) (aH oT12) (by simp[c6]);simp only[c6,a1F,a1C,a1G]at l9;simp(disch:=omega)only[SV,d2,l9];refine aeK (aH o2) rfl λw' x=> ?_;rw[hRR];unfold aIq;rw[hR];have x':=fin (x012.seq (aE.dr _ _)) x;have xd:aE w12 w' (λy=>y=w1.heap.size):=(aE.dr _ _).seq x;refine⟨⟨out,ta,rfl, ?_,hT12.own o2 (by simp) (λu=>by simp) xd⟩,x'⟩;rw[hlen];exact(os12.ext xd (λb hb h=>by omega)).lower (by omega)
def aFd(l:List UInt8)(r:a7C):Prop:=match ayX l with
 | .ok (n,rest)=>∃x',r= .tuple #[rv x' 0,.int .u64 n]/\aM x'=rest
 | .error e=>e≠0/\∃(n:Nat) (x':ByteArray),r= .tuple #[rv x' e,.int .u64 n]
theorem aEM:
 aL pg MF #[rv x 0] w (λr w'=>aFd (aM x) r/\aE w w' aP):=by
 refine avN ?_;obtain⟨RR,hRR⟩:∃RR:a7C->a7B->Prop,RR=λr w'=>aFd (aM x) r/\aE w w' aP:=⟨_,rfl⟩;rw[<-hRR];unfold avM Ym;refine bY λw1 o1 x1 s1=> ?_;have o1:aT w1 w.heap.size [.string x,.int .i64 0]:=o1;refine bD λw2 o2 x2 s2=> ?_;have o1:=o1.ext x2 (λh=>h);have x02:=x1.seq x2;have z1:=x1.size;have l1:=aV (off:=0) o1 (by simp);simp only[a1F,a1C,a1G]at l1;simp(disch:=omega)only[SV,l1];refine(jQ (n:=1) (by omega)).mono ?_;rintro r w3 ⟨x',rfl,hx',x3⟩;simp(disch:=omega)only[SV];refine aS (o1.ext x3 (λh=>h)) rfl (by simp[one]) (by simp) λw4 o4 x4 s4=> ?_;simp only[aF,a1E,a1D]at o4;have z2:=x02.size;have z3:=x3.size;have x04:aE w w4 aP:=(x02.seq x3).new x4 (a1J _);have o2:=(o2.ext x3 (λh=>h)).ext x4 (by omega);have l4:=aV (off:=0) o4 (by simp);simp only[a1F,a1C,a1G]at l4;generalize aM x=L at*;have tkn:=apM 1 (a1J 1);cases L with
 |nil=>
  simp only[tkn]at hx' o4 l4⊢;have e0:((cG ([]:List UInt8):Nat):Int)=0:=rfl;have d1:decide ((0:Int)<128)=true:=rfl;simp(disch:=omega)only[SV,e0,d1,l4];refine aD7 o2 rfl λw' x5=> ?_;rw[hRR];exact⟨⟨by decide,0,x',rfl⟩,x04.new x5 (by omega)⟩
 |cons f r=>
  simp only[aAw]at hx' o4 l4⊢;have hf:cG [f]=f.toNat:=by simp[cG]
  have hf8:f.toNat<256:=a2D f;rw[hf];have hN:ayX (f::r)=if f.toNat<128 then .ok (f.toNat,r)else if f.toNat<255 then aOB f.toNat r else aOC r:=rfl
  generalize f.toNat=x at*;have fin:∀{v:a7C} {w5 w':a7B},aFd (f::r) v->aE w w5 aP->aE w5 w' (λy=>y=w1.heap.size)->RR v w':=λh x5 x6=>by
   rw[hRR];exact⟨h,x5.new x6 (by omega)⟩
  by_cases h128:x<128
  .have d1:decide ((x:Int)<128)=true:=by simp;omega
   simp(disch:=omega)only[SV,d1,l4];refine aD7 o2 rfl λw' x5=>fin ?_ x04 x5;unfold aFd;rw[hN,if_pos h128];exact⟨x',rfl,hx'⟩
  have d1:decide ((x:Int)<128)=false:=by simp;omega
  by_cases h255:x<255
  .have d2:decide ((x:Int)<255)=true:=by simp;omega
   simp(disch:=omega)only[SV,d1,d2,l4];refine(jQ (n:=1) (by omega)).mono ?_;rintro v w5 ⟨y,rfl,hy,x5⟩;rw[hx']at hy⊢;simp(disch:=omega)only[SV];refine bD λw6 o6 x6 s6=> ?_;refine aS o6 rfl (by simp[one]) (by simp) λw7 o7 x7 s7=> ?_;simp only[aF,a1E,a1D]at o7;have x57:aE w5 w7 aP:=x6.new x7 (a1J _);have x47:=x5.seq x57;have o2:=o2.ext x47 (λh=>h);have l7:=aV (off:=0) o7 (by simp);simp only[a1F,a1C,a1G]at l7;obtain⟨m,hm⟩:∃m,m=x-128:=⟨_,rfl⟩;have e1:(x:Int)-128=(m:Int):=by omega
   have e2:(m:Int)*256=((m*256:Nat):Int):=by omega
   rw[if_neg h128,if_pos h255]at hN;cases r with
   |nil=>
    simp only[tkn]at hy o7 l7⊢;have e0:((cG ([]:List UInt8):Nat):Int)=((0:Nat):Int):=rfl;have e3:((m*256:Nat):Int)+((0:Nat):Int)=((m*256:Nat):Int):=by omega
    simp(disch:=omega)only[SV,e0,e1,e2,e3,l7];refine aD7 o2 rfl λw' x8=>fin ?_ (x04.seq x47) x8;unfold aFd;rw[hN];exact⟨by decide,m*256,y,by simp⟩
   |cons g s=>
    simp only[aAw]at hy o7 l7⊢;have hg:cG [g]=g.toNat:=by simp[cG]
    have hg8:g.toNat<256:=a2D g;have hN2:aOB x (g::s)= .ok ((x-128)*256+g.toNat,s):=rfl;rw[hg];generalize g.toNat=z at*;have e3:((m*256:Nat):Int)+(z:Int)=((m*256+z:Nat):Int):=by omega
    simp(disch:=omega)only[SV,e1,e2,e3,l7];refine aD7 o2 rfl λw' x8=>fin ?_ (x04.seq x47) x8;unfold aFd;rw[hN,hN2,<-hm];exact⟨y,rfl,hy⟩
  .have d2:decide ((x:Int)<255)=false:=by simp;omega
   simp(disch:=omega)only[SV,d1,d2,l4];refine(jQ (n:=2) (by omega)).mono ?_;rintro v w5 ⟨y,rfl,hy,x5⟩;rw[hx']at hy⊢;simp(disch:=omega)only[SV];refine bD λw6 o6 x6 s6=> ?_;refine aS o6 rfl (by simp[one]) (by simp) λw7 o7 x7 s7=> ?_;simp only[aF,a1E,a1D]at o7;have x57:aE w5 w7 aP:=x6.new x7 (a1J _);have x47:=x5.seq x57;have o2:=o2.ext x47 (λh=>h);have l7:=aV (off:=0) o7 (by simp);simp only[a1F,a1C,a1G]at l7;rw[if_neg h128,if_neg h255]at hN;cases r with
   |nil=>
    simp only[apM 2 (show 1<=2 by omega)]at hy o7 l7⊢;have e0:((cG ([]:List UInt8):Nat):Int)=((0:Nat):Int):=rfl;have e3:((0:Nat):Int)+32512=((32512:Nat):Int):=rfl;simp(disch:=omega)only[SV,e0,e3,l7];refine aD7 o2 rfl λw' x8=>fin ?_ (x04.seq x47) x8;unfold aFd;rw[hN];exact⟨by decide,32512,y,rfl⟩
   |cons g s=>
    cases s with
    |nil=>
     simp only[aGD]at hy o7 l7⊢;have e0:((cG ([]:List UInt8):Nat):Int)=((0:Nat):Int):=rfl;have e3:((0:Nat):Int)+32512=((32512:Nat):Int):=rfl;simp(disch:=omega)only[SV,e0,e3,l7];refine aD7 o2 rfl λw' x8=>fin ?_ (x04.seq x47) x8;unfold aFd;rw[hN];exact⟨by decide,32512,y,rfl⟩
    |cons k s=>
     simp only[aSh]at hy o7 l7⊢;have hg:cG [g,k]=g.toNat+256*k.toNat:=by simp[cG]
     have hg8:g.toNat<256:=a2D g;have hk8:k.toNat<256:=a2D k;have hN3:aOC (g::k::s)= .ok (g.toNat+256*k.toNat+32512,s):=rfl;rw[hg];have hy6:g.toNat+256*k.toNat<65536:=by omega
     generalize g.toNat+256*k.toNat=z at*;obtain⟨u,hu⟩:∃u,u=z+32512:=⟨_,rfl⟩;have e5:(z:Int)+32512=(u:Int):=by omega
     rw[<-hu]at hN3;simp(disch:=omega)only[SV,e5,l7];refine aD7 o2 rfl λw' x8=>fin ?_ (x04.seq x47) x8;unfold aFd;rw[hN,hN3];exact⟨y,rfl,hy⟩
def zB0:List Int:=[0,1,2,3,4,5,6,7,8,9,10,11,12,13,14,15,16,18,20,22,24,28,32,40,48,64,128,256,512,1024,2048,4096,8192,16384,32768,65536]
def zB2:List Int:=[3,4,5,6,7,8,9,10,11,12,13,14,15,16,17,18,19,20,21,22,23,24,25,26,27,28,29,30,31,32,33,34,35,37,39,41,43,47,51,59,67,83,99,131,259,515,1027,2051,4099,8195,16387,32771,65539]
def pw2 (i:Nat):Int:=if i<32 then 2^i else 0
def zB1:List Int:=(List.range 32).map pw2
def aN6 (a:Int):List Int:=if a=0 then zB0 else if a=2 then zB2 else if a=1 then zB1 else[]
theorem aQm(a:Int):(((aN6 a).length:Nat):Int)=tZ a+1:=by
 unfold aN6 tZ;by_cases h0:a=0
 .subst h0;rfl
 by_cases h2:a=2
 .subst h2;rfl
 by_cases h1:a=1
 .subst h1;rfl
 rw[if_neg h0,if_neg h2,if_neg h1,if_neg h0,if_neg h1,if_neg h2]<;>rfl
theorem aIF(a:Int)(w:a7B):aL pg ME #[.int .i64 a] w (λr w'=>Sl w' r ((aN6 a).map (Value.int .u32))/\aE w w' aP):=by
 refine avI ?_;unfold avH Yl Yk;unfold aN6;by_cases h0:a=0
 .subst h0;have n1:((0:Int)==0)=true:=rfl;simp(disch:=omega)only[SV,n1];refine Vt (cells:=(zB0.map (Value.int .u32)).toArray) (by decide) (by decide) (by kernel_rfl) λw1 o1 x1 s1=> ?_;exact⟨⟨_,_,_,rfl,rfl,a1J _,λ_=>⟨_,_,rfl,λi hi=>by rw[o1.cell,a1Q]⟩⟩,x1⟩
 have n1:(a==0)=false:=beq_eq_false_iff_ne.2 h0;by_cases h2:a=2
 .subst h2;rw[if_neg h0,if_pos rfl];have n2:((2:Int)==2)=true:=rfl;simp(disch:=omega)only[SV,n1,n2];refine Vt (cells:=(zB2.map (Value.int .u32)).toArray) (by decide) (by decide) (by kernel_rfl) λw1 o1 x1 s1=> ?_;exact⟨⟨_,_,_,rfl,rfl,a1J _,λ_=>⟨_,_,rfl,λi hi=>by rw[o1.cell,a1Q]⟩⟩,x1⟩
 have n2:(a==2)=false:=beq_eq_false_iff_ne.2 h2;rw[if_neg h0,if_neg h2];simp(disch:=omega)only[SV,n1,n2];unfold Le Ld Yj Cq;by_cases h1:a=1
 .subst h1;have n3:((1:Int)==1)=true:=rfl;refine aN.rule (λm (t:a7C×a7C×a7C) w'=>∃(i:Nat) (v:a7C),m=32-i/\t=(v,.int .u32 (pw2 i),.int .i64 i)/\i<=32/\mH w' w.heap.size 1 v i ((zB1.take i).map (Value.int .u32))/\aE w w' aP) 32
   ⟨0,_,rfl,rfl,by omega,mH.nil _ _ _,aE.refl _ _⟩ ?_
  rintro m t w1 ⟨i,v,rfl,rfl,hi,ho,x1⟩;unfold Lc;by_cases hlt:i<32
  .have d1:decide ((i:Int)<32)=true:=by simp;omega
   have e1:IntKind.u32.wrap (pw2 i*2)=pw2 (i+1):=by
    have:∀k:Fin 32,IntKind.u32.wrap (pw2 k.val*2)=pw2 (k.val+1):=by decide
    exact this ⟨i,hlt⟩
   have hz:(zB1.take (i+1)).map (Value.int .u32)=(zB1.take i).map (Value.int .u32)++[.int .u32 (pw2 i)]:=by
    rw[a3F,a2I];unfold zB1;rw[a2F,a3S hlt]<;>rfl
   have z1:=x1.size;simp(disch:=omega)only[SV,d1,n3,e1];refine Vt (cells:= #[.int .u32 (pw2 i)]) (by decide) (by decide) (by kernel_rfl) λw2 o2 x2 s2=> ?_;have z2:=x2.size;refine Vm (m:=1) (news:=[.int .u32 (pw2 i)]) (ho.ext x2 (λ_ _ h=>h)) (o2.cl (off:=0) (l:=[.int .u32 (pw2 i)]) (n:=1) rfl (λi hi=>by rw[a1Q])) (by simp[one]) (by omega) (by omega) λv3 w3 o3 x3=> ?_;rw[<-hz]at o3;exact⟨32-(i+1),by omega,i+1,v3,rfl,rfl,by omega,o3,(x1.seq x2).trans x3 λb hb h=>by omega⟩
  .have d1:decide ((i:Int)<32)=false:=by simp;omega
   obtain rfl:i=32:=by omega
   unfold Cp;simp(disch:=omega)only[SV,d1];exact⟨ho.sl,x1⟩
 .have n3:(a==1)=false:=beq_eq_false_iff_ne.2 h1;refine aN.rule (λm (t:a7C×a7C×a7C) w'=>m=0/\t=(.slice none 0 0,.int .u32 1,.int .i64 0)/\w'=w) 0 ⟨rfl,rfl,rfl⟩ ?_;rintro m t w1 ⟨rfl,rfl,rfl⟩;unfold Lc Cp;have d1:decide ((0:Int)<32)=true:=rfl;rw[if_neg h1];simp(disch:=omega)only[SV,d1,n3];exact⟨Sl.nil _,aE.refl _ _⟩
end Go.Proofs.YthohephggmkeeaaGreatDoor
namespace Go.Pu
variable{i:Nat}{ns:List Nat}
def aFE(ns:List Nat)(i last:Nat):Prop:=(last=0/\∀j,j<i->ns.getD j 0=0)∨(last<i/\0<ns.getD last 0/\∀j,last<j->j<i->ns.getD j 0=0)
theorem aFE.step {last:Nat}(h:aFE ns i last):aFE ns (i+1) (if 0<ns.getD i 0 then i else last):=by
 split
 .rename_i h0;exact .inr ⟨by omega,h0,λj h1 h2=>by omega⟩
 .rename_i h0;rcases h with⟨rfl,h⟩|⟨h1,h2,h3⟩
  .refine .inl ⟨rfl,λj hj=> ?_⟩;rcases a1Y j i with h'|h'
   .exact h j h'
   .have:j=i:=by omega
    subst this;omega
  .refine .inr ⟨by omega,h2,λj hj hj2=> ?_⟩;rcases a1Y j i with h'|h'
   .exact h3 j hj h'
   .have:j=i:=by omega
    subst this;omega
theorem aFE.one {a b:Nat}(ha:aFE ns i a)(hb:aFE ns i b):a=b:=by
 rcases ha with⟨rfl,h⟩|⟨h1,h2,h3⟩
 .rcases hb with⟨rfl,_⟩|⟨k1,k2,_⟩
  .rfl
  .have:=h b k1;omega
 .rcases hb with⟨rfl,k⟩|⟨k1,k2,k3⟩
  .have:=k a h1;omega
  .rcases Nat.lt_trichotomy a b with h|h|h
   .have:=h3 b h k1;omega
   .exact h
   .have:=k3 a h h1;omega
theorem afP(h:i<ns.length):ns.getD i 0=ns[i]:=by rw[a1P,a1I h]<;>rfl
theorem aPl{α:Type}{ns:List α}(h:i<ns.length):ns.take (i+1)=ns.take i++[ns[i]]:=by
 rw[a3F,a1I h]<;>rfl
theorem aMh(h:i<ns.length):ns.take (i+1)=ns.take i++[ns.getD i 0]:=by rw[aPl h,afP h]
theorem aI2 {P:List Nat}{gr:Nat}(x:Nat)(hg:gr<P.length)(hi:i<P.length):(P.set gr x).getD i 0=if i=gr then x else P.getD i 0:=by
 rw[a1P,a1P,List.getElem?_set];by_cases h:i=gr
 .subst h;simp[hi]
 .rw [if_neg (λe=>h e.symm),if_neg h]
end Go.Pu
namespace Go.Proofs.YthohephggmkeeaaGreatDoor
open Go Go.En Go.Pu
set_option maxRecDepth 4000
variable{B L:List Bool}{M:Nat->Prop}{RR:a7C->a7B->Prop}{T:Nat×List T3}{a:Nat->Option Addr}{b bv e v:a7C}{base hi k lo log n p p6 pc pf pt st sym:Nat}{c:Nat->Nat}{left:Int}{o:Nat->TT}{ps:List Int}{w w' w0:a7B}{x:ByteArray}
theorem aQn(hk:k<3):aN6 (k:Int)=(vQ k).map λ(n:Nat)=>(n:Int):=by
 rcases(show k=0∨k=1∨k=2 by omega)with rfl|rfl|rfl<;>decide+kernel
theorem aU9 (hk:k<3)(w:a7B):aL pg Vc #[.int .i64 k] w (λr w'=>Sl w' r (((jU k).map λ(n:Nat)=>(n:Int)).map (Value.int .i64))/\aE w w' aP):=by
 refine aCd ?_;unfold aEx akU akT;by_cases h0:k=0
 .subst h0;have n1:(((0:Nat):Int)==0)=true:=rfl;simp(disch:=omega)only[SV,n1];refine pD (cells:=(((jU 0).map λ(n:Nat)=>(n:Int)).map (Value.int .i64)).toArray) (by decide) (by decide) (by kernel_rfl) λw1 o1 x1 s1=> ?_;exact⟨⟨_,_,_,rfl,rfl,a1J _,λ_=>⟨_,_,rfl,λi hi=>by rw[o1.cell,a1Q]⟩⟩,x1⟩
 have n1:((k:Int)==0)=false:=beq_eq_false_iff_ne.2 (by omega);by_cases h2:k=2
 .subst h2;have n2:(((2:Nat):Int)==2)=true:=rfl;simp(disch:=omega)only[SV,n1,n2];refine pD (cells:=(((jU 2).map λ(n:Nat)=>(n:Int)).map (Value.int .i64)).toArray) (by decide) (by decide) (by kernel_rfl) λw1 o1 x1 s1=> ?_;exact⟨⟨_,_,_,rfl,rfl,a1J _,λ_=>⟨_,_,rfl,λi hi=>by rw[o1.cell,a1Q]⟩⟩,x1⟩
 have n2:((k:Int)==2)=false:=beq_eq_false_iff_ne.2 (by omega);obtain rfl:k=1:=by omega
 simp(disch:=omega)only[SV,n1,n2];unfold SF SE akS IQ;have n3:(((1:Nat):Int)==1)=true:=rfl;refine aN.rule (λm (t:a7C×a7C) w'=>∃(i:Nat) (v:a7C),m=32-i/\t=(v,.int .i64 i)/\i<=32/\mH w' w.heap.size 1 v i (((List.range i).map λ(n:Nat)=>(n:Int)).map (Value.int .i64))/\aE w w' aP) 32
  ⟨0,_,rfl,rfl,by omega,mH.nil _ _ _,aE.refl _ _⟩ ?_
 rintro m t w1 ⟨i,v,rfl,rfl,hi,ho,x1⟩;unfold akR;by_cases hlt:i<32
 .have d1:decide ((i:Int)<32)=true:=by simp;omega
  have hz:((List.range (i+1)).map λ(n:Nat)=>(n:Int)).map (Value.int .i64)=((List.range i).map λ(n:Nat)=>(n:Int)).map (Value.int .i64)++[.int .i64 (i:Int)]:=by
   rw[a5Y,a2I,a2I]<;>rfl
  have z1:=x1.size;simp(disch:=omega)only[SV,d1,n3];refine pD (cells:= #[.int .i64 (i:Int)]) (by decide) (by decide) (by kernel_rfl) λw2 o2 x2 s2=> ?_;have z2:=x2.size;refine HD (m:=1) (news:=[.int .i64 (i:Int)]) (ho.ext x2 (λ_ _ h=>h)) (o2.cl (off:=0) (l:=[.int .i64 (i:Int)]) (n:=1) rfl (λi hi=>by rw[a1Q])) (by simp[one]) (by omega) (by omega) λv3 w3 o3 x3=> ?_;rw[<-hz]at o3;exact⟨32-(i+1),by omega,i+1,v3,rfl,rfl,by omega,o3,(x1.seq x2).trans x3 λb hb h=>by omega⟩
 .have d1:decide ((i:Int)<32)=false:=by simp;omega
  obtain rfl:i=32:=by omega
  unfold SD;simp(disch:=omega)only[SV,d1];exact⟨ho.sl,x1⟩
theorem aOO{c:Nat}(hk:k<3)(hc:c<oA k):
 aL pg Vd #[.int .i64 k,.int .i64 c] w (λr w'=>r= .tuple #[.int .u32 ((vQ k).getD c 0:Nat),.int .i64 ((jU k).getD c 0:Nat),.int .i64 0]/\aE w w' aP):=by
 refine aCe ?_;have hl1:1<=oA k:=by rcases(show k=0∨k=1∨k=2 by omega)with rfl|rfl|rfl<;>decide
 unfold aEy akV;refine(aIF k w).mono ?_;rintro r w1 ⟨hs,x1⟩;rw[aQn hk]at hs;have hlen:((vQ k).map λ(n:Nat)=>(n:Int)).length=oA k:=by simp
 have hs0:=hs;obtain⟨b,off,c',rfl,hcc,hcell⟩:=hs.openI (by omega);have g1:=hcell c (by omega);rw[a3R,<-afP]at g1;have g1d:(dr w1).cell? ⟨b,off+c,none⟩=some (.int .u32 ((vQ k).getD c 0:Nat)):=g1;have n1:(((oA k:Nat):Int)==0)=false:=beq_eq_false_iff_ne.2 (by omega);have d1:decide ((c:Int)<0)=false:=by simp
 have d2:decide (((oA k:Nat):Int)<=(c:Int))=false:=by simp;omega
 simp(disch:=omega)only[SV,hlen,n1,d1,d2,g1,g1d];refine(aU9 hk (dr w1)).mono ?_;rintro r w2 ⟨hs2,x2⟩;have hlen2:((jU k).map λ(n:Nat)=>(n:Int)).length=oA k:=by rw[a1M,aQw hk]
 obtain⟨b2,off2,c2,rfl,hcc2,hcell2⟩:=hs2.openI (by omega);have g2:=hcell2 c (by omega);rw[a3R,<-afP]at g2;have hs3:=(hs.ext (aE.dr _ aP) (aR _)).ext x2 (aR _);obtain⟨b',off',c'',hv,_,hcell3⟩:=hs3.openI (by omega);cases hv;have g3:=hcell3 c (by omega);rw[a3R,<-afP]at g3;simp(disch:=omega)only[SV,hlen2,g2,g3];exact(x1.seq (aE.dr _ _)).seq x2
def RT(w:a7B)(b log:Nat)(L:List T3)(v:a7C):Prop:=∃cc rest,v= .agg #[.int .i64 log,.slice (some ⟨b,0,none⟩) L.length cc]/\aT w b (fe .i64 L++rest)
theorem RT.ext {b:Nat}{L:List T3}(h:RT w b log L v)(hx:aE w w' M)(hM:¬M b):RT w' b log L v:=by
 obtain⟨cc,rest,h1,h2⟩:=h;exact⟨cc,rest,h1,h2.ext hx hM⟩
theorem aRN(s:Int)(w:a7B):aL pg Zf #[.int .i64 s] w (λr w'=>∃b,w.heap.size<=b/\RT w' b 0 [(s,0,0)] r/\aE w w' aP):=by
 refine aEr ?_;unfold aGp auH;refine cL λw1 o1 x1 s1=> ?_;simp(disch:=omega)only[SV];refine Di (cells:= #[.int .i64 s,.int .i64 0,.int .i64 0]) (by decide) (by decide) (by kernel_rfl) λw2 o2 x2 s2=> ?_;simp(disch:=omega)only[SV];have l1:=o1.lt;refine bN (o1.ext x2 (λh=>h)) rfl (by simp[one]) (by simp) λw3 o3 x3 s3=> ?_;refine qF o3 (by simp[aF]) ?_;simp only[aF,a1E,a1D,a1F,a1C,a1G];exact⟨w1.heap.size,by omega,⟨1,[],rfl,o2.ext x3 (by omega)⟩,(x1.seq x2).new x3 (a1J _)⟩
def RP(L:List Bool)(v st1:Nat):Option (Nat×Nat):=if v=1 then noR L (L.length+1) st1 else some (0,st1)
theorem aTM{f left:Nat}(h0:left≠0):rdC L sym (f+1) st left ps=match awU L st left with
 |none=> .error 10
 |some (v,st1)=>match RP L v st1 with
  |none=> .error 10
  |some (k,st2)=>if sym<ps.length+1+k then .error 11 else rdC L sym f st2 (left-(bX ((v:Int)-1)).toNat) (ps++((v:Int)-1)::List.replicate k 0):=by
 rw[aEa,if_neg h0];cases awU L st left with
 |none=>rfl
 |some x=>
  obtain⟨v,st1⟩:=x;simp only;unfold RP;by_cases h:v=1
  .subst h;rw[if_pos rfl,if_pos rfl];have:bX (((1:Nat):Int)-1)=0:=rfl;rw[this]<;>rfl
  .rw [if_neg h,if_neg h];rfl
theorem aAi{e:Int}(o6:aT w p6 [.int .i64 0,.slice none 0 0])(hx:aE w0 w aP)(hp:w0.heap.size<=p6)
 (hR:∀w',aE w0 w' aP->RR (.tuple #[.agg #[.int .i64 0,.slice none 0 0],.int .i64 0,.int .i64 e]) w'):
 bF pg (dL 166 (.pointer (some ⟨p6,0,none⟩)) (.agg #[.int .i64 0,.slice none 0 0])) w λ_u w=>LdR pg 166 (.pointer (some ⟨p6,0,none⟩)) w λr0=>RR (.tuple #[r0,.int .i64 0,.int .i64 e]) w:=by
 refine cS o6 rfl (by simp[one]) (by simp) λw6 o6 x6 s6=> ?_;refine kZ o6 (by simp[aF]) ?_;simp only[aF,a1E,a1D,a1F,a1C,a1G];exact hR _ (hx.new x6 hp)
structure RdS(w:a7B)(p6 pf pc log st:Nat)(bv:a7C)(L:List Bool)(ps:List Int)(v:a7C):Prop where
 o6:aT w p6 [.int .i64 0,.slice none 0 0]
 of:aT w pf [bv,.int .i64 st]
 oc:aT w pc [.int .i64 log,v]
 os:mH w (pc+1) 1 v ps.length (ps.map (Value.int .i64))
 bl:Bl w bv L
 at':AtI bv 0 pf
 h6:p6<pf
 hf:pf<pc
theorem RdS.ext (h:RdS w p6 pf pc log st bv L ps v)(hx:aE w w' aP):RdS w' p6 pf pc log st bv L ps v:=
 ⟨h.o6.ext hx (λh=>h),h.of.ext hx (λh=>h),h.oc.ext hx (λh=>h),h.os.ext hx (λ_ _ h=>h),h.bl.ext hx (aR _),h.at',h.h6,h.hf⟩
theorem RdS.setF {st':Nat}(h:RdS w p6 pf pc log st bv L ps v)(hx:aE w w' (λy=>y=pf))(o:aT w' pf [bv,.int .i64 st']):RdS w' p6 pf pc log st' bv L ps v:=by
 have h6:=h.h6;have hf:=h.hf;exact⟨h.o6.ext hx (by omega),o,h.oc.ext hx (by omega),h.os.ext hx (λ_ _ h=>by omega),h.bl.ext hx (h.at' _ λb _ hb=>by omega),h.at',h.h6,h.hf⟩
theorem aRL(h:RdS w p6 pf pc log st bv L ps v)(p:Int)(hl:ps.length<=100000000){K:a7B->Prop}
 (hK:∀w' v',RdS w' p6 pf pc log st bv L (ps++[p]) v'->aE w w' (λy=>pc<=y)->K w'):
 bF pg (fX 88 1 [(0,.int .i64 p)]) w λt64 w=>bF pg (yM .append #[88,88] 88 [v,t64]) w λt65 w=>bF pg (pZ 166 (.pointer (some ⟨pc,0,none⟩)) 1) w λt66 w=>bF pg (dL 88 t66 t65) w λ_ w=>K w:=by
 have lpc:=h.oc.lt;have h6:=h.h6;have hf:=h.hf;refine pD (cells:= #[.int .i64 p]) (by decide) (by decide) (by kernel_rfl) λw4 o4 x4 s4=> ?_;have z4:=x4.size;refine HD (m:=1) (news:=[.int .i64 p]) (h.os.ext x4 (λ_ _ h=>h)) (o4.cl (off:=0) (l:=[.int .i64 p]) (n:=1) rfl (λi hi=>by rw[a1Q])) (by simp[one]) (by omega) (by omega) λv5 w5 o5 x5=> ?_;have z5:=x5.size;obtain⟨av5,cv5,rfl⟩:=o5.len;have oc5:=(h.oc.ext x4 (λh=>h)).ext x5 (by omega);simp(disch:=omega)only[SV];refine aAm oc5 rfl (by simp) λw6 oc6 x6 s6=> ?_;simp only[a1E,a1D]at oc6;have ov6:=o5.ext x6 (λb hb h=>by omega);have x26:aE w w6 (λy=>pc<=y):=((x4.mono λ_ _ h=>h.elim).seq (x5.mono λy _ h=>by omega)).seq (x6.mono λy _ h=>by omega);rw[show(ps.map (Value.int .i64)++[Value.int .i64 p])=(ps++[p]).map (Value.int .i64)from by simp,show ps.length+1=(ps++[p]).length from by simp]at ov6;rw[show ps.length+1=(ps++[p]).length from by simp]at oc6;exact hK w6 _ ⟨h.o6.ext x26 (by omega),h.of.ext x26 (by omega),oc6,ov6,h.bl.ext x26 (h.at' _ λb _ hb=>by omega),h.at',h6,hf⟩ x26
theorem aO5 {left:Nat}(h:RdS w p6 pf pc log st bv L ps v){x:Nat}(hx3:x<=3)(hl:ps.length<=90000000){kn:a7C->a7C->a7C->a7C->a7C->a7C->a7B->Prop}
 (hK:∀w' v',RdS w' p6 pf pc log st bv L (ps++List.replicate x 0) v'->aE w w' (λy=>pc<=y)->kn (.int .i64 sym) (.pointer (some ⟨p6,0,none⟩)) (.pointer (some ⟨pf,0,none⟩)) (.pointer (some ⟨pc,0,none⟩)) (.int .i64 left) (.bool (((x:Nat):Int)==3)) w'):
 IK kn (.int .i64 sym) (.pointer (some ⟨p6,0,none⟩)) (.pointer (some ⟨pf,0,none⟩)) (.int .u64 x) (.pointer (some ⟨pc,0,none⟩)) (.int .i64 left) w:=by
 unfold IK SA ajZ IJ;refine aN.rule (λm (t:a7C) w'=>∃(i:Nat) (v':a7C),m=x-i/\t= .int .i64 i/\i<=x/\RdS w' p6 pf pc log st bv L (ps++List.replicate i 0) v'/\aE w w' (λy=>pc<=y)) x
  ⟨0,v,rfl,rfl,by omega,by simpa using h,aE.refl _ _⟩ ?_
 rintro m t w1 ⟨i,v',rfl,rfl,hi,h1,x1⟩;unfold ajY;by_cases hlt:i<x
 .have d1:decide ((i:Int)<(x:Int))=true:=by simp;omega
  have c1:=h1.oc.cell (off:=1);simp only[a1A,a1B]at c1;simp(disch:=omega)only[SV,d1,c1];refine aRL h1 0 (by simp;omega) λw2 v2 h2 x2=> ?_;refine⟨x-(i+1),by omega,i+1,v2,rfl,rfl,by omega, ?_,x1.seq x2⟩;rw[a2R,<-a5C]at h2;exact h2
 .have d1:decide ((i:Int)<(x:Int))=false:=by simp;omega
  obtain rfl:i=x:=by omega
  unfold Sz;simp(disch:=omega)only[SV,d1];exact hK _ _ h1 x1
theorem aJX{left x:Nat}(h:RdS w p6 pf pc log st bv L ps v)(hl:ps.length<=1000001)(hL:L.length<=8000000)(hst:st<=L.length)(hx:aE w0 w aP)(hp:w0.heap.size<=p6)(hsym:sym<=1000000)
 {kn:a7C->a7C->a7C->a7C->a7C->a7B->Prop} 
 (hE:∀w',RP L x st=none->aE w0 w' aP->RR (.tuple #[.agg #[.int .i64 0,.slice none 0 0],.int .i64 0,.int .i64 10]) w')
 (hB:∀k st2 w',RP L x st=some (k,st2)->sym<ps.length+k->aE w0 w' aP->RR (.tuple #[.agg #[.int .i64 0,.slice none 0 0],.int .i64 0,.int .i64 11]) w')
 (hK:∀k st2 w' v',RP L x st=some (k,st2)->¬sym<ps.length+k->RdS w' p6 pf pc log st2 bv L (ps++List.replicate k 0) v'->aE w0 w' aP->kn (.int .i64 sym) (.pointer (some ⟨p6,0,none⟩)) (.pointer (some ⟨pf,0,none⟩)) (.pointer (some ⟨pc,0,none⟩)) (.int .i64 left) w'):
 zT kn RR (.int .i64 sym) (.pointer (some ⟨p6,0,none⟩)) (.pointer (some ⟨pf,0,none⟩)) (.pointer (some ⟨pc,0,none⟩)) (.int .i64 left) (.int .i64 x) w:=by
 have h6:=h.h6;have hf:=h.hf;unfold zT abR;simp(disch:=omega)only[SV];unfold OM FM;refine aN.rule (λm (t:a7C) w'=>∃(k0 st':Nat) (bt:Bool) (v':a7C),t= .bool bt/\RdS w' p6 pf pc log st' bv L (ps++List.replicate k0 0) v'/\aE w0 w' aP/\st'<=L.length/\k0<=3*st'/\
  (bt=true->RP L x st=(match noR L m st' with|none=>none|some (k,s)=>some (k0+k,s))/\L.length<2*m+st')/\(bt=false->RP L x st=some (k0,st'))) (L.length+1)
  ⟨0,st,_,v,rfl,by simpa using h,hx,hst,by omega, ?_, ?_⟩ ?_
 .intro hb;have hx1:x=1:=by simp at hb;omega
  subst hx1;refine⟨?_,by omega⟩;unfold RP;rw[if_pos rfl];cases noR L (L.length+1) st with
  |none=>rfl
  |some y=>simp
 .intro hb;have hx1:x≠1:=by
   intro h;subst h;simp at hb
  unfold RP;rw[if_neg hx1]
 rintro m t w1 ⟨k0,st',bt,v',rfl,h1,x1,hst',hk0,ht,hfa⟩;unfold abQ abP;cases bt with
 |false=>
  have hb:=hfa rfl;obtain⟨av,cv,hv⟩:=h1.os.len;have c1:=h1.oc.cell (off:=1);subst hv;simp only[a1A,a1B,a1O,a2C]at c1;have hlen:((ps++List.replicate k0 0).length:Int)=((ps.length+k0:Nat):Int):=by simp
  unfold Sy;by_cases hgt:sym<ps.length+k0
  .have d1:decide ((sym:Int)<((ps.length+k0:Nat):Int))=true:=by simp only[decide_eq_true_eq];omega
   simp(disch:=omega)only[SV,c1,hlen,d1];exact aAi (RR:=RR) (e:=11) h1.o6 x1 hp λw' h=>hB _ _ _ hb hgt h
  .have d1:decide ((sym:Int)<((ps.length+k0:Nat):Int))=false:=by simp only[decide_eq_false_iff_not];omega
   have d2:decide ((left:Int)<0)=false:=by simp
   simp(disch:=omega)only[SV,c1,hlen,d1,d2];exact hK _ _ _ _ hb hgt h1 x1
 |true=>
  obtain⟨hb,hm⟩:=ht rfl;obtain⟨m,rfl⟩:∃m',m=m'+1:=⟨m-1,by omega⟩;rw[aJx]at hb;have lf:=cD (off:=0) h1.of (by simp);simp only[a1F,a1C,a1G]at lf;unfold OL abO;simp(disch:=omega)only[SV,lf];refine(afY (n:=2) h1.bl (by omega) hst' (by omega)).mono ?_;rintro r w2 ⟨⟨hsh,rfl⟩|⟨hsh,rfl⟩,x2⟩
  .have n1:((10:Int) !=0)=true:=rfl;rw[if_pos (by omega)]at hb;obtain⟨bn,bc,hbv,_⟩:=Dh h1.bl;simp(disch:=omega)only[SV];refine bE (h1.ext x2).of rfl (by subst hbv;simp[one]) (by simp) λw3 o3 x3 s3=> ?_;simp(disch:=omega)only[SV,n1];exact aAi (RR:=RR) (e:=10) ((h1.ext x2).o6.ext x3 (by omega)) ((x1.seq x2).new x3 (by omega)) hp λw' h=>hE _ hb h
  .have n1:((0:Int) !=0)=false:=rfl;rw[if_neg (by omega)]at hb;obtain⟨bn,bc,hbv,_⟩:=Dh h1.bl;have hlt:=FC L st' 2;simp(disch:=omega)only[SV];refine bE (h1.ext x2).of rfl (by subst hbv;simp[one]) (by simp) λw3 o3 x3 s3=> ?_;simp only[aF,a1E,a1D]at o3;have h3:=(h1.ext x2).setF x3 o3;have x03:aE w0 w3 aP:=(x1.seq x2).new x3 (by omega);have z03:=x03.size;simp(disch:=omega)only[SV,n1];refine aO5 h3 (by omega) (by simp;omega) λw4 v4 h4 x4=> ?_;have hpc:=h3.hf;have x04:aE w0 w4 aP:=x03.trans x4 λb hb h=>by omega
   rw[a2R,List.replicate_append_replicate]at h4;refine⟨m,by omega,k0+iK L st' 2,st'+2,_,v4,rfl,h4,x04,hsh,by omega, ?_, ?_⟩
   .intro hq;have h3':iK L st' 2=3:=by simp at hq;omega
    rw[if_neg (by omega)]at hb;refine⟨?_,by omega⟩;rw[hb,h3'];cases noR L m (st'+2)with
    |none=>rfl
    |some y=>
     obtain⟨k,s⟩:=y;simp;omega
   .intro hq;have h3':iK L st' 2≠3:=by
     intro h;rw[h]at hq;simp at hq
    rw[if_pos (by omega)]at hb;exact hb
theorem aHL{res:Except Int (List Int×Nat)}(hlp:w0.heap.size<=p6)(hl:L.length<=8000000)(hsym:sym<=1000000)(hlog:log<=15)
 (h:RdS w p6 pf pc log 4 bv L [] v) (h4:4<=L.length) (hx:aE w0 w aP)
 (hres:rdC L sym (L.length+1) 4 (2^log) []=res)
  (hE:∀e w',res= .error e->aE w0 w' aP->RR (.tuple #[.agg #[.int .i64 0,.slice none 0 0],.int .i64 0,.int .i64 e]) w')
 (hO:∀ps st v w',res= .ok (ps,st)->mH w' w0.heap.size 1 v ps.length (ps.map (Value.int .i64))->aE w0 w' aP->RR (.tuple #[.agg #[.int .i64 log,v],.int .i64 (((st+7)/8:Nat)),.int .i64 0]) w'):
 FO RR (.int .i64 sym) (.pointer (some ⟨p6,0,none⟩)) (.pointer (some ⟨pf,0,none⟩)) (.pointer (some ⟨pc,0,none⟩)) (.int .i64 (2^log:Nat)) w:=by
 have hp15:2^log<=2^15:=a1K (by omega) hlog;have h6:=h.h6;have hf:=h.hf;unfold FO FN;refine aN.rule (λm (t:a7C) w'=>∃(st left:Nat) (ps:List Int) (v:a7C),t= .int .i64 left/\rdC L sym m st left ps=res/\L.length<m+st/\st<=L.length/\left<=32768/\ps.length<=1000000/\
  RdS w' p6 pf pc log st bv L ps v/\aE w0 w' aP) (L.length+1)
  ⟨4,2^log,[],v,rfl,hres,by omega,h4,by omega,by simp,h,hx⟩ ?_
 rintro m t w1 ⟨st,left,ps,v,rfl,hr,hm,hst,hleft,hpl,h1,x1⟩;have hx0:=x1.size;obtain⟨m,rfl⟩:∃m',m=m'+1:=⟨m-1,by omega⟩;obtain⟨bn,bc,hbv,_⟩:=Dh h1.bl;unfold abU abT;by_cases h0:left=0
 .have d1:decide ((0:Int)<(left:Int))=false:=by simp;omega
  rw[aEa,if_pos h0]at hr;obtain⟨av,cv,hv⟩:=h1.os.len;subst hv hbv;have lc:=fM (off:=0) (aH h1.oc) (by simp);have lc':=fM (off:=0) h1.oc (by simp);have lf:=cD (off:=0) (aH h1.of) (by simp);have lf':=cD (off:=0) h1.of (by simp);simp only[a1F,a1C,a1G]at lc lc' lf lf';unfold Sx;simp(disch:=omega)only[SV,d1,lc,lc',lf,lf'];refine(aO4 (by omega)).mono ?_;rintro r w2 ⟨rfl,x2⟩;have x12:aE w1 w2 aP:=(aE.dr w1 aP).seq x2;have h2:=h1.ext x12;have lc2:=fM (off:=0) h2.oc (by simp);simp only[a1F,a1C,a1G]at lc2;simp(disch:=omega)only[SV,lc2];refine cS h2.o6 rfl (by simp[one]) (by simp) λw6 o6 x6 s6=> ?_;refine kZ o6 (by simp[aF]) ?_;simp only[aF,a1E,a1D,a1F,a1C,a1G];have ov6:=h2.os.ext x6 (λb hb h=>by omega);refine hO ps st _ w6 hr.symm ⟨ov6.1, ?_⟩ ((x1.seq x12).new x6 (by omega));rcases ov6.2 with h|⟨b,c,rest,q1,q2,q3⟩
  .exact .inl h
  .exact .inr ⟨b,c,rest,q1,by omega,q3⟩
 .have d1:decide ((0:Int)<(left:Int))=true:=by simp;omega
  rw[aTM h0]at hr;have lf:=cD (off:=0) h1.of (by simp);simp only[a1F,a1C,a1G]at lf;unfold ON abS;simp(disch:=omega)only[SV,d1,lf];refine(aOV h1.bl hst (by omega) (by omega) hleft).mono ?_;rintro r w2 ⟨hv2,x2⟩;have h2:=h1.ext x2;cases hval:awU L st left with
  |none=>
   rw[hval]at hr hv2;obtain⟨st',rfl⟩:=hv2;have n1:((10:Int) !=0)=true:=rfl;simp(disch:=omega)only[SV];refine bE h2.of rfl (by subst hbv;simp[one]) (by simp) λw3 o3 x3 s3=> ?_;simp(disch:=omega)only[SV,n1];exact aAi (RR:=RR) (e:=10) (h2.o6.ext x3 (by omega)) ((x1.seq x2).new x3 (by omega)) hlp λw' h=>hE _ _ hr.symm h
  |some y=>
   obtain⟨x,st1⟩:=y;rw[hval]at hr hv2;simp only at hr;obtain rfl:=hv2;obtain⟨b1,b2,b3⟩:=aCD hval (by omega);have n1:((0:Int) !=0)=false:=rfl;simp(disch:=omega)only[SV];refine bE h2.of rfl (by subst hbv;simp[one]) (by simp) λw3 o3 x3 s3=> ?_;simp only[aF,a1E,a1D]at o3;have h3:=h2.setF x3 o3;have x03:aE w0 w3 aP:=(x1.seq x2).new x3 (by omega);have c3:=h3.oc.cell (off:=1);simp only[a1A,a1B]at c3;simp(disch:=omega)only[SV,n1,c3];refine aRL h3 ((x:Int)-1) (by omega) λw4 v4 h4 x4=> ?_;have z03:=x03.size;have hpc:=h3.hf;have x04:aE w0 w4 aP:=x03.trans x4 λb hb h=>by omega
   have hpn:=mD (p:=(x:Int)-1) (by omega)
   have hfin:∀(left':Nat),left'=left-(bX ((x:Int)-1)).toNat->zT (λ_ _ _ _ aW w''=>∃m',m'<m+1/\∃(st left:Nat) (ps:List Int) (v:a7C),aW= .int .i64 left/\rdC L sym m' st left ps=res/\L.length<m'+st/\st<=L.length/\left<=32768/\ps.length<=1000000/\
       RdS w'' p6 pf pc log st bv L ps v/\aE w0 w'' aP) RR (.int .i64 sym) (.pointer (some ⟨p6,0,none⟩)) (.pointer (some ⟨pf,0,none⟩)) (.pointer (some ⟨pc,0,none⟩)) (.int .i64 left') (.int .i64 x) w4:=by
    intro left' hl';have hlen1:(ps++[(x:Int)-1]).length=ps.length+1:=by simp
    refine aJX (left:=left') h4 (by omega) hl b2 x04 hlp hsym ?_ ?_ ?_
    .intro w' hbe hx;rw[hbe]at hr;exact hE _ _ hr.symm hx
    .intro k st2 w' hbe hgt hx;rw[hbe]at hr;simp only at hr;rw[if_pos (by omega)]at hr;exact hE _ _ hr.symm hx
    .intro k st2 w' v' hbe hgt h5 hx;rw[hbe]at hr;simp only at hr;rw[if_neg (by omega),<-hl']at hr;have hb2:st1<=st2/\st2<=L.length:=by
      unfold RP at hbe;split at hbe
      .obtain ⟨q1,q2,_⟩:=aHu hbe;omega
      .obtain ⟨rfl,rfl⟩:=a5K (a1Z hbe);omega
     rw[a2R,List.singleton_append]at h5;exact⟨m,by omega,st2,left',_,v',rfl,hr,by omega,hb2.2,by omega,by simp;omega,h5,hx⟩
   by_cases hx0:x=0
   .subst hx0;have n2:(((0:Nat):Int)==0)=true:=rfl;have e1:(left:Int)-1=((left-1:Nat):Int):=by omega
    simp(disch:=omega)only[SV,n2,e1];exact hfin _ rfl
   .have n2:((x:Int)==0)=false:=beq_eq_false_iff_ne.2 (by omega);have e0:(x:Int)-1=((x-1:Nat):Int):=by omega
    have e1:(left:Int)-((x:Int)-1)=((left-(x-1):Nat):Int):=by omega
    simp(disch:=omega)only[SV,n2,e1];refine hfin _ ?_;unfold bX;rw[if_neg (by omega),e0,a1H]
theorem aEK{s:ByteArray}{most:Int}(hl:s.size<=1000000)(hsym:sym<=1000000):
 aL pg U7 #[.string s,.int .i64 most,.int .i64 sym] w (λr w'=>aqC w' w.heap.size (uB (aG (aM s)) most sym) r/\aE w w' aP):=by
 refine aB3 ?_;obtain⟨RR,hRR⟩:∃RR:a7C->a7B->Prop,RR=λr w'=>aqC w' w.heap.size (uB (aG (aM s)) most sym) r/\aE w w' aP:=⟨_,rfl⟩;rw[<-hRR];have hll:=aI s;have hbl:=cJ (aM s);unfold aEo abW abV;refine fS λw1 o1 x1 s1=> ?_;refine(aEF hl).mono ?_;rintro r w2 ⟨ob2,x2⟩;have hbl2:Bl w2 r (aG (aM s)):=ob2.sl;have hat:=mH.atI ob2;obtain⟨bn,bc,rfl,_⟩:=Dh hbl2;have z1:=x1.size;have z2:=x2.size;simp(disch:=omega)only[SV];refine yU λw3 o3 x3 s3=> ?_;refine bE o3 rfl (by simp[one]) (by simp) λw4 o4 x4 s4=> ?_;simp only[aF,a1E,a1D]at o4;have z3:=x3.size;have z4:=x4.size;have x24:aE w2 w4 aP:=x3.new x4 (by omega);have lf:=cD (off:=0) o4 (by simp);simp only[a1F,a1C,a1G]at lf;have hbl4:=hbl2.ext x24 (aR _);have e0:(0:Int)=((0:Nat):Int):=rfl;rw[e0]at lf;simp(disch:=omega)only[SV,lf];refine(afY (st:=0) (n:=4) hbl4 (by omega) (by omega) (by omega)).mono ?_;rintro r w5 ⟨⟨hsh,rfl⟩|⟨hsh,rfl⟩,x5⟩
 .have n1:((10:Int) !=0)=true:=rfl;have hrl:uB (aG (aM s)) most sym= .error 10:=by unfold uB;rw[if_pos (by omega)]
  rw[hrl]at hRR;simp(disch:=omega)only[SV];refine bE (o4.ext x5 (λh=>h)) rfl (by simp[one]) (by simp) λw6 o6 x6 s6=> ?_;simp(disch:=omega)only[SV,n1];exact aAi (RR:=RR) (e:=10) ((((o1.ext x2 (λh=>h)).ext x24 (λh=>h)).ext x5 (λh=>h)).ext x6 (by omega)) ((((x1.seq x2).seq x24).seq x5).new x6 (by omega)) (a1J _) λw' h=>by rw[hRR];exact⟨rfl,h⟩
 .have n1:((0:Int) !=0)=false:=rfl;have hlt:=FC (aG (aM s)) 0 4;have hrl:uB (aG (aM s)) most sym=(if most<((iK (aG (aM s)) 0 4+5:Nat):Int)∨15<iK (aG (aM s)) 0 4+5 then .error 12 else match rdC (aG (aM s)) sym ((aG (aM s)).length+1) 4 (2^(iK (aG (aM s)) 0 4+5)) []with
   | .error e=> .error e
   | .ok (ps,st)=> .ok (iK (aG (aM s)) 0 4+5,ps,(st+7)/8)):=by unfold uB;rw[if_neg (by omega)]<;>rfl
  rw[hrl]at hRR;generalize iK (aG (aM s)) 0 4=x at*;have e1:(x:Int)+5=((x+5:Nat):Int):=by omega
  have z5:=x5.size;simp(disch:=omega)only[SV];refine bE (o4.ext x5 (λh=>h)) rfl (by simp[one]) (by simp) λw6 o6 x6 s6=> ?_;simp only[aF,a1E,a1D]at o6;have z6:=x6.size;have x06:aE w w6 aP:=(((x1.seq x2).seq x24).seq x5).new x6 (by omega);have o16:=((((o1.ext x2 (λh=>h)).ext x24 (λh=>h)).ext x5 (λh=>h)).ext x6 (by omega));have hbl6:Bl w6 _ _:=(hbl4.ext x5 (aR _)).ext x6 (hat _ λb hb hh=>by omega);simp(disch:=omega)only[SV,n1,e1];refine fS λw7 o7 x7 s7=> ?_;refine cS o7 rfl (by simp[one]) (by simp) λw8 o8 x8 s8=> ?_;simp only[aF,a1E,a1D]at o8;have x68:aE w6 w8 aP:=x7.new x8 (by omega);have x08:aE w w8 aP:=x06.seq x68;have o18:=o16.ext x68 (λh=>h);have c8:=o8.cell (off:=0);simp only[a1A,a1B]at c8;by_cases hmo:most<((x+5:Nat):Int)
  .have d1:decide (most<((x+5:Nat):Int))=true:=by simpa using hmo
   rw[if_pos (.inl hmo)]at hRR;simp(disch:=omega)only[SV,c8,d1];exact aAi (RR:=RR) (e:=12) o18 x08 (a1J _) λw' h=>by rw[hRR];exact⟨rfl,h⟩
  have d1:decide (most<((x+5:Nat):Int))=false:=by simpa using hmo
  by_cases h15:15<x+5
  .have d2:decide ((15:Int)<((x+5:Nat):Int))=true:=by simp;omega
   rw[if_pos (.inr h15)]at hRR;simp(disch:=omega)only[SV,c8,d1,d2];exact aAi (RR:=RR) (e:=12) o18 x08 (a1J _) λw' h=>by rw[hRR];exact⟨rfl,h⟩
  have d2:decide ((15:Int)<((x+5:Nat):Int))=false:=by simp;omega
  rw[if_neg (by omega)]at hRR;simp(disch:=omega)only[SV,c8,d1,d2];refine(IE (x+5) (by omega) _).mono ?_;rintro r w9 ⟨rfl,rfl⟩;have hpow:((2^(x+5):Nat):Int)=(2:Int)^(x+5):=by simp
  rw[<-hpow];have hS:RdS w9 w.heap.size w2.heap.size w6.heap.size (x+5) 4 (.slice bn (aG (aM s)).length bc) (aG (aM s)) [] (.slice none 0 0):=
   ⟨o18,o6.ext x68 (λh=>h),o8,mH.nil _ _ _,hbl6.ext x68 (aR _),λM hM=>hat M λb _ hb=>hM b (by omega) (by omega),by omega,by omega⟩
  refine aHL (w0:=w) (res:=rdC (aG (aM s)) sym ((aG (aM s)).length+1) 4 (2^(x+5)) []) (a1J _) (by omega) hsym (by omega) hS (by omega) x08 rfl ?_ ?_
  .intro e w' he hx;rw[hRR,he];exact⟨rfl,hx⟩
  .intro ps st v w' he ho hx;rw[hRR,he];exact⟨⟨v,rfl,ho⟩,hx⟩
def RtV(w:a7B)(base:Nat)(T:Nat×List T3)(v:a7C):Prop:=(T=(0,[])/\v= .agg #[.int .i64 0,.slice none 0 0])∨∃b,base<=b/\RT w b T.1 T.2 v
theorem RtV.nil (w:a7B)(base:Nat):RtV w base (0,[]) (.agg #[.int .i64 0,.slice none 0 0]):= .inl ⟨rfl,rfl⟩
theorem RT.lt {b:Nat}{L:List T3}(h:RT w b log L v):b<w.heap.size:=by
 obtain⟨cc,rest,h1,h2⟩:=h;exact h2.lt
theorem RtV.form (h:RtV w base T v):∃a c,v= .agg #[.int .i64 T.1,.slice a T.2.length c]:=by
 rcases h with⟨rfl,rfl⟩|⟨b,_,cc,rest,rfl,_⟩
 .exact ⟨_,_,rfl⟩
 .exact ⟨_,_,rfl⟩
theorem RtV.ext (h:RtV w base T v)(x:aE w w' M)(hM:∀b,base<=b->b<w.heap.size->¬M b):RtV w' base T v:=by
 rcases h with h|⟨b,hb,h⟩
 .exact .inl h
 .exact .inr ⟨b,hb,h.ext x (hM b hb h.lt)⟩
theorem RtV.lower {base':Nat}(h:RtV w base T v)(hb:base'<=base):RtV w base' T v:=by
 rcases h with h|⟨b,h1,h2⟩
 .exact .inl h
 .exact .inr ⟨b,by omega,h2⟩
def RtR(w:a7B)(base:Nat)(o:Except Int ((Nat×List T3)×Nat))(r:a7C):Prop:=match o with
 | .error e=>r= .tuple #[.agg #[.int .i64 0,.slice none 0 0],.int .i64 0,.int .i64 e]
 | .ok (T,n)=>∃t,r= .tuple #[t,.int .i64 n,.int .i64 0]/\RtV w base T t
theorem adT{x:Int}{a:Option Addr}{c:Nat}{n:a7C}(o:aT w p [.int .i64 0,.slice none 0 0])(hx:aE w0 w aP)(hp:w0.heap.size<=p)
 (hR:∀w',aE w0 w' aP->aE w w' (λy=>y=p)->RR (.tuple #[.agg #[.int .i64 x,.slice a k c],n,e]) w'):
 bF pg (dL 59 (.pointer (some ⟨p,0,none⟩)) (.agg #[.int .i64 x,.slice a k c])) w λ_u w=>LdR pg 59 (.pointer (some ⟨p,0,none⟩)) w λr0=>RR (.tuple #[r0,n,e]) w:=by
 refine bN o rfl (by simp[one]) (by simp) λw6 o6 x6 s6=> ?_;refine qF o6 (by simp[aF]) ?_;simp only[aF,a1E,a1D,a1F,a1C,a1G];exact hR _ (hx.new x6 hp) x6
theorem aL0 {x:Int}{a:Option Addr}{c:Nat}(o:aT w p [.int .i64 0,.slice none 0 0])(hx:aE w0 w aP)(hp:w0.heap.size<=p)
 (hR:∀w',aE w0 w' aP->aE w w' (λy=>y=p)->RR (.tuple #[.agg #[.int .i64 x,.slice a k c],e]) w'):
 bF pg (dL 59 (.pointer (some ⟨p,0,none⟩)) (.agg #[.int .i64 x,.slice a k c])) w λ_u w=>LdR pg 59 (.pointer (some ⟨p,0,none⟩)) w λr0=>RR (.tuple #[r0,e]) w:=by
 refine bN o rfl (by simp[one]) (by simp) λw6 o6 x6 s6=> ?_;refine qF o6 (by simp[aF]) ?_;simp only[aF,a1E,a1D,a1F,a1C,a1G];exact hR _ (hx.new x6 hp) x6
theorem aLR{a:Int}(ha:0<=a/\a<=2)(w:a7B):aL pg RC #[.int .i64 a] w (λr w'=>∃v,r= .agg #[.int .i64 (gvL a:Nat),v]/\Sl w' v ((gvP a).map (Value.int .i64))/\aE w w' aP):=by
 refine azZ ?_;unfold aBe acW;refine fS λw1 o1 x1 s1=> ?_;rcases(show a=0∨a=1∨a=2 by omega)with rfl|rfl|rfl
 .have n1:((0:Int)==0)=true:=rfl;simp(disch:=omega)only[SV,n1];refine pD (cells:=(zTL.map (Value.int .i64)).toArray) (by decide) (by decide) (by kernel_rfl) λw2 o2 x2 s2=> ?_;simp(disch:=omega)only[SV];refine cS (o1.ext x2 (λh=>h)) rfl (by simp[one]) (by simp) λw4 o4 x4 s4=> ?_;refine kZ o4 (by simp[aF]) ?_;simp only[aF,a1E,a1D,a1F,a1C,a1G];exact⟨_,rfl,Zu (o2.ext x4 (by omega)) rfl,(x1.seq x2).new x4 (by omega)⟩
 .have n1:((1:Int)==0)=false:=rfl;have n2:((1:Int)==1)=true:=rfl;simp(disch:=omega)only[SV,n1,n2];refine pD (cells:=(zTO.map (Value.int .i64)).toArray) (by decide) (by decide) (by kernel_rfl) λw2 o2 x2 s2=> ?_;simp(disch:=omega)only[SV];refine cS (o1.ext x2 (λh=>h)) rfl (by simp[one]) (by simp) λw4 o4 x4 s4=> ?_;refine kZ o4 (by simp[aF]) ?_;simp only[aF,a1E,a1D,a1F,a1C,a1G];exact⟨_,rfl,Zu (o2.ext x4 (by omega)) rfl,(x1.seq x2).new x4 (by omega)⟩
 .have n1:((2:Int)==0)=false:=rfl;have n2:((2:Int)==1)=false:=rfl;simp(disch:=omega)only[SV,n1,n2];refine pD (cells:=(zTM.map (Value.int .i64)).toArray) (by decide) (by decide) (by kernel_rfl) λw2 o2 x2 s2=> ?_;simp(disch:=omega)only[SV];refine cS (o1.ext x2 (λh=>h)) rfl (by simp[one]) (by simp) λw4 o4 x4 s4=> ?_;refine kZ o4 (by simp[aF]) ?_;simp only[aF,a1E,a1D,a1F,a1C,a1G];exact⟨_,rfl,Zu (o2.ext x4 (by omega)) rfl,(x1.seq x2).new x4 (by omega)⟩
theorem aHK{a:Int}(w:a7B):aL pg JR #[.int .i64 a] w (λr w'=>∃t e,r= .tuple #[t,.int .i64 e]/\(match vS a with
 | .error e'=>t= .agg #[.int .i64 0,.slice none 0 0]/\e=e'
 | .ok T=>RtV w' w.heap.size T t/\e=0)/\aE w w' aP):=by
 refine aoW ?_;unfold akW Us;refine cL λw1 o1 x1 s1=> ?_;have z1:=x1.size;by_cases h0:a<0
 .have d1:decide (a<0)=true:=by simpa using h0
  have hE:vS a= .error 1:=by unfold vS;rw[if_neg (by omega)]
  rw[hE];simp(disch:=omega)only[SV,d1];exact aL0 (RR:=λr w'=>∃t e,r= .tuple #[t,.int .i64 e]/\(t= .agg #[.int .i64 0,.slice none 0 0]/\e=1)/\aE w w' aP) o1 x1 (a1J _) λw' x _=>⟨_,_,rfl,⟨rfl,rfl⟩,x⟩
 have d1:decide (a<0)=false:=by simpa using h0
 by_cases h2:2<a
 .have d2:decide (2<a)=true:=by simpa using h2
  have hE:vS a= .error 1:=by unfold vS;rw[if_neg (by omega)]
  rw[hE];simp(disch:=omega)only[SV,d1,d2];exact aL0 (RR:=λr w'=>∃t e,r= .tuple #[t,.int .i64 e]/\(t= .agg #[.int .i64 0,.slice none 0 0]/\e=1)/\aE w w' aP) o1 x1 (a1J _) λw' x _=>⟨_,_,rfl,⟨rfl,rfl⟩,x⟩
 have d2:decide (2<a)=false:=by simpa using h2
 have hE:vS a= .ok (gvL a,fL (gvL a) (gvP a)):=by unfold vS;rw[if_pos (by omega)]
 rw[hE];have hm:=aLk (a:=a) (by omega);simp(disch:=omega)only[SV,d1,d2];refine(aLR (by omega) _).mono ?_;rintro r w2 ⟨v,rfl,hs,x2⟩;have z2:=x2.size;refine(apD hm hs).mono ?_;rintro r w3 ⟨b,cc,rest,rfl,hb,ob,x3⟩;have z3:=x3.size;have hbl:=ob.lt;simp(disch:=omega)only[SV];refine aL0 (RR:=λr w'=>∃t e,r= .tuple #[t,.int .i64 e]/\(RtV w' w.heap.size (gvL a,fL (gvL a) (gvP a)) t/\e=0)/\aE w w' aP) ((o1.ext x2 (λh=>h)).ext x3 (λh=>h)) ((x1.seq x2).seq x3) (a1J _) λw' x xx=>⟨_,_,rfl,⟨.inr ⟨b,by omega,cc,rest, ?_,ob.ext xx (by omega)⟩,rfl⟩,x⟩;rw[eN]
theorem aOU(a:Int)(w:a7B):aL pg Ve #[.int .i64 a] w (λr w'=>r= .int .i64 (aaN a)/\w'=w):=by
 refine aCf ?_;unfold aEz akX aaN;by_cases h0:a=0
 .subst h0;have n1:((0:Int)==0)=true:=rfl;simp(disch:=omega)only[SV,n1];rfl
 have n1:(a==0)=false:=beq_eq_false_iff_ne.2 h0;by_cases h2:a=2
 .subst h2;have n2:((2:Int)==2)=true:=rfl;simp(disch:=omega)only[SV,n1,n2];rfl
 have n2:(a==2)=false:=beq_eq_false_iff_ne.2 h2;rw[if_neg (by omega)];by_cases h1:a=1
 .subst h1;have n3:((1:Int)==1)=true:=rfl;simp(disch:=omega)only[SV,n1,n2,n3]
 have n3:(a==1)=false:=beq_eq_false_iff_ne.2 h1;rw[if_neg h1];simp(disch:=omega)only[SV,n1,n2,n3]
theorem aEN{a mode:Int}{s:ByteArray}{ov:a7C}(hl:mode=2->s.size<=1000000)(ho:RtV w base T ov)(hbase:base<=w.heap.size)(hT:T.2.length<=1000000):
 aL pg Vf #[.int .i64 a,.int .i64 mode,.string s,ov] w (λr w'=>RtR w' base (cZ a mode (aM s) T) r/\aE w w' aP):=by
 refine aCg ?_;obtain⟨RR,hRR⟩:∃RR:a7C->a7B->Prop,RR=λr w'=>RtR w' base (cZ a mode (aM s) T) r/\aE w w' aP:=⟨_,rfl⟩;rw[<-hRR];obtain⟨oa,oc,rfl⟩:=ho.form;unfold aEA akY;refine bY λw1 o1 x1 s1=> ?_;simp only[Value.cells]at o1;refine cL λw2 o2 x2 s2=> ?_;have x12:=x1.seq x2;have z2:=x12.size;refine(aIF a _).mono ?_;rintro r w3 ⟨hbs,x3⟩;have hbl:=aQm a;obtain⟨ga,gc,rfl,_⟩:=hbs.lenI;have o1:=(o1.ext x2 (λh=>h)).ext x3 (λh=>h);have o2:=o2.ext x3 (λh=>h);have x13:=x12.seq x3;have z3:=x3.size;have err:∀{e:Int} {w':a7B},cZ a mode (aM s) T= .error e->aE w w' aP->RR (.tuple #[.agg #[.int .i64 0,.slice none 0 0],.int .i64 0,.int .i64 e]) w':=λh x=>by
  rw[hRR];refine⟨?_,x⟩;rw[h]<;>rfl
 have good:∀{T':Nat×List T3} {n:Nat} {w':a7B} {t:a7C},cZ a mode (aM s) T= .ok (T',n)->RtV w' base T' t->aE w w' aP->RR (.tuple #[t,.int .i64 n,.int .i64 0]) w':=λh ht x=>by
  rw[hRR];refine⟨?_,x⟩;rw[h];exact⟨_,rfl,ht⟩
 generalize(aN6 a).length=nb at*;by_cases ha:0<=a/\a<=2;rotate_left
 .have hE:cZ a mode (aM s) T= .error 1:=by unfold cZ;rw[if_pos (by omega)]
  have d1:(((nb:Nat):Int)==0)=true:=by rw[hbl,aJh ha]<;>rfl
  simp(disch:=omega)only[SV,d1];exact adT o2 x13 (by omega) λw' x _=>err hE x
 obtain⟨hl1,hl2⟩:=aJi ha;have d1:(((nb:Nat):Int)==0)=false:=beq_eq_false_iff_ne.2 (by omega);by_cases hm0:mode<0
 .have d2:decide (mode<0)=true:=by simp;omega
  have hE:cZ a mode (aM s) T= .error 1:=by unfold cZ;rw[if_pos (by omega)]
  simp(disch:=omega)only[SV,d1,d2];exact adT o2 x13 (by omega) λw' x _=>err hE x
 have d2:decide (mode<0)=false:=by simp;omega
 by_cases hm3:3<mode
 .have d3:decide (3<mode)=true:=by simp;omega
  have hE:cZ a mode (aM s) T= .error 1:=by unfold cZ;rw[if_pos (by omega)]
  simp(disch:=omega)only[SV,d1,d2,d3];exact adT o2 x13 (by omega) λw' x _=>err hE x
 have d3:decide (3<mode)=false:=by simp;omega
 have hno:¬(a<0∨2<a∨mode<0∨3<mode):=by omega
 by_cases m0:mode=0
 .subst m0;have n1:((0:Int)==0)=true:=rfl;have hE:cZ a 0 (aM s) T= .ok ((gvL a,fL (gvL a) (gvP a)),0):=by unfold cZ;rw[if_neg hno,if_pos rfl]
  simp(disch:=omega)only[SV,d1,d2,d3,n1];refine(aHK _).mono ?_;rintro r w4 ⟨t,e,rfl,ht,x4⟩;have hD:vS a= .ok (gvL a,fL (gvL a) (gvP a)):=by unfold vS;rw[if_pos (by omega)]
  rw[hD]at ht;obtain⟨ht,rfl⟩:=ht;obtain⟨ta,tc,rfl⟩:=ht.form;have z4:=x4.size;simp(disch:=omega)only[SV];refine cL λw5 o5 x5 s5=> ?_;refine bN o5 rfl (by simp[one]) (by simp) λw6 o6 x6 s6=> ?_;have l1:=aX (off:=0) o6 (by simp[aF]);simp only[aF,a1E,a1D,a1F,a1C,a1G]at l1;simp(disch:=omega)only[SV,l1];have x46:aE w3 w6 aP:=x4.seq (x5.new x6 (a1J _));refine adT (o2.ext x46 (λh=>h)) (x13.seq x46) (by omega) λw' x x7=>good hE ?_ x;rcases ht with⟨e,_⟩|⟨b',hb',h'⟩
  .exact absurd (congrArg (λT:Nat×List T3=>T.2.length) e) (by
    show(fL _ _).length≠0;rw[eN];have:=a2G (gvL a);omega)
  .obtain ⟨cc,rest,q1,q2⟩:=h';cases q1;have hlt:=q2.lt;exact .inr ⟨b',by omega,_,rest,rfl,((q2.ext x5 (λh=>h)).ext x6 (by omega)).ext x7 (by omega)⟩
 have n1:(mode==0)=false:=beq_eq_false_iff_ne.2 m0;have hls:=aI s;by_cases m1:mode=1
 .subst m1;have n2:((1:Int)==1)=true:=rfl;cases hle:aM s with
  |nil=>
   have hE:cZ a 1 (aM s) T= .error 10:=by rw[hle];unfold cZ;rw[if_neg hno,if_neg (by omega),if_pos rfl]
   have hs0:s=⟨#[]⟩:=Fs hle;have n3:(s.toList==(⟨#[]⟩:ByteArray).toList)=true:=by rw[hs0];simp
   simp(disch:=omega)only[SV,d1,d2,d3,n1,n2,oI,n3];exact adT o2 x13 (by omega) λw' x _=>err hE x
  |cons y l=>
   have hsz:0<s.size:=by rw[<-hls,hle];simp
   have n3:(s.toList==(⟨#[]⟩:ByteArray).toList)=false:=ZM (by omega);have g0:(s[(0:Int).toNat]'hsz)=y:=by
    have:=Fq s 0 hsz;simp only[hle,a3Z]at this;exact this
   have hsz':(0:Int).toNat<s.size:=hsz;have hy:=y.toNat_lt;by_cases hyl:tZ a<(y.toNat:Int)
   .have d4:decide (((nb:Nat):Int)<=(y.toNat:Int))=true:=by simp only[decide_eq_true_eq];omega
    have hE:cZ a 1 (aM s) T= .error 11:=by rw[hle];unfold cZ;rw[if_neg hno,if_neg (by omega),if_pos rfl];exact if_pos hyl
    simp(disch:=omega)only[SV,d1,d2,d3,n1,n2,oI,n3,g0,d4];exact adT o2 x13 (by omega) λw' x _=>err hE x
   .have d4:decide (((nb:Nat):Int)<=(y.toNat:Int))=false:=by simp only[decide_eq_false_iff_not];omega
    have hE:cZ a 1 (aM s) T= .ok ((0,[((y.toNat:Nat),0,0)]),1):=by rw[hle];unfold cZ;rw[if_neg hno,if_neg (by omega),if_pos rfl];exact if_neg hyl
    simp(disch:=omega)only[SV,d1,d2,d3,n1,n2,oI,n3,g0,d4];refine(aRN (y.toNat:Nat) _).mono ?_;rintro r w4 ⟨b,hb1,⟨cc,rest,rfl,ob⟩,x4⟩;have z4:=x4.size;have hbl:=ob.lt;refine adT (o2.ext x4 (λh=>h)) (x13.seq x4) (by omega) λw' x x7=>good hE (.inr ⟨b,by omega,cc,rest,rfl, ?_⟩) x;exact ob.ext x7 (by omega)
 have n2:(mode==1)=false:=beq_eq_false_iff_ne.2 m1;by_cases m3:mode=3
 .subst m3;have n3:((3:Int)==3)=true:=rfl;have c1:=o1.cell (off:=1);simp only[a1A,a1B]at c1;have l1:=aX (off:=0) o1 (by simp);simp only[a1F,a1C,a1G]at l1;by_cases h0:T.2=[]
  .have n4:(((T.2.length:Nat):Int)==0)=true:=by rw[h0]<;>rfl
   have hE:cZ a 3 (aM s) T= .error 11:=by unfold cZ;rw[if_neg hno,if_neg (by omega),if_neg (by omega),if_pos rfl,if_pos h0]
   simp(disch:=omega)only[SV,d1,d2,d3,n1,n2,n3,c1,n4];exact adT o2 x13 (by omega) λw' x _=>err hE x
  .have n4:(((T.2.length:Nat):Int)==0)=false:=by
    have:=a5G.2 h0;simp;exact h0
   have hE:cZ a 3 (aM s) T= .ok (T,0):=by unfold cZ;rw[if_neg hno,if_neg (by omega),if_neg (by omega),if_pos rfl,if_neg h0]
   simp(disch:=omega)only[SV,d1,d2,d3,n1,n2,n3,c1,n4,l1];refine adT o2 x13 (by omega) λw' x x7=>good hE ?_ x;rcases ho with⟨e,_⟩|⟨b,hb1,h⟩
   .rw [e]at h0;exact absurd rfl h0
   .have hbl:=h.lt;exact .inr ⟨b,hb1,(h.ext x13 (λh=>h)).ext x7 (by omega)⟩
 have n3:(mode==3)=false:=beq_eq_false_iff_ne.2 m3;have m2:mode=2:=by omega
 have hl2:=hl m2;simp(disch:=omega)only[SV,d1,d2,d3,n1,n2,n3];refine(aOU a _).mono ?_;rintro r w4 ⟨rfl,hw⟩;rw[hw];clear hw w4;have e1:(tZ a+1).toNat=nb:=by omega
 refine(aEK hl2 (by omega)).mono ?_;rintro r w4 ⟨hr,x4⟩;have z4:=x4.size;have hE0:cZ a mode (aM s) T=match uB (aG (aM s)) (aaN a) nb with
  | .error e=> .error e
  | .ok (lg,ps,u)=> .ok ((lg,fL lg ps),u):=by unfold cZ;rw[if_neg hno,if_neg m0,if_neg m1,if_neg m3,e1]<;>rfl
 cases hrl:uB (aG (aM s)) (aaN a) nb with
 |error e=>
  rw[hrl]at hr hE0;have hr:r=_:=hr;subst hr;have he:=Ms hrl;have n4:(e !=0)=true:=by simpa using he
  have hE:cZ a mode (aM s) T= .error e:=hE0;simp(disch:=omega)only[SV];refine fS λw5 o5 x5 s5=> ?_;refine cS o5 rfl (by simp[one]) (by simp) λw6 o6 x6 s6=> ?_;simp(disch:=omega)only[SV,n4];have x46:aE w3 w6 aP:=x4.seq (x5.new x6 (a1J _));exact adT (o2.ext x46 (λh=>h)) (x13.seq x46) (by omega) λw' x _=>err hE x
 |ok y=>
  obtain⟨lg,ps,u⟩:=y;rw[hrl]at hr hE0;obtain⟨v,rfl,hv⟩:=hr;obtain⟨hmay,hlg,hpl⟩:=Uh hrl;have hm:=hmay (by omega);have hE:cZ a mode (aM s) T= .ok ((lg,fL lg ps),u):=hE0;obtain⟨va,vc,rfl⟩:=hv.len;have hs:=hv.sl;have n4:((0:Int) !=0)=false:=rfl;simp(disch:=omega)only[SV];refine fS λw5 o5 x5 s5=> ?_;refine cS o5 rfl (by simp[one]) (by simp) λw6 o6 x6 s6=> ?_;have l1:=fM (off:=0) o6 (by simp[aF]);simp only[aF,a1E,a1D,a1F,a1C,a1G]at l1;have x46:aE w4 w6 aP:=x5.new x6 (a1J _);have z6:=x46.size;simp(disch:=omega)only[SV,n4,l1];refine(apD hm (hs.ext x46 (aR _))).mono ?_;rintro r w7 ⟨b,cc,rest,rfl,hb1,ob,x7⟩;have z7:=x7.size;have hbl:=ob.lt;simp(disch:=omega)only[SV];refine cL λw8 o8 x8 s8=> ?_;refine bN o8 rfl (by simp[one]) (by simp) λw9 o9 x9 s9=> ?_;have l2:=aX (off:=0) o9 (by simp[aF]);simp only[aF,a1E,a1D,a1F,a1C,a1G]at l2;simp(disch:=omega)only[SV,n4,l2];have x49:aE w3 w9 aP:=((x4.seq x46).seq x7).seq (x8.new x9 (a1J _));refine adT (o2.ext x49 (λh=>h)) (x13.seq x49) (by omega) λw' x x10=>good hE (.inr ⟨b,by omega,cc,rest,by rw[eN], ?_⟩) x;exact((ob.ext x8 (λh=>h)).ext x9 (by omega)).ext x10 (by omega)
theorem apF{lack cc:Nat}{a:Option Addr}(h:RB w lo hi b L lack)(hhi:hi<=w.heap.size)(hn:log<=20)(hL:L.length<=10000000)(hk:lack<=100000000):
 aL pg Iq #[.agg #[.int .i64 log,.slice a k cc],b] w (λr w'=>∃b',r= .tuple #[b',.int .i64 (iI L log:Nat)]/\RB w' lo hi b' (L.take (L.length-min log L.length)) (lack+(log-min log L.length))/\aE w w' aP):=by
 refine azQ ?_;unfold aA9 acC;have hb:=h;obtain⟨v,rfl,hs,hat⟩:=h;obtain⟨a',c',rfl,hc⟩:=Dh hs;refine bY λw1 o1 x1 s1=> ?_;refine bY λw2 o2 x2 s2=> ?_;refine bM λw3 o3 x3 s3=> ?_;simp only[Value.cells]at o1 o2;have o13:=(o1.ext x2 (λh=>h)).ext x3 (λh=>h);have o23:=o2.ext x3 (λh=>h);have x03:aE w w3 aP:=(x1.seq x2).seq x3;have c0:=o13.cell (off:=0);have l1:=aQ (off:=0) o23 (by simp);simp only[a1A,a1B,a1F,a1C,a1G]at c0 l1;simp(disch:=omega)only[SV,c0,l1];refine(afW (hb.ext x03 (λ_ _ _ h=>h)) (by omega) hL (by omega)).mono ?_;rintro r w4 ⟨b',rfl,hb4,x4⟩;have hlt:=kY L log;have hp:2^log<=2^20:=a1K (by omega) hn;generalize iI L log=x at*;have hb4':=hb4;obtain⟨v4,rfl,hs4,hat4⟩:=hb4;obtain⟨a4,c4,rfl,hc4⟩:=Dh hs4;simp(disch:=omega)only[SV];refine aJ (o23.ext x4 (λh=>h)) rfl (by simp[one]) (by simp) λw5 o5 x5 s5=> ?_;simp only[aF,a1E,a1D]at o5;have l5:=aQ (off:=0) o5 (by simp);simp only[a1F,a1C,a1G]at l5;simp(disch:=omega)only[SV,l5];refine aJ ((o3.ext x4 (λh=>h)).ext x5 (by omega)) rfl (by simp[one]) (by simp) λw6 o6 x6 s6=> ?_;refine cR o6 (by simp[aF]) ?_;simp only[aF,a1E,a1D,a1F,a1C,a1G];have z3:=x3.size;have x46:aE w3 w6 (λy=>y=w1.heap.size∨y=w2.heap.size):=((x4.mono λ_ _ h=>h.elim).seq (x5.mono λ_ _ h=> .inl h)).seq (x6.mono λ_ _ h=> .inr h);have x06:aE w w6 aP:=x03.trans x46 λb hb h=>by omega
 refine⟨_,rfl, ?_,x06⟩;exact⟨_,rfl,hs4.ext ((x5.mono λ_ _ h=> .inl h:aE w4 w5 (λy=>y=w1.heap.size∨y=w2.heap.size)).seq (x6.mono λ_ _ h=> .inr h)) (hat4 _ λb hb hh=>by omega),hat4⟩
theorem aEJ{b lack:Nat}{L:List T3}{s:Int}(ht:RT w b log L v)(hL:Low L)(hlen:L.length<=1000000)(h:RB w lo hi bv B lack)(hhi:hi<=w.heap.size)(hB:B.length<=10000000)(hk:lack<=100000000):
 aL pg LV #[v,.int .i64 s,bv] w (λr w'=>∃b',r= .tuple #[b',.int .i64 (oH L s (iI B (cM L s)))]/\RB w' lo hi b' (B.take (B.length-min (cM L s) B.length)) (lack+(cM L s-min (cM L s) B.length))/\aE w w' aP):=by
 refine aB5 ?_;have htt:=ht;obtain⟨cc,rest,rfl,ob⟩:=ht;have hb:=h;obtain⟨v,rfl,hs,hat⟩:=h;obtain⟨a',c',rfl,hc⟩:=Dh hs;unfold aEq akB;refine bY λw1 o1 x1 s1=> ?_;refine bY λw2 o2 x2 s2=> ?_;refine bM λw3 o3 x3 s3=> ?_;simp only[Value.cells]at o1 o2;have o13:=(o1.ext x2 (λh=>h)).ext x3 (λh=>h);have o23:=o2.ext x3 (λh=>h);have x03:aE w w3 aP:=(x1.seq x2).seq x3;have c1:=o13.cell (off:=1);have l1:=aQ (off:=0) o23 (by simp);simp only[a1A,a1B,a1F,a1C,a1G]at c1 l1;have hlb:=ob.lt;have bad:cM L s=0->(∀x,oH L s x=0)->∀w6,aE w3 w6 (λy=>y=w2.heap.size)->∃b',Value.tuple #[.agg #[.slice a' B.length c',.int .i64 lack],.int .i64 0]=Value.tuple #[b',.int .i64 (oH L s (iI B (cM L s)))]/\RB w6 lo hi b' (B.take (B.length-min (cM L s) B.length)) (lack+(cM L s-min (cM L s) B.length))/\aE w w6 aP:=by
  intro e1 e2 w6 x6;have x06:aE w w6 aP:=x03.new x6 (by omega);refine⟨_,by rw[e2],⟨_, ?_, ?_,hat⟩,x06⟩
  .rw [e1];simp
  .have:B.take (B.length-min (cM L s) B.length)=B:=a1T (by omega);rw[this];exact hs.ext x06 (aR _)
 by_cases hs0:s<0
 .have d1:decide (s<0)=true:=by simpa using hs0
  have e1:cM L s=0:=by unfold cM;rw[if_neg (by omega)]
  have e2:∀x,oH L s x=0:=λx=>by unfold oH;rw[if_neg (by omega)]
  simp(disch:=omega)only[SV,d1,l1];refine aJ o3 rfl (by simp[one]) (by simp) λw6 o6 x6 s6=> ?_;refine cR o6 (by simp[aF]) ?_;simp only[aF,a1E,a1D,a1F,a1C,a1G];exact bad e1 e2 w6 x6
 have d1:decide (s<0)=false:=by simpa using hs0
 obtain⟨i,rfl⟩:∃i:Nat,s=i:=⟨s.toNat,by omega⟩;by_cases hge:L.length<=i
 .have d2:decide ((L.length:Int)<=(i:Int))=true:=by simp;omega
  have hnone:L[i]?=none:=a1X hge;have e1:cM L i=0:=by unfold cM;simp[hnone]
  have e2:∀x,oH L i x=0:=λx=>by unfold oH;simp[hnone]
  simp(disch:=omega)only[SV,d1,c1,d2,l1];refine aJ o3 rfl (by simp[one]) (by simp) λw6 o6 x6 s6=> ?_;refine cR o6 (by simp[aF]) ?_;simp only[aF,a1E,a1D,a1F,a1C,a1G];exact bad e1 e2 w6 x6
 clear bad;have d2:decide ((L.length:Int)<=(i:Int))=false:=by simp;omega
 have hlt:i<L.length:=by omega
 obtain⟨n,hn,hn2,hb0',hb1⟩:=hL _ (a2P hlt);have hsome:L[i]?=some L[i]:=a1I hlt;have e1:cM L i=n:=by unfold cM;simp[hsome,hn]
 have e2:∀x:Nat,oH L i x=L[i].2.2+x:=λx=>by unfold oH;simp[hsome]
 obtain⟨q1,q2,q3⟩:=Vz (k:= .i64) hsome;have hq:i*3+2<(fe .i64 L).length:=by rw[fR];omega
 rw[<-a1V (l₂:=rest) (by omega)]at q1 q2 q3;generalize L[i]=e at*;obtain⟨e0,en,eb⟩:=e;simp only at hn hb0' hb1 q1 q2 q3 e2;subst hn;rw[e1,e2];have ob3:=ob.ext x03 (λh=>h);have od:=aH o13;have o2d:=aH o23;have obd:=aH ob3;have c1d:=od.cell (off:=1);have l1d:=aQ (off:=0) o2d (by simp);have r2d:=obd.cell (off:=i*3+1);have r2:=ob3.cell (off:=i*3+1);rw[q2]at r2 r2d;simp only[a1A,a1B,a1F,a1C,a1G]at c1d l1d;simp(disch:=omega)only[SV,d1,c1,d2,l1,c1d,l1d,r2,r2d];refine(afW ((hb.ext x03 (λ_ _ _ h=>h)).ext (aE.dr _ aP) (λ_ _ _ h=>h)) (by omega) hB (by omega)).mono ?_;rintro r w4 ⟨b',rfl,hb4,x4⟩;have hlt:=kY B n;have hp:2^n<=2^20:=a1K (by omega) hn2;generalize iI B n=x at*;obtain⟨v4,rfl,hs4,hat4⟩:=hb4;obtain⟨a4,c4,rfl,hc4⟩:=Dh hs4;simp(disch:=omega)only[SV];refine aJ (o2d.ext x4 (λh=>h)) rfl (by simp[one]) (by simp) λw5 o5 x5 s5=> ?_;simp only[aF,a1E,a1D]at o5;have z3:=x3.size;have z4:w3.heap.size<=w4.heap.size:=x4.size;have x35:aE w3 w5 (λy=>y=w1.heap.size):=(((aE.dr w3 aP).seq x4).mono λ_ _ h=>h.elim).seq x5;have o15:=o13.ext x35 (by omega);have ob5:=ob3.ext x35 (by omega);have o5d:=aH o5;have l5:=aQ (off:=0) o5d (by simp);have c15:=(aH o15).cell (off:=1);have r3:=(aH ob5).cell (off:=i*3+2);rw[q3]at r3;simp only[a1A,a1B,a1F,a1C,a1G]at l5 c15;simp(disch:=omega)only[SV,l5,c15,r3];refine aJ (aH (o3.ext x35 (by omega))) rfl (by simp[one]) (by simp) λw6 o6 x6 s6=> ?_;simp only[aF,a1E,a1D]at o6;have x56:aE w5 w6 (λy=>y=w2.heap.size):=(aE.dr _ _).seq x6;have c16:=(o15.ext x56 (by omega)).cell (off:=1);have r36:=(ob5.ext x56 (by omega)).cell (off:=i*3+2);rw[q3]at r36;simp only[a1A,a1B]at c16;simp(disch:=omega)only[SV,c16,r36];refine cR o6 (by simp) ?_;simp only[a1F,a1C,a1G];have x36:aE w3 w6 (λy=>y=w1.heap.size∨y=w2.heap.size):=(x35.mono λ_ _ h=> .inl h).seq (x56.mono λ_ _ h=> .inr h);have x06:aE w w6 aP:=x03.trans x36 λb hb h=>by omega
 refine⟨_,rfl,⟨_,rfl,hs4.ext ((x5.mono λ_ _ h=> .inl h:aE w4 w5 (λy=>y=w1.heap.size∨y=w2.heap.size)).seq (x56.mono λ_ _ h=> .inr h)) (hat4 _ λb hb hh=>by omega),hat4⟩,x06⟩
def RBl(w:a7B)(lo hi:Nat)(b:a7C)(B:List Bool)(left:Int):Prop:=RB w lo hi b (B.take left.toNat) (-left).toNat
theorem RBl.ext (h:RBl w lo hi b B left)(x:aE w w' M)(hM:∀b,lo<=b->b<hi->¬M b):RBl w' lo hi b B left:=RB.ext h x hM
theorem RBl.form (h:RBl w lo hi b B left)(hl:left<=B.length):∃a c,b= .agg #[.slice a left.toNat c,.int .i64 ((-left).toNat:Nat)]:=by
 obtain⟨v,rfl,hs,_⟩:=h;obtain⟨a,c,rfl,_⟩:=Dh hs;have:(B.take left.toNat).length=left.toNat:=by rw[a1N];omega
 rw[this];exact⟨_,_,rfl⟩
theorem RBl.step (hl:left<=B.length)
 (h:RB w lo hi b ((B.take left.toNat).take ((B.take left.toNat).length-min n (B.take left.toNat).length)) ((-left).toNat+(n-min n (B.take left.toNat).length))):RBl w lo hi b B (left-n):=by
 have hlen:(B.take left.toNat).length=left.toNat:=by rw[a1N];omega
 rw[hlen,a5R]at h;have e1:min (left.toNat-min n left.toNat) left.toNat=(left-n).toNat:=by omega
 have e2:(-left).toNat+(n-min n left.toNat)=(-(left-n)).toNat:=by omega
 rw[e1,e2]at h;exact h
theorem aRI(h:RBl w lo hi b B left)(hn:n<=56)(hl:left<=B.length)(hB:B.length<=10000000)(hk: -1000000000<=left):
 aL pg DQ #[b,.int .i64 n] w (λr w'=>∃b',r= .tuple #[b',.int .u64 (B6 B left n:Nat)]/\RBl w' lo hi b' B (left-n)/\aE w w' aP):=by
 have hlen:(B.take left.toNat).length<=10000000:=by rw[a1N];omega
 refine(afW h hn hlen (by omega)).mono ?_;rintro r w1 ⟨b',rfl,h1,x1⟩;exact⟨b',rfl,RBl.step hl h1,x1⟩
theorem azA{cc:Nat}{a:Option Addr}(h:RBl w lo hi b B left)(hhi:hi<=w.heap.size)(hn:log<=20)(hl:left<=B.length)(hB:B.length<=10000000)(hk: -100000000<=left):
 aL pg Iq #[.agg #[.int .i64 log,.slice a k cc],b] w (λr w'=>∃b',r= .tuple #[b',.int .i64 (B6 B left log:Nat)]/\RBl w' lo hi b' B (left-log)/\aE w w' aP):=by
 have hlen:(B.take left.toNat).length<=10000000:=by rw[a1N];omega
 refine(apF h hhi hn hlen (by omega)).mono ?_;rintro r w1 ⟨b',rfl,h1,x1⟩;exact⟨b',rfl,RBl.step hl h1,x1⟩
theorem aD9 {b:Nat}{L:List T3}{s:Int}(ht:RT w b log L v)(hL:Low L)(hlen:L.length<=1000000)(h:RBl w lo hi bv B left)(hhi:hi<=w.heap.size)(hl:left<=B.length)(hB:B.length<=10000000)(hk: -100000000<=left):
 aL pg LV #[v,.int .i64 s,bv] w (λr w'=>∃b',r= .tuple #[b',.int .i64 (nR L s B left).1]/\RBl w' lo hi b' B (nR L s B left).2/\aE w w' aP):=by
 have hl2:(B.take left.toNat).length<=10000000:=by rw[a1N];omega
 refine(aEJ ht hL hlen h hhi hl2 (by omega)).mono ?_;rintro r w1 ⟨b',rfl,h1,x1⟩;exact⟨b',rfl,RBl.step hl h1,x1⟩
theorem aRJ(h:RBl w lo hi b B left)(hl:left<=B.length)(hB:B.length<=10000000)(hk: -100000000<=left):
 aL pg LU #[b] w (λr w'=>r= .int .i64 left/\aE w w' aP):=by
 have hlen:(B.take left.toNat).length=left.toNat:=by rw[a1N];omega
 refine(afX h (by omega) (by omega)).mono ?_;rintro r w1 ⟨rfl,x1⟩;refine⟨?_,x1⟩;rw[hlen];congr 1;omega
theorem apG{b:Nat}{T:TT}{s:Nat}(hk:k<3)(ht:RT w b T.1 T.2 v)(hG:GK k T)(hs:s<T.2.length)(h:RBl w lo hi bv B left)(hhi:hi<=w.heap.size)(hl:left<=B.length)(hB:B.length<=10000000)(h2: -100000000<=left):
 aL pg RD #[.int .i64 k,v,.int .i64 s,bv] w (λr w'=>∃b',r= .tuple #[b',.int .u32 ((vR k T.2 s B left).1:Nat)]/\RBl w' lo hi b' B (vR k T.2 s B left).2/\aE w w' aP):=by
 refine aAc ?_;obtain⟨RR,hRR⟩:∃RR:a7C->a7B->Prop,RR=λr w'=>∃b',r= .tuple #[b',.int .u32 ((vR k T.2 s B left).1:Nat)]/\RBl w' lo hi b' B (vR k T.2 s B left).2/\aE w w' aP:=⟨_,rfl⟩;rw[<-hRR];have hlen9:T.2.length<=512:=by rw[hG.len];exact a1K (by omega) hG.lg
 obtain⟨cc,rest,rfl,ob⟩:=ht;have hf:=h.form hl;obtain⟨ba,bc,rfl⟩:=hf;unfold aBf adE;refine bY λw1 o1 x1 s1=> ?_;refine bY λw2 o2 x2 s2=> ?_;refine bM λw3 o3 x3 s3=> ?_;simp only[Value.cells]at o1 o2;have x03:=(x1.seq x2).seq x3;have z1:=x1.size;have z2:=x2.size;have o1:=(o1.ext x2 (λh=>h)).ext x3 (λh=>h);have o2:=o2.ext x3 (λh=>h);have c1:=o1.cell (off:=1);simp only[a1A,a1B]at c1;obtain⟨e,c,e1,e2,e3,e4,e5⟩:=arR hG hs;have k0:=(ob.ext x03 (λh=>h)).cell (off:=s*3);rw[a1V (by rw[fR];omega),(Vz e1).1]at k0;have hc53:oA k<=53:=by rcases(show k=0∨k=1∨k=2 by omega)with rfl|rfl|rfl<;>decide
 simp(disch:=omega)only[SV,c1,k0,a1H];refine(aOO hk e2).mono ?_;rintro r w4 ⟨rfl,x4⟩;have ha:=aGW hk e.1;have he:=aS6 hk e.1 e2;have hr:=anO B left ((jU k).getD e.1 0);have hv:vR k T.2 s B left=((vQ k).getD e.1 0+B6 B left ((jU k).getD e.1 0),left-(jU k).getD e.1 0):=by unfold vR;rw[aL3 e1]
 rw[hv]at hRR;have o2:=o2.ext x4 (λh=>h);have l2:=aQ (off:=0) o2 (by simp);simp only[a1F,a1C,a1G]at l2;simp(disch:=omega)only[SV,l2];have x04:=x03.seq x4;refine(aRI (h.ext x04 (λ_ _ _ h=>h)) (by omega) hl hB (by omega)).mono ?_;rintro r w5 ⟨b',rfl,h5,x5⟩;obtain⟨ba',bc',rfl⟩:=h5.form (by omega);simp(disch:=omega)only[SV];refine aJ (o2.ext x5 (λh=>h)) rfl (by simp[one]) (by simp) λw6 o6 x6 s6=> ?_;simp only[aF,a1E,a1D]at o6;have l6:=aQ (off:=0) o6 (by simp);simp only[a1F,a1C,a1G]at l6;generalize B6 B left ((jU k).getD e.1 0)=x at*;generalize(jU k).getD e.1 0=n at*;generalize(vQ k).getD e.1 0=y at*;generalize 2^n=z at*;have ew2:IntKind.u32.wrap (x:Int)=(x:Int):=w32 (by omega) (by omega);have ew3:IntKind.u32.wrap ((y:Int)+(x:Int))=((y+x:Nat):Int):=by rw[w32 (by omega) (by omega)];omega
 simp(disch:=omega)only[SV,l6,ew2,ew3];refine aJ (((o3.ext x4 (λh=>h)).ext x5 (λh=>h)).ext x6 (by omega)) rfl (by simp[one]) (by simp) λw7 o7 x7 s7=> ?_;refine cR o7 (by simp[aF]) ?_;simp only[aF,a1E,a1D,a1F,a1C,a1G];rw[hRR];exact⟨_,rfl,(h5.ext x6 (λb _ hb=>by omega)).ext x7 (λb _ hb=>by omega),((x04.seq x5).new x6 (by omega)).new x7 (by omega)⟩
def tvR(T:TT)(a:Option Addr)(c:Nat):a7C:= .agg #[.int .i64 T.1,.slice a T.2.length c]
def r6 (o:Nat->TT)(a:Nat->Option Addr)(c:Nat->Nat):List a7C:=[.int .i64 (o 0).1,.slice (a 0) (o 0).2.length (c 0),.int .i64 (o 1).1,.slice (a 1) (o 1).2.length (c 1),.int .i64 (o 2).1,.slice (a 2) (o 2).2.length (c 2)]
def Rb3 (w:a7B)(o:Nat->TT)(a:Nat->Option Addr)(c:Nat->Nat):Prop:=∀k,k<3->RtV w 0 (o k) (tvR (o k) (a k) (c k))
theorem aUs(o:Nat->TT)(a:Nat->Option Addr)(c:Nat->Nat)(h:k<3):((r6 o a c).drop (k*2)).take 2=[.int .i64 (o k).1,.slice (a k) (o k).2.length (c k)]:=by
 rcases(show k=0∨k=1∨k=2 by omega)with rfl|rfl|rfl<;>rfl
theorem aRC(o:Nat->TT)(a:Nat->Option Addr)(c:Nat->Nat)(h:k<3)(T:TT)(x:Option Addr)(y:Nat):aF (r6 o a c) (k*2) [.int .i64 T.1,.slice x T.2.length y]=r6 (upT o k T) (upA a k x) (upS c k y):=by
 rcases(show k=0∨k=1∨k=2 by omega)with rfl|rfl|rfl<;>rfl
theorem Rb3.ext (h:Rb3 w o a c)(x:aE w w' aP):Rb3 w' o a c:=λk hk=>(h k hk).ext x λ_ _ _ h=>h
theorem RtV.own {T:TT}{cs cs':List a7C}(h:RtV w base T v)(o:aT w p cs)(o':aT w' p cs')(hc:∀u x,¬(cs[0]?=some (.int .i64 u)/\cs[1]?=some (.int .i64 x)))(x:aE w w' (λy=>y=p)):RtV w' base T v:=by
 rcases h with h|⟨b,h0,cc,rest,h1,h2⟩
 .exact .inl h
 .by_cases hb:b=p
  .subst hb;have e:=afT h2 o;cases hT:T.2 with
   |nil=>exact .inr ⟨b,h0,cc,cs',h1,by rw[hT];exact o'⟩
   |cons y r=>
    obtain⟨g0,g1,_⟩:=Vz (k:= .i64) (L:=T.2) (i:=0) (e:=y) (by rw[hT]<;>rfl);subst e;have hl:3<=(fe .i64 T.2).length:=by rw[fR,hT,a1U];omega
    exact absurd ⟨by rw[a1V (by omega)];exact g0,by rw[a1V (by omega)];exact g1⟩ (hc y.1 y.2.1)
  .exact .inr ⟨b,h0,cc,rest,h1,h2.ext x hb⟩
theorem Rb3.own {cs cs':List a7C}(h:Rb3 w o a c)(ho:aT w p cs)(ho':aT w' p cs')(hc:∀u x,¬(cs[0]?=some (.int .i64 u)/\cs[1]?=some (.int .i64 x)))(x:aE w w' (λy=>y=p)):Rb3 w' o a c:=λk hk=>(h k hk).own ho ho' hc x
theorem Rb3.up {T:TT}{x:Option Addr}{y:Nat}(h:Rb3 w o a c)(hx:RtV w 0 T (tvR T x y)):Rb3 w (upT o k T) (upA a k x) (upS c k y):=λi hi=>by
 unfold upT upA upS;split
 .exact hx
 .exact h i hi
theorem RtV.rt {T:TT}(h:RtV w base T v)(h0:0<T.2.length):∃b,RT w b T.1 T.2 v:=by
 rcases h with⟨e,_⟩|⟨b,_,h⟩
 .rw [e]at h0;simp at h0
 .exact ⟨b,h⟩
def RbO(w:a7B)(pb lo hi:Nat)(B:List Bool)(left:Int):Prop:=∃a c,aT w pb [.slice a left.toNat c,.int .i64 ((-left).toNat:Nat)]/\RBl w lo hi (.agg #[.slice a left.toNat c,.int .i64 ((-left).toNat:Nat)]) B left
theorem aOT{k2:K5}{t5 no:a7C}{pb:Nat}{t:Nat->TT}{st:Nat->Nat}(hn:n<=98047)(oT:aT w pt (r6 t a c))(hT:Rb3 w t a c)(hB:RbO w pb lo hi B left)
 (h1:pt<pb) (h2:hi<=pb) (hG:Qd t st) (hb0:B.length<=8000000) (hb1:left<=B.length) (hb2: -1000<=left)
 (hk:∀w' out,mH w' w.heap.size 3 out n (sqs (sqF t B n st left).1)->RbO w' pb lo hi B (sqF t B n st left).2->aT w' pt (r6 t a c)->Rb3 w' t a c->aE w w' (λy=>y=pb)->k2 t5 no (.pointer (some ⟨pt,0,none⟩)) (.pointer (some ⟨pb,0,none⟩)) out w'):
 wE k2 t5 no (.int .u64 n) (.pointer (some ⟨pt,0,none⟩)) (.pointer (some ⟨pb,0,none⟩)) (.int .i64 (st 0:Nat)) (.int .i64 (st 1:Nat)) (.int .i64 (st 2:Nat)) (.slice none 0 0) (.int .u64 0) w:=by
 have hpb:pb<w.heap.size:=by obtain⟨_,_,o,_⟩:=hB;exact o.lt
 have hTx:∀{w':a7B} {cs':List a7C},aE w w' (λy=>y=pb)->aT w' pb cs'->Rb3 w' t a c:=λx o'=>by
  obtain⟨_,_,o,_⟩:=hB;exact hT.own o o' (λu x=>by simp) x
 unfold wE;refine aN.rule (λm (v:a7C×a7C×a7C×a7C×a7C) w'=>∃(i:Nat) (out:a7C) (qs:List Sq) (st':Nat->Nat) (left':Int),m=n-i/\i<=n/\v=(.int .i64 (st' 0:Nat),.int .i64 (st' 1:Nat),.int .i64 (st' 2:Nat),out,.int .u64 i)/\qs.length=i/\mH w' w.heap.size 3 out i (sqs qs)/\RbO w' pb lo hi B left'/\Qd t st'/\
  sqF t B n st left=(qs++(sqF t B (n-i) st' left').1,(sqF t B (n-i) st' left').2)/\left-160*i<=left'/\left'<=left/\aE w w' (λy=>y=pb)) n
  ⟨0,_,[],st,left,rfl,by omega,rfl,rfl,mH.nil _ _ _,hB,hG,rfl,by simp,a6P _,aE.refl _ _⟩ ?_
 rintro m v w1 ⟨i,out,qs,st',left',rfl,hin,rfl,hqs,os1,hB1,hG1,hE,hc1,hc2,x1⟩;unfold alA akZ;by_cases hlt:i<n;rotate_left
 .obtain rfl:i=n:=by omega
  have d1:decide ((i:Int)<(i:Int))=false:=by simp
  simp(disch:=omega)only[SV,d1];rw[a5N]at hE;have hz:sqF t B 0 st' left'=([],left'):=rfl;rw[hz]at hE;simp only[a4M]at hE;rw[hE]at hk;have hB1':=hB1;obtain⟨_,_,o,_⟩:=hB1';exact hk _ _ os1 hB1 (oT.ext x1 (by omega)) (hTx x1 o) x1
 have d1:decide ((i:Int)<(n:Int))=true:=by simp;omega
 simp(disch:=omega)only[SV,d1];refine JV λw2 o2 x2 s2=> ?_;obtain⟨hG0,hs0⟩:=hG1 0 (by omega);obtain⟨hGo,hso⟩:=hG1 1 (by omega);obtain⟨hGm,hsm⟩:=hG1 2 (by omega);have z1:=x1.size;have xx2:aE w w2 (λy=>y=pb):=x1.seq (x2.mono λ_ _ h=>h.elim);obtain⟨ba2,bc2,ob2,hR2⟩:RbO w2 pb lo hi B left':=by
  obtain⟨ba,bc,ob,hR⟩:=hB1;exact⟨ba,bc,ob.ext x2 (λh=>h),hR.ext x2 (λ_ _ _ h=>h)⟩
 have os2:=(os1.ne (a1J w1.heap.size)).ext x2 (λb _ h=>h);have t1:(1:Int).toNat=1:=rfl;have t2:(2:Int).toNat=2:=rfl;have t0:(0:Int).toNat=0:=rfl;obtain⟨pq,hpq⟩:∃pq,pq=w1.heap.size:=⟨_,rfl⟩;rw[<-hpq]at o2 os2⊢;have hpw:w.heap.size<=pq:=by omega
 have oT2:=oT.ext xx2 (by omega);have l2:=aX (off:=2) oT2 (by simp[r6]);simp only[r6,a2H,a1F,a1C,a1G]at l2;have q2:=aQ (off:=0) ob2 (by simp);simp only[a1F,a1C,a1G]at q2;simp(disch:=omega)only[SV,t0,t1,t2,l2,q2];obtain⟨b2,ht2⟩:=(hTx xx2 ob2 1 (by omega)).rt (by omega);have y2:=xx2.size;obtain⟨hv2,hw21,hw22⟩:=CC (k:=1) (by omega) hGo hso B left';refine(apG (k:=1) (T:=t 1) (s:=st' 1) (by omega) ht2 hGo hso hR2 (by omega) (by omega) (by omega) (by omega)).mono ?_;rintro r u2 ⟨bb2,rfl,hRv2,xv2⟩;obtain⟨ba3,bc3,rfl⟩:=hRv2.form (by omega);have obv2:=ob2.ext xv2 (λh=>h);have osv2:=os2.ext xv2 (λb _ h=>h);have oqv2:=o2.ext xv2 (λh=>h);simp(disch:=omega)only[SV];refine aJ obv2 rfl (by simp[one]) (by simp) λp2 ob3' xp2 sp2=> ?_;simp only[aF,a1E,a1D]at ob3';refine H6 (oqv2.ext xp2 (by omega)) rfl (by simp) λw3 o3 x3 s3=> ?_;simp only[a1E,a1D]at o3;have ob3:=ob3'.ext x3 (by omega);have hR3:=(hRv2.ext xp2 (λb _ _=>by omega)).ext x3 (λb _ _=>by omega);have os3:=(osv2.ext xp2 (λb h e=>by omega)).ext x3 (λb h e=>h.2 e);have xx3:aE w w3 (λy=>y=pb):=((xx2.more xv2).seq xp2).new x3 hpw;have oT3:=oT.ext xx3 (by omega);have l3:=aX (off:=4) oT3 (by simp[r6]);simp only[r6,a2H,a1F,a1C,a1G]at l3;have q3:=aQ (off:=0) ob3 (by simp);simp only[a1F,a1C,a1G]at q3;simp(disch:=omega)only[SV,t0,t1,t2,l3,q3];obtain⟨b3,ht3⟩:=(hTx xx3 ob3 2 (by omega)).rt (by omega);have y3:=xx3.size;obtain⟨hv3,hw31,hw32⟩:=CC (k:=2) (by omega) hGm hsm B (vR 1 (t 1).2 (st' 1:Nat) B left').2;refine(apG (k:=2) (T:=t 2) (s:=st' 2) (by omega) ht3 hGm hsm hR3 (by omega) (by omega) (by omega) (by omega)).mono ?_;rintro r u3 ⟨bb3,rfl,hRv3,xv3⟩;obtain⟨ba4,bc4,rfl⟩:=hRv3.form (by omega);have obv3:=ob3.ext xv3 (λh=>h);have osv3:=os3.ext xv3 (λb _ h=>h);have oqv3:=o3.ext xv3 (λh=>h);simp(disch:=omega)only[SV];refine aJ obv3 rfl (by simp[one]) (by simp) λp3 ob4' xp3 sp3=> ?_;simp only[aF,a1E,a1D]at ob4';refine H6 (oqv3.ext xp3 (by omega)) rfl (by simp) λw4 o4 x4 s4=> ?_;simp only[a1E,a1D]at o4;have ob4:=ob4'.ext x4 (by omega);have hR4:=(hRv3.ext xp3 (λb _ _=>by omega)).ext x4 (λb _ _=>by omega);have os4:=(osv3.ext xp3 (λb h e=>by omega)).ext x4 (λb h e=>h.2 e);have xx4:aE w w4 (λy=>y=pb):=((xx3.more xv3).seq xp3).new x4 hpw;have oT4:=oT.ext xx4 (by omega);have l4:=aX (off:=0) oT4 (by simp[r6]);simp only[r6,a2H,a1F,a1C,a1G]at l4;have q4:=aQ (off:=0) ob4 (by simp);simp only[a1F,a1C,a1G]at q4;simp(disch:=omega)only[SV,t0,t1,t2,l4,q4];obtain⟨b4,ht4⟩:=(hTx xx4 ob4 0 (by omega)).rt (by omega);have y4:=xx4.size;obtain⟨hv4,hw41,hw42⟩:=CC (k:=0) (by omega) hG0 hs0 B (vR 2 (t 2).2 (st' 2:Nat) B (vR 1 (t 1).2 (st' 1:Nat) B left').2).2;refine(apG (k:=0) (T:=t 0) (s:=st' 0) (by omega) ht4 hG0 hs0 hR4 (by omega) (by omega) (by omega) (by omega)).mono ?_;rintro r u4 ⟨bb4,rfl,hRv4,xv4⟩;obtain⟨ba5,bc5,rfl⟩:=hRv4.form (by omega);have obv4:=ob4.ext xv4 (λh=>h);have osv4:=os4.ext xv4 (λb _ h=>h);have oqv4:=o4.ext xv4 (λh=>h);simp(disch:=omega)only[SV];refine aJ obv4 rfl (by simp[one]) (by simp) λp4 ob5' xp4 sp4=> ?_;simp only[aF,a1E,a1D]at ob5';refine H6 (oqv4.ext xp4 (by omega)) rfl (by simp) λw5 o5 x5 s5=> ?_;simp only[a1E,a1D]at o5;have ob5:=ob5'.ext x5 (by omega);have hR5:=(hRv4.ext xp4 (λb _ _=>by omega)).ext x5 (λb _ _=>by omega);have os5:=(osv4.ext xp4 (λb h e=>by omega)).ext x5 (λb h e=>h.2 e);have xx5:aE w w5 (λy=>y=pb):=((xx4.more xv4).seq xp4).new x5 hpw;obtain⟨q,lf,hq⟩:∃q lf,v3 t B st' left'=(q,lf):=⟨_,_,rfl⟩;have hq1:(v3 t B st' left').1=q:=by rw[hq]
 have hq2:(v3 t B st' left').2=lf:=by rw[hq]
 have hlf:=aNW hG1 B left';rw[hq2]at hlf;have o5:aT w5 pq (sqc (v3 t B st' left').1):=o5;have hB5:RbO w5 pb lo hi B (v3 t B st' left').2:=⟨ba5,bc5,ob5,hR5⟩;rw[hq1]at o5;rw[hq2]at hB5;have l5:=pG (off:=0) o5 (by simp[sqc]);simp only[sqc,a1F,a1C,a1G]at l5;simp(disch:=omega)only[SV,l5];refine Na (cells:= #[.int .u32 q.ll,.int .u32 q.ml,.int .u32 q.of]) (by decide) (by decide) (by kernel_rfl) λw6 o6 x6 s6=> ?_;have os6:=(os5.ext x6 (λb _ h=>h)).osl;have z5:=xx5.size;have z6:=x6.size;refine pS (m:=1) (news:=sqc q) os6 (o6.cl (off:=0) (l:=sqc q) (n:=1) rfl (λi hi=>by rw[a1Q]<;>rfl)) (by simp[sqc,one]) (by omega) (by omega) λv7 w7 o7 x7=> ?_;rw[<-aKi]at o7;have xx6:aE w w6 (λy=>y=pb):=xx5.more x6;have xx7:aE w w7 (λy=>y=pb):=xx6.trans x7 λb hb h=>by omega
 obtain⟨ba7,bc7,ob7,hR7⟩:RbO w7 pb lo hi B lf:=by
  obtain⟨ba,bc,ob,hR⟩:=hB5;exact⟨ba,bc,(ob.ext x6 (λh=>h)).ext x7 (by omega),(hR.ext x6 (λ_ _ _ h=>h)).ext x7 (λb _ hb=>by omega)⟩
 have e1:(i:Int)+1=((i+1:Nat):Int):=by omega
 by_cases hlast:i+1=n
 .have n1:decide (((i+1:Nat):Int)<(n:Int))=false:=by simp;omega
  simp(disch:=omega)only[SV,e1,n1];unfold IS;simp(disch:=omega)only[SV,e1];have h1:n-i=1:=by omega
  rw[h1,aCC,hq]at hE;refine⟨n-(i+1),by omega,i+1,_,qs++[q],st',lf,rfl,by omega,rfl,by rw[a1O,hqs]<;>rfl,o7,⟨_,_,ob7,hR7⟩,hG1, ?_,by omega,by omega,xx7⟩;rw[hE,hlast,a5N];show _=(qs++[q]++[],lf);rw[a4M]
 .have n1:decide (((i+1:Nat):Int)<(n:Int))=true:=by simp;omega
  obtain⟨m,hm⟩:∃m,n-i=m+2:=⟨n-i-2,by omega⟩;have hm1:n-(i+1)=m+1:=by omega
  have hE2:=awL hG1 B m left';rw[hq]at hE2;simp only at hE2;obtain⟨g1,g2,g3⟩:=aaV (B:=B) (j:=3) (left:=lf) hG1;have i0:=VM hG0 hs0 B lf;have oT7:=oT.ext xx7 (by omega);have l7:=aX (off:=0) oT7 (by simp[r6]);simp only[r6,a2H,a1F,a1C,a1G]at l7;have q7:=aQ (off:=0) ob7 (by simp);simp only[a1F,a1C,a1G]at q7;simp(disch:=omega)only[SV,e1,n1,t0,t1,t2,l7,q7];obtain⟨b7,ht7⟩:=(hTx xx7 ob7 0 (by omega)).rt (by omega);have y7:=xx7.size;have hz7:(t 0).2.length<=1000000:=by rw[hG0.len];exact a3K (a1K (by omega) hG0.lg) (by omega)
  obtain⟨s7',f71,f72,f73,f74⟩:=VM (k:=0) hG0 hs0 B lf;refine(aD9 (s:=(st' 0:Nat)) ht7 hG0.low hz7 hR7 (by omega) (by omega) (by omega) (by omega)).mono ?_;rintro r u7 ⟨bb7,rfl,hRv7,xv7⟩;obtain⟨ba8,bc8,rfl⟩:=hRv7.form (by omega);simp(disch:=omega)only[SV];refine aJ (ob7.ext xv7 (λh=>h)) rfl (by simp[one]) (by simp) λw8 ob8 x8 s8=> ?_;simp only[aF,a1E,a1D]at ob8;have hR8:=hRv7.ext x8 (λb _ _=>by omega);have xx8:aE w w8 (λy=>y=pb):=(xx7.more xv7).seq x8;have o8:=(o7.ext xv7 (λb hb h=>h)).ext x8 (λb hb h=>by omega);have oT8:=oT.ext xx8 (by omega);have l8:=aX (off:=4) oT8 (by simp[r6]);simp only[r6,a2H,a1F,a1C,a1G]at l8;have q8:=aQ (off:=0) ob8 (by simp);simp only[a1F,a1C,a1G]at q8;simp(disch:=omega)only[SV,e1,n1,t0,t1,t2,l8,q8];obtain⟨b8,ht8⟩:=(hTx xx8 ob8 2 (by omega)).rt (by omega);have y8:=xx8.size;have hz8:(t 2).2.length<=1000000:=by rw[hGm.len];exact a3K (a1K (by omega) hGm.lg) (by omega)
  obtain⟨s8',f81,f82,f83,f84⟩:=VM (k:=2) hGm hsm B (nR (t 0).2 (st' 0:Nat) B lf).2;refine(aD9 (s:=(st' 2:Nat)) ht8 hGm.low hz8 hR8 (by omega) (by omega) (by omega) (by omega)).mono ?_;rintro r u8 ⟨bb8,rfl,hRv8,xv8⟩;obtain⟨ba9,bc9,rfl⟩:=hRv8.form (by omega);simp(disch:=omega)only[SV];refine aJ (ob8.ext xv8 (λh=>h)) rfl (by simp[one]) (by simp) λw9 ob9 x9 s9=> ?_;simp only[aF,a1E,a1D]at ob9;have hR9:=hRv8.ext x9 (λb _ _=>by omega);have xx9:aE w w9 (λy=>y=pb):=(xx8.more xv8).seq x9;have o9:=(o8.ext xv8 (λb hb h=>h)).ext x9 (λb hb h=>by omega);have oT9:=oT.ext xx9 (by omega);have l9:=aX (off:=2) oT9 (by simp[r6]);simp only[r6,a2H,a1F,a1C,a1G]at l9;have q9:=aQ (off:=0) ob9 (by simp);simp only[a1F,a1C,a1G]at q9;simp(disch:=omega)only[SV,e1,n1,t0,t1,t2,l9,q9];obtain⟨b9,ht9⟩:=(hTx xx9 ob9 1 (by omega)).rt (by omega);have y9:=xx9.size;have hz9:(t 1).2.length<=1000000:=by rw[hGo.len];exact a3K (a1K (by omega) hGo.lg) (by omega)
  obtain⟨s9',f91,f92,f93,f94⟩:=VM (k:=1) hGo hso B (nR (t 2).2 (st' 2:Nat) B (nR (t 0).2 (st' 0:Nat) B lf).2).2;refine(aD9 (s:=(st' 1:Nat)) ht9 hGo.low hz9 hR9 (by omega) (by omega) (by omega) (by omega)).mono ?_;rintro r u9 ⟨bb9,rfl,hRv9,xv9⟩;obtain⟨ba10,bc10,rfl⟩:=hRv9.form (by omega);simp(disch:=omega)only[SV];refine aJ (ob9.ext xv9 (λh=>h)) rfl (by simp[one]) (by simp) λw10 ob10 x10 s10=> ?_;simp only[aF,a1E,a1D]at ob10;have hR10:=hRv9.ext x10 (λb _ _=>by omega);have xx10:aE w w10 (λy=>y=pb):=(xx9.more xv9).seq x10;have o10:=(o9.ext xv9 (λb hb h=>h)).ext x10 (λb hb h=>by omega);unfold IS;simp(disch:=omega)only[SV,e1];rw[f71,f81,f91];have hnx:nxs t B 3 st' lf=(upS (upS (upS st' 0 (nR (t 0).2 (st' 0:Nat) B lf).1.toNat) 2 (nR (t 2).2 (st' 2:Nat) B (nR (t 0).2 (st' 0:Nat) B lf).2).1.toNat) 1 (nR (t 1).2 (st' 1:Nat) B (nR (t 2).2 (st' 2:Nat) B (nR (t 0).2 (st' 0:Nat) B lf).2).2).1.toNat,(nR (t 1).2 (st' 1:Nat) B (nR (t 2).2 (st' 2:Nat) B (nR (t 0).2 (st' 0:Nat) B lf).2).2).2):=rfl;rw[f71,f81,f91]at hnx;simp only[a1H]at hnx;refine⟨n-(i+1),by omega,i+1,_,qs++[q],(nxs t B 3 st' lf).1,(nxs t B 3 st' lf).2,rfl,by omega, ?_,by rw[a1O,hqs]<;>rfl,o10, ?_,g1, ?_,by omega,by omega,xx10⟩
  .rw [hnx]<;>rfl
  .rw [hnx];exact⟨_,_,ob10,hR10⟩
  .rw [hE,hm,hE2,hm1,a2R];rfl
def z6:List a7C:=[(.int .i64 0),(.slice none 0 0),(.int .i64 0),(.slice none 0 0),(.int .i64 0),(.slice none 0 0)]
theorem atD{x0 x1 x2:Int}{a0 a1 a2:Option Addr}{n0 n1 n2 k0 k1 k2:Nat}{c:List a7C}{s:a7C}(o:aT w p c)(hc:c.length=6)
 (hR:∀w',aE w w' (λy=>y=p)->aT w' p [.int .i64 x0,.slice a0 n0 k0,.int .i64 x1,.slice a1 n1 k1,.int .i64 x2,.slice a2 n2 k2]->RR (.tuple #[s,.agg #[.int .i64 x0,.slice a0 n0 k0,.int .i64 x1,.slice a1 n1 k1,.int .i64 x2,.slice a2 n2 k2],e]) w'):
 bF pg (dL 60 (.pointer (some ⟨p,0,none⟩)) (.agg #[.int .i64 x0,.slice a0 n0 k0,.int .i64 x1,.slice a1 n1 k1,.int .i64 x2,.slice a2 n2 k2])) w λ_u w=>LdR pg 60 (.pointer (some ⟨p,0,none⟩)) w λr1=>RR (.tuple #[s,r1,e]) w:=by
 match c,hc with
 |[c0,c1,c2,c3,c4,c5],_=>
  refine dN o rfl (by simp[one]) (by simp) λw6 o6 x6 s6=> ?_;refine A3 o6 (by simp[aF]) ?_;simp only[aF,a1E,a1D,a1F,a1C,a1G]at o6⊢;exact hR _ x6 o6
theorem aO2 {k0:K5}{RR:K1}{n9:a7C}{m p3 p5 pn pm:Nat}{mc:Nat}(hm:m<256)(o3:aT w p3 (r6 o a c))(o5:aT w p5 z6)(on:aT w pn z6)(om:aT w pm [.int .i64 (mk2 m 0:Nat),.int .i64 (mk2 m 1:Nat),.int .i64 (mk2 m 2:Nat)])(oT:aT w pt (r6 o a c))
 (hO:Rb3 w o a c) (hO6:∀k,k<3->(o k).2.length<=1000000) (hx:x.size<=1000000) (h1:p3≠pt/\p5≠pt/\pn≠pt/\pm≠pt) (h2:p5≠pn)
 (hk:∀w' t a c x',Ml m o 3 o (aM x)= .ok (t,aM x')->aT w' pt (r6 t a c)->Rb3 w' t a c->aE w w' (λy=>y=pt)->k0 (.pointer (some ⟨p5,0,none⟩)) (.pointer (some ⟨pn,0,none⟩)) n9 (.pointer (some ⟨pt,0,none⟩)) (.string x') w')
 (herr:∀w' e,Ml m o 3 o (aM x)= .error e->aE w w' (λy=>y=pt∨y=p5)->RR (.tuple #[.slice none 0 0,BF,.int .i64 e]) w'):
 tP k0 RR (.pointer (some ⟨p3,0,none⟩)) (.pointer (some ⟨p5,0,none⟩)) (.pointer (some ⟨pn,0,none⟩)) n9 (.slice (some ⟨pm,0,none⟩) 3 mc) (.pointer (some ⟨pt,0,none⟩)) (.string x) (.int .i64 0) w:=by
 have hptw:=oT.lt;have hp5w:=o5.lt;unfold tP;refine aN.rule (λn (v:a7C×a7C) w'=>∃(j:Nat) (x':ByteArray) (t':Nat->TT) (a':Nat->Option Addr) (c':Nat->Nat),n=j/\j<=3/\v=(.string x',.int .i64 (3-j:Nat))/\x'.size<=x.size/\aT w' pt (r6 t' a' c')/\Rb3 w' t' a' c'/\Ml m o 3 o (aM x)=Ml m o j t' (aM x')/\aE w w' (λy=>y=pt)) 3
  ⟨3,x,o,a,c,rfl,a1J _,rfl,a1J _,oT,hO,rfl,aE.refl _ _⟩ ?_
 rintro j v w7 ⟨n,x',t',a',c',rfl,hj,rfl,hx',o8,hT7,hE,x7⟩;unfold adA acZ;rcases j with _|n
 .have d1:decide (((3-0:Nat):Int)<3)=false:=rfl;simp(disch:=omega)only[SV,d1];exact hk _ _ _ _ _ (by rw[hE]<;>rfl) o8 hT7 x7
 obtain⟨k,hkk⟩:∃k,k=2-n:=⟨_,rfl⟩;have hk3:k<3:=by omega
 have ek:((3-(n+1):Nat):Int)=(k:Int):=by omega
 have d1:decide ((k:Int)<3)=true:=by simp;omega
 have hS:Ml m o (n+1) t' (aM x')=match cZ (k:Int) ((mk2 m k:Nat):Int) (aM x') (o k)with
  | .error e=> .error e
  | .ok (y,u)=>Ml m o n (upT t' k y) ((aM x').drop u):=by rw[hkk]<;>rfl
 have hm4:=aDW m k;have hll:=aI x';rw[ek];simp(disch:=omega)only[SV,d1];unfold O8 O7 acY;have o37:=o3.ext x7 (by omega);have o57:=o5.ext x7 (by omega);have on7:=on.ext x7 (by omega);have om7:=om.ext x7 (by omega);have hTo:Rb3 w7 o a c:=hO.own oT o8 (λu x=>by simp[r6]) x7;have l2:=aX (off:=k*2) (aH o37) (by simp[r6];omega);rw[aUs _ _ _ hk3]at l2;have cm:=(aH om7).cell (off:=k);have hcm:[Value.int .i64 (mk2 m 0:Nat),.int .i64 (mk2 m 1:Nat),.int .i64 (mk2 m 2:Nat)][k]?=some (.int .i64 (mk2 m k:Nat)):=by
  rcases(show k=0∨k=1∨k=2 by omega)with rfl|rfl|rfl<;>rfl
 rw[hcm]at cm;have z7:=x7.size;have n0:((0:Int) !=0)=false:=rfl;have err7:∀{e:Int} {w8 w':a7B},Ml m o (n+1) t' (aM x')= .error e->aE w7 w8 aP->aE w8 w' (λy=>y=p5)->RR (.tuple #[.slice none 0 0,BF,.int .i64 e]) w':=λh x8 x9=>
  herr _ _ (by rw[hE,h]) (((x7.mono λ_ _ h=> .inl h).seq (x8.mono λ_ _ h=>h.elim)).seq (x9.mono λ_ _ h=> .inr h))
 have lz:∀{w':a7B},aE w7 w' aP->(cK 60 (.pointer (some ⟨pn,0,none⟩))).run pg w'= .ok (.value BF) w':=λx=>by
  have:=cA (off:=0) (on7.ext x (λh=>h)) (by simp[z6]);simp only[z6,a1F,a1C,a1G]at this;exact this
 refine Td ?_ ?_
 .simp (disch:=omega)only[SV,d1,cm,l2,a1H];refine(aEN (λ_=>by omega) ((hTo.ext (aE.dr _ aP)) k hk3) (a4G _) (hO6 k hk3)).mono ?_;rintro r w8 ⟨hR,x8⟩;have x78:aE w7 w8 aP:=(aE.dr _ _).seq x8;have z8:=x78.size;cases hE':cZ (k:Int) ((mk2 m k:Nat):Int) (aM x') (o k)with
  |error e=>
   rw[hE']at hR hS;have ne:=UE hE';have n1:(e !=0)=true:=by simpa using ne
   unfold RtR at hR;subst hR;simp(disch:=omega)only[SV];refine cL λw9 o9 x9 s9=> ?_;refine bN o9 rfl (by simp[one]) (by simp) λw10 o10 x10 s10=> ?_;unfold tO;have x710:aE w7 w10 aP:=x78.seq (x9.new x10 (a1J _));have lz':=lz (x710.seq (aE.dr _ _));simp(disch:=omega)only[SV,n1,lz'];exact atD (aH (o57.ext x710 (λh=>h))) rfl λw' x _=>err7 hS (x710.seq (aE.dr _ _)) x
  |ok yu=>
   obtain⟨T,u⟩:=yu;rw[hE']at hR hS;have hu:=Wq hE';unfold RtR at hR;obtain⟨t,rfl,hV⟩:=hR;obtain⟨ta,tc,rfl⟩:=hV.form;simp(disch:=omega)only[SV];refine cL λw9 o9 x9 s9=> ?_;refine bN o9 rfl (by simp[one]) (by simp) λw10 o10 x10 s10=> ?_;have o10:aT w10 w8.heap.size [.int .i64 T.1,.slice ta T.2.length tc]:=o10;have x810:aE w8 w10 aP:=x9.new x10 (a1J _);have x710:=x78.seq x810;have l10:=aX (off:=0) o10 (by simp);simp only[a1F,a1C,a1G]at l10;unfold tO;simp(disch:=omega)only[SV,n0,l10,a1H];have o8':=o8.ext x710 (λh=>h);refine bN o8' rfl (by simp[one]) (by simp[r6];omega) λw11 o11 x11 s11=> ?_;have o11:aT w11 pt (r6 (upT t' k T) (upA a' k ta) (upS c' k tc)):=by rw[<-aRC _ _ _ hk3];exact o11
   have hV11:RtV w11 0 T (tvR T ta tc):=(hV.ext x810 (λ_ _ _ h=>h)).own o8' o11 (λu x=>by simp[r6]) x11;have hT11:Rb3 w11 t' a' c':=(hT7.ext x710).own o8' o11 (λu x=>by simp[r6]) x11;have e3:((k:Int)+1)=((3-n:Nat):Int):=by omega
   have hul:u<=x'.size:=by omega
   have hext:aM (x'.extract u x'.size)=(aM x').drop u:=by rw[cX,a1T (by rw[a1L];omega)]
   unfold F1;simp(disch:=omega)only[SV,e3];exact⟨n,by omega,n,x'.extract u x'.size,_,_,_,rfl,by omega,rfl,by rw[<-aI (x'.extract u x'.size),hext,a1L];omega,o11,hT11.up hV11,by rw[hE,hS,hext],x7.seq ((x710.mono λ_ _ h=>h.elim).seq x11)⟩
 .simp (disch:=omega)only[SV,d1,cm,l2,a1H];refine cL λw9 o9 x9 s9=> ?_;have x79:aE w7 w9 aP:=(aE.dr _ aP).seq x9;have l9:=aX (off:=k*2) (o37.ext x79 (λh=>h)) (by simp[r6];omega);rw[aUs _ _ _ hk3]at l9;have cm9:=(om7.ext x79 (λh=>h)).cell (off:=k);rw[hcm]at cm9;simp(disch:=omega)only[SV,cm,cm9,l2,l9,a1H];refine(aEN (λ_=>by omega) ((hTo.ext x79) k hk3) (a4G _) (hO6 k hk3)).mono ?_;rintro r w8 ⟨hR,x8⟩;have x78:aE w7 w8 aP:=x79.seq x8;have hz7:(dr w7).heap.size=w7.heap.size:=rfl;have z8:=x78.size;have o9:=o9.ext x8 (λh=>h);cases hE':cZ (k:Int) ((mk2 m k:Nat):Int) (aM x') (o k)with
  |error e=>
   rw[hE']at hR hS;have ne:=UE hE';have n1:(e !=0)=true:=by simpa using ne
   unfold RtR at hR;subst hR;simp(disch:=omega)only[SV];refine bN o9 rfl (by simp[one]) (by simp) λw10 o10 x10 s10=> ?_;unfold tO;have x710:aE w7 w10 aP:=x78.new x10 (by omega);have lz':=lz (x710.seq (aE.dr _ _));simp(disch:=omega)only[SV,n1,lz'];exact atD (aH (o57.ext x710 (λh=>h))) rfl λw' x _=>err7 hS (x710.seq (aE.dr _ _)) x
  |ok yu=>
   obtain⟨T,u⟩:=yu;rw[hE']at hR hS;have hu:=Wq hE';unfold RtR at hR;obtain⟨t,rfl,hV⟩:=hR;obtain⟨ta,tc,rfl⟩:=hV.form;simp(disch:=omega)only[SV];refine bN o9 rfl (by simp[one]) (by simp) λw10 o10 x10 s10=> ?_;have o10:aT w10 (dr w7).heap.size [.int .i64 T.1,.slice ta T.2.length tc]:=o10;have hV10:RtV w10 0 T (tvR T ta tc):=hV.own o9 o10 (λu x=>by simp) x10;have x710:aE w7 w10 aP:=x78.new x10 (by omega);have l10:=aX (off:=0) o10 (by simp);simp only[a1F,a1C,a1G]at l10;unfold tO;simp(disch:=omega)only[SV,n0,l10,a1H];have o8':=o8.ext x710 (λh=>h);refine bN o8' rfl (by simp[one]) (by simp[r6];omega) λw11 o11 x11 s11=> ?_;have o11:aT w11 pt (r6 (upT t' k T) (upA a' k ta) (upS c' k tc)):=by rw[<-aRC _ _ _ hk3];exact o11
   have hV11:RtV w11 0 T (tvR T ta tc):=hV10.own o8' o11 (λu x=>by simp[r6]) x11;have hT11:Rb3 w11 t' a' c':=(hT7.ext x710).own o8' o11 (λu x=>by simp[r6]) x11;have e3:((k:Int)+1)=((3-n:Nat):Int):=by omega
   have hul:u<=x'.size:=by omega
   have hext:aM (x'.extract u x'.size)=(aM x').drop u:=by rw[cX,a1T (by rw[a1L];omega)]
   unfold F1;simp(disch:=omega)only[SV,e3];exact⟨n,by omega,n,x'.extract u x'.size,_,_,_,rfl,by omega,rfl,by rw[<-aI (x'.extract u x'.size),hext,a1L];omega,o11,hT11.up hV11,by rw[hE,hS,hext],x7.seq ((x710.mono λ_ _ h=>h.elim).seq x11)⟩
def aCI(w:a7B)(base:Nat)(x:Except Int (List Sq×(Nat->TT)))(r:a7C):Prop:=match x with
 | .error e=>r= .tuple #[.slice none 0 0,BF,.int .i64 e]
 | .ok (q,t)=>∃v a c,r= .tuple #[v,.agg (r6 t a c).toArray,.int .i64 0]/\mH w base 3 v q.length (sqs q)/\Rb3 w t a c
theorem aJQ{RR:K1}{p5 pn:Nat}{t:Nat->TT}(hn:n<=98047)(oF:aT w p5 z6)(on:aT w pn z6)(oT:aT w pt (r6 t a c))(hT:Rb3 w t a c)(hG:∀k,k<3->GK k (t k))(hx:x.size<=1000000)
 (h1:pt≠p5/\p5≠pn)
 (hk:∀w' r,aCI w' w.heap.size (I9 t n (aM x)) r->aE w w' (λy=>y=p5)->RR r w'):
 F0 RR (.pointer (some ⟨p5,0,none⟩)) (.pointer (some ⟨pn,0,none⟩)) (.int .u64 n) (.pointer (some ⟨pt,0,none⟩)) (.string x) w:=by
 have hll:=aI x;have err:∀{e:Int} {w':a7B},I9 t n (aM x)= .error e->aE w w' (λy=>y=p5)->RR (.tuple #[.slice none 0 0,BF,.int .i64 e]) w':=λh x=>by
  refine hk _ _ ?_ x;unfold aCI;rw[h]
 have hp5:=oF.lt;have hpt:=oT.lt;have lz:∀{w':a7B},aE w w' aP->(cK 60 (.pointer (some ⟨pn,0,none⟩))).run pg w'= .ok (.value BF) w':=λx=>by
  have:=cA (off:=0) (on.ext x (λh=>h)) (by simp[z6]);simp only[z6,a1F,a1C,a1G]at this;exact this
 have n0:((0:Int) !=0)=false:=rfl;unfold F0 acX;cases he:YM (aM x)with
 |none=>
  have hB:I9 t n (aM x)= .error 11:=by unfold I9;rw[he]
  have n1:((11:Int) !=0)=true:=rfl;refine(apE he (by omega)).mono ?_;rintro r w1 ⟨rfl,x1⟩;simp(disch:=omega)only[SV];refine bM λw2 o2 x2 s2=> ?_;refine aJ o2 rfl (by simp[one]) (by simp) λw3 o3 x3 s3=> ?_;have x03:aE w w3 aP:=x1.seq (x2.new x3 (a1J _));have lz':=lz (x03.seq (aE.dr _ _));simp(disch:=omega)only[SV,n1,lz'];exact atD (aH (oF.ext x03 (λh=>h))) rfl λw' x _=>err hB (((x03.seq (aE.dr _ _)).mono λ_ _ h=>h.elim).seq x)
 |some k=>
  obtain⟨hk0,hk1,hk2,_⟩:=Dw he;have hB:I9 t n (aM x)=if(runT t (aG (aM x)) n k).2<0 then .error 11 else if 0<(runT t (aG (aM x)) n k).2 then .error 15 else .ok ((runT t (aG (aM x)) n k).1,t):=by unfold I9;rw[he]
  refine(aAj he (by omega)).mono ?_;rintro r w1 ⟨b,hi,rfl,hhi,hR1,x1⟩;have hBl:=cJ (aM x);generalize aG (aM x)=B at*;have hR1:RBl w1 w.heap.size hi b B (k:Int):=by
   unfold RBl;rw[a1H,show(-(k:Int)).toNat=0 by omega];exact hR1
  obtain⟨ba,bc,rfl⟩:=hR1.form (by omega);simp(disch:=omega)only[SV];refine bM λw2 o2 x2 s2=> ?_;refine aJ o2 rfl (by simp[one]) (by simp) λw3 o3 x3 s3=> ?_;simp only[aF,a1E,a1D]at o3;obtain⟨pb,hpb⟩:∃pb,pb=w1.heap.size:=⟨_,rfl⟩;rw[<-hpb]at o3⊢;have z1:=x1.size;have xx3:aE w w3 aP:=x1.seq (x2.new x3 (a1J _));have hR3:=(hR1.ext x2 (λ_ _ _ h=>h)).ext x3 (λb _ hb=>by omega);have g0:=(hG 0 (by omega)).lg;have g1:=(hG 1 (by omega)).lg;have g2:=(hG 2 (by omega)).lg;have t1:(1:Int).toNat=1:=rfl;have t2:(2:Int).toNat=2:=rfl;have t0:(0:Int).toNat=0:=rfl;have oT3:=oT.ext xx3 (λh=>h);have l3:=aX (off:=0) oT3 (by simp[r6]);simp only[r6,a2H,a1F,a1C,a1G]at l3;have q3:=aQ (off:=0) o3 (by simp);simp only[a1F,a1C,a1G]at q3;simp(disch:=omega)only[SV,n0,t0,t1,t2,l3,q3];have y3:=xx3.size;have v3:=o3.lt;refine(azA hR3 (by omega) (by omega) (by omega) (by omega) (by omega)).mono ?_;rintro r u3 ⟨bb3,rfl,hRv3,xv3⟩;obtain⟨ba4,bc4,rfl⟩:=hRv3.form (by omega);simp(disch:=omega)only[SV];refine aJ (o3.ext xv3 (λh=>h)) rfl (by simp[one]) (by simp) λw4 o4 x4 s4=> ?_;simp only[aF,a1E,a1D]at o4;have hR4:=hRv3.ext x4 (λb _ _=>by omega);have xx4:aE w w4 aP:=(xx3.seq xv3).new x4 (by omega);have oT4:=oT.ext xx4 (λh=>h);have l4:=aX (off:=2) oT4 (by simp[r6]);simp only[r6,a2H,a1F,a1C,a1G]at l4;have q4:=aQ (off:=0) o4 (by simp);simp only[a1F,a1C,a1G]at q4;simp(disch:=omega)only[SV,n0,t0,t1,t2,l4,q4];have y4:=xx4.size;have v4:=o4.lt;refine(azA hR4 (by omega) (by omega) (by omega) (by omega) (by omega)).mono ?_;rintro r u4 ⟨bb4,rfl,hRv4,xv4⟩;obtain⟨ba5,bc5,rfl⟩:=hRv4.form (by omega);simp(disch:=omega)only[SV];refine aJ (o4.ext xv4 (λh=>h)) rfl (by simp[one]) (by simp) λw5 o5 x5 s5=> ?_;simp only[aF,a1E,a1D]at o5;have hR5:=hRv4.ext x5 (λb _ _=>by omega);have xx5:aE w w5 aP:=(xx4.seq xv4).new x5 (by omega);have oT5:=oT.ext xx5 (λh=>h);have l5:=aX (off:=4) oT5 (by simp[r6]);simp only[r6,a2H,a1F,a1C,a1G]at l5;have q5:=aQ (off:=0) o5 (by simp);simp only[a1F,a1C,a1G]at q5;simp(disch:=omega)only[SV,n0,t0,t1,t2,l5,q5];have y5:=xx5.size;have v5:=o5.lt;refine(azA hR5 (by omega) (by omega) (by omega) (by omega) (by omega)).mono ?_;rintro r u5 ⟨bb5,rfl,hRv5,xv5⟩;obtain⟨ba6,bc6,rfl⟩:=hRv5.form (by omega);simp(disch:=omega)only[SV];refine aJ (o5.ext xv5 (λh=>h)) rfl (by simp[one]) (by simp) λw6 o6 x6 s6=> ?_;simp only[aF,a1E,a1D]at o6;have hR6:=hRv5.ext x6 (λb _ _=>by omega);have xx6:aE w w6 aP:=(xx5.seq xv5).new x6 (by omega);obtain⟨gs1,gs2,gs3⟩:=aEW hG B (λ_=>0) (k:Int);have y6:=xx6.size;unfold SI SH alB wE;refine aOT (st:=(sts t B 3 (λ_=>0) (k:Int)).1) (left:=(sts t B 3 (λ_=>0) (k:Int)).2) (lo:=w.heap.size) (hi:=hi) (B:=B) hn (oT.ext xx6 (λh=>h)) (hT.ext xx6) ⟨_,_,o6,hR6⟩ (by omega) (by omega) gs1 (by omega) (by omega) (by omega) λw7 out os7 hB7 oT7 hT7 x7=> ?_;have x07:aE w w7 aP:=xx6.new x7 (by omega);obtain⟨_,_,hlen⟩:=aES (B:=B) (n:=n) (left:=(sts t B 3 (λ_=>0) (k:Int)).2) gs1;obtain⟨hb1,hb2,_⟩:=aES (B:=B) (n:=n) (left:=(sts t B 3 (λ_=>0) (k:Int)).2) gs1;rw[<-aEQ]at os7 hB7 hlen hb1 hb2;generalize hq:runT t B n k=q at*;obtain⟨ca,cc,o7,hR7⟩:=hB7;have l7:=aQ (off:=0) o7 (by simp);simp only[a1F,a1C,a1G]at l7;unfold SG;simp(disch:=omega)only[SV,l7];refine(aRJ hR7 (by omega) (by omega) (by omega)).mono ?_;rintro r w8 ⟨rfl,x8⟩;have x08:=x07.seq x8;have lz':=lz (x08.seq (aE.dr _ _));have o58:=oF.ext x08 (λh=>h);by_cases hneg:q.2<0
  .have d1:decide (q.2<0)=true:=by simpa using hneg
   rw[if_pos hneg]at hB;simp(disch:=omega)only[SV,d1,lz'];exact atD (aH o58) rfl λw' x _=>err hB (((x08.seq (aE.dr _ _)).mono λ_ _ h=>h.elim).seq x)
  .have d1:decide (q.2<0)=false:=by simpa using hneg
   rw[if_neg hneg]at hB;by_cases hps:0<q.2
   .have d2:decide (0<q.2)=true:=by simpa using hps
    rw[if_pos hps]at hB;simp(disch:=omega)only[SV,d1,d2,lz'];exact atD (aH o58) rfl λw' x _=>err hB (((x08.seq (aE.dr _ _)).mono λ_ _ h=>h.elim).seq x)
   .have d2:decide (0<q.2)=false:=by simpa using hps
    rw[if_neg hps]at hB;have oT8:=aH (oT7.ext x8 (λh=>h));have l9:=cA (off:=0) oT8 (by simp[r6]);simp only[r6,a1F,a1C,a1G]at l9;simp(disch:=omega)only[SV,d1,d2,l9];refine atD (aH o58) rfl λw' x o9=> ?_;have xd:aE w8 w' (λy=>y=p5):=(aE.dr _ _).seq x;refine hk _ _ ?_ ((x08.mono λ_ _ h=>h.elim).seq xd);unfold aCI;rw[hB];refine⟨out,a,c,rfl, ?_,((hT7.ext x8)).own o58 o9 (λu x=>by simp[z6]) xd⟩;rw[hlen];exact((os7.ext x8 (λ_ _ h=>h)).ext xd (λb hb h=>by omega)).lower (by omega)
theorem aRB{pr:Nat}{e:Int}{c cr:List a7C}(o:aT w p c)(hc:c.length=6)(r:aT w pr cr)(hr:cr[1]?=some (.int .i64 e))(hne:pr≠p)
 (hR:∀w',aE w w' (λy=>y=p)->RR (.tuple #[.slice none 0 0,BF,.int .i64 e]) w'):
 bF pg (dL 60 (.pointer (some ⟨p,0,none⟩)) BF) w λ_u w'=>ldC (w'.cell? ⟨pr,1,none⟩) w' (far pg 24 ⟨pr,1,none⟩ w')=Result.ok (Next.value (.int .i64 e)) w'/\
  LdR pg 60 (.pointer (some ⟨p,0,none⟩)) w' λr1=>RR (.tuple #[.slice none 0 0,r1,.int .i64 e]) w':=by
 match c,hc with
 |[c0,c1,c2,c3,c4,c5],_=>
  unfold BF;refine dN o rfl (by simp[one]) (by simp) λw6 o6 x6 s6=> ?_;have q:=(r.ext x6 hne).cell (off:=1);rw[hr]at q;refine⟨by rw[q]<;>rfl, ?_⟩;refine A3 o6 (by simp[aF]) ?_;simp only[aF,a1E,a1D,a1F,a1C,a1G];exact hR _ x6
theorem awE(hl:x.size<=1000000)(hT:Rb3 w o a c)(hO:aCG o):
 aL pg Vg #[.string x,.agg (r6 o a c).toArray] w (λr w'=>aCI w' w.heap.size (sK (aM x) o) r/\aE w w' aP):=by
 refine aCh ?_;obtain⟨RR,hRR⟩:∃RR:a7C->a7B->Prop,RR=λr w'=>aCI w' w.heap.size (sK (aM x) o) r/\aE w w' aP:=⟨_,rfl⟩;rw[<-hRR];have hll:=aI x;have err:∀{e:Int} {w':a7B},sK (aM x) o= .error e->aE w w' aP->RR (.tuple #[.slice none 0 0,BF,.int .i64 e]) w':=λh x=>by
  rw[hRR];unfold aCI;rw[h];exact⟨rfl,x⟩
 unfold aEB adD adC;refine bY λw1 o1 x1 s1=> ?_;have o1:aT w1 w.heap.size (r6 o a c):=o1;refine fD λw2 o2 x2 s2=> ?_;refine fD λw3 o3 x3 s3=> ?_;have o1:=(o1.ext x2 (λh=>h)).ext x3 (λh=>h);have o2:aT w3 w1.heap.size z6:=o2.ext x3 (λh=>h);have o3:aT w3 w2.heap.size z6:=o3;have x03:=(x1.seq x2).seq x3;have z1:=x1.size;obtain⟨p3,hp3⟩:∃p3,p3=w.heap.size:=⟨_,rfl⟩;obtain⟨p5,hp5⟩:∃p5,p5=w1.heap.size:=⟨_,rfl⟩;obtain⟨pn,hpn⟩:∃pn,pn=w2.heap.size:=⟨_,rfl⟩;rw[<-hp3]at o1⊢;rw[<-hp5]at o2⊢;rw[<-hpn]at o3⊢;have z3:=x3.size;have lz:∀{w':a7B},aE w3 w' aP->(cK 60 (.pointer (some ⟨pn,0,none⟩))).run pg w'= .ok (.value BF) w':=λx=>by
  have:=cA (off:=0) (o3.ext x (λh=>h)) (by simp[z6]);simp only[z6,a1F,a1C,a1G]at this;exact this
 have fin:∀{w5 w':a7B},aE w3 w5 aP->aE w5 w' (λy=>y=p5)->aE w w' aP:=λh x=>(x03.seq h).new x (by omega);simp(disch:=omega)only[SV];refine(aEM (x:=x)).mono ?_;rintro r w4 ⟨hN,x4⟩;unfold aFd at hN;cases hn:ayX (aM x)with
 |error e=>
  rw[hn]at hN;obtain⟨he,n,x',rfl⟩:=hN;have hR:sK (aM x) o= .error e:=by unfold sK;rw[hn]
  have n1:(e !=0)=true:=by simpa using he
  simp(disch:=omega)only[SV];refine bD λw5 o5 x5 s5=> ?_;refine aS o5 rfl (by simp[one]) (by simp) λw6 o6 x6 s6=> ?_;simp only[aF,a1E,a1D]at o6;have c6':=o6.cell (off:=1);have c6d:=(aH o6).cell (off:=1);simp only[a1A,a1B]at c6' c6d;have x36:aE w3 w6 aP:=x4.seq (x5.new x6 (a1J _));have lz':=lz (x36.seq (aE.dr _ _));simp(disch:=omega)only[SV,c6',c6d,n1,lz'];exact aRB (aH (o2.ext x36 (λh=>h))) rfl (aH o6) rfl (by have:=x4.size;omega) λw' x=>err hR (fin (x36.seq (aE.dr _ _)) x)
 |ok y=>
  obtain⟨n,l'⟩:=y;rw[hn]at hN;obtain⟨x',rfl,hx'⟩:=hN;obtain⟨hn1,hl'⟩:=aHv hn;have hR:sK (aM x) o=if n=0 then(if l'=[]then .ok ([],o)else .error 15)else aKz o n l':=by unfold sK;rw[hn]
  have n0:((0:Int) !=0)=false:=rfl;have hlx':=aI x';simp(disch:=omega)only[SV];refine bD λw5 o5 x5 s5=> ?_;refine aS o5 rfl (by simp[one]) (by simp) λw6 o6 x6 s6=> ?_;simp only[aF,a1E,a1D]at o6;obtain⟨pr,hpr⟩:∃pr,pr=w4.heap.size:=⟨_,rfl⟩;rw[<-hpr]at o6⊢;have y4:=x4.size;have x36:aE w3 w6 aP:=x4.seq (x5.new x6 (a1J _));have o16:=o1.ext x36 (λh=>h);have o26:=o2.ext x36 (λh=>h);have q0:=o6.cell (off:=0);have q1:=o6.cell (off:=1);simp only[a1A,a1B]at q0 q1;by_cases hn0:n=0
  .subst hn0;rw[if_pos rfl]at hR;have n2:(((0:Nat):Int)==0)=true:=rfl;by_cases hl0:l'=[]
   .rw [if_pos hl0]at hR;have d1:decide (0<(x'.size:Int))=false:=by rw[<-hlx',hx',hl0]<;>rfl
    have l1:=cA (off:=0) (aH o16) (by simp[r6]);simp only[r6,a1F,a1C,a1G]at l1;simp(disch:=omega)only[SV,q0,q1,n0,n2,d1,l1];refine atD (aH o26) rfl λw' x _=> ?_;rw[hRR];unfold aCI;rw[hR];have x':=fin (x36.seq (aE.dr _ _)) x;exact⟨⟨_,a,c,rfl,mH.nil _ _ _,hT.ext x'⟩,x'⟩
   .rw [if_neg hl0]at hR;have hpos:=a5G.2 hl0;have d1:decide (0<(x'.size:Int))=true:=by rw[<-hlx',hx'];simp;exact hpos
    have lz':=lz (x36.seq (aE.dr _ _));simp(disch:=omega)only[SV,q0,q1,n0,n2,d1,lz'];exact atD (aH o26) rfl λw' x _=>err hR (fin (x36.seq (aE.dr _ _)) x)
  rw[if_neg hn0]at hR;have n2:((n:Int)==0)=false:=by simp;exact hn0
  have l6:=aV (off:=0) o6 (by simp);simp only[a1F,a1C,a1G]at l6;simp(disch:=omega)only[SV,q1,n0,n2,l6];refine(jQ (n:=1) (by omega)).mono ?_;rintro r w7 ⟨x2',rfl,hx2,x7⟩;have x37:=x36.seq x7;rw[hx']at hx2⊢;simp(disch:=omega)only[SV];refine aS (o6.ext x7 (λh=>h)) rfl (by simp[one]) (by simp) λw8 o8 x8 s8=> ?_;simp only[aF,a1E,a1D]at o8;have y7:=x7.size;have x38:aE w3 w8 aP:=x37.new x8 (by omega);have o18:=o1.ext x38 (λh=>h);have o28:=o2.ext x38 (λh=>h);have tkn:=apM 1 (a1J 1);have u0:=o8.cell (off:=0);have u1:=o8.cell (off:=1);have u1d:=(aH o8).cell (off:=1);simp only[a1A,a1B]at u0 u1 u1d;rw[Ws]at hR;cases l' with
  |nil=>
   simp only[tkn]at hx2 u0 u1 u1d o8;have n1:((10:Int) !=0)=true:=rfl;have lz':=lz (x38.seq (aE.dr _ _));simp(disch:=omega)only[SV,u1,u1d,n1,lz'];exact aRB (aH o28) rfl (aH o8) rfl (by omega) λw' x=>err hR (fin (x38.seq (aE.dr _ _)) x)
  |cons m r=>
   simp only[aAw]at hx2 u0 u1 u1d o8⊢;have hm8:m.toNat<256:=a2D m;have hm1:cG [m]=m.toNat:=by simp[cG]
   have hH:QK o (m::r)=if m.toNat%4≠0 then .error 11 else Ml m.toNat o 3 o r:=rfl
   rw[hm1];generalize m.toNat=y at*;have et:(y:Int).tmod 4=((y%4:Nat):Int):=rfl;by_cases h4:y%4≠0
   .have n1:(((y%4:Nat):Int) !=0)=true:=by simp;omega
    rw[if_pos h4]at hH;rw[hH]at hR;have lz':=lz (x38.seq (aE.dr _ _));simp(disch:=omega)only[SV,u1,n0,n1,et,lz'];exact atD (aH o28) rfl λw' x _=>err hR (fin (x38.seq (aE.dr _ _)) x)
   .have n1:(((y%4:Nat):Int) !=0)=false:=by simp;omega
    rw[if_neg h4]at hH;rw[hH]at hR;have d64:(y:Int).tdiv 64=((y/64:Nat):Int):=rfl;have d16:(y:Int).tdiv 16=((y/16:Nat):Int):=rfl;have d4:(y:Int).tdiv 4=((y/4:Nat):Int):=rfl;have r16:((y/16:Nat):Int).tmod 4=((y/16%4:Nat):Int):=rfl;have r4:((y/4:Nat):Int).tmod 4=((y/4%4:Nat):Int):=rfl;have m0:y/64=mk2 y 0:=by unfold mk2;simp;omega
    have m1:y/16%4=mk2 y 1:=rfl;have m2:y/4%4=mk2 y 2:=rfl;have f0:=aDW y 0;have f1:=aDW y 1;have f2:=aDW y 2;have g16:IntKind.u64.wrap ((y/16:Nat):Int)=((y/16:Nat):Int):=eL (by omega) (by omega);have g4:IntKind.u64.wrap ((y/4:Nat):Int)=((y/4:Nat):Int):=eL (by omega) (by omega);rw[m0]at d64;rw[m1]at r16;rw[m2]at r4;have l8:=cA (off:=0) o18 (by simp[r6]);simp only[r6,a1F,a1C,a1G]at l8;have h64:IntKind.u64.wrap ((mk2 y 0:Nat):Int)=((mk2 y 0:Nat):Int):=eL (by omega) (by omega);have h640:IntKind.i64.wrap ((mk2 y 0:Nat):Int)=((mk2 y 0:Nat):Int):=dM (by omega) (by omega);have h641:IntKind.i64.wrap ((mk2 y 1:Nat):Int)=((mk2 y 1:Nat):Int):=dM (by omega) (by omega);have h642:IntKind.i64.wrap ((mk2 y 2:Nat):Int)=((mk2 y 2:Nat):Int):=dM (by omega) (by omega);simp(disch:=omega)only[SV,u1,n0,n1,et,d64,d16,d4,r16,r4,g16,g4,h64,h640,h641,h642];refine pD (cells:= #[.int .i64 (mk2 y 0:Nat),.int .i64 (mk2 y 1:Nat),.int .i64 (mk2 y 2:Nat)]) (by decide) (by decide) (by kernel_rfl) λw9 o9 x9 s9=> ?_;have o9:aT w9 w8.heap.size [.int .i64 (mk2 y 0:Nat),.int .i64 (mk2 y 1:Nat),.int .i64 (mk2 y 2:Nat)]:=o9;have y8:=x8.size;have o19:=o18.ext x9 (λh=>h);have l9:=cA (off:=0) o19 (by simp[r6]);simp only[r6,a1F,a1C,a1G]at l9;simp(disch:=omega)only[SV,l9];refine fD λw10 o10 x10 s10=> ?_;refine dN o10 rfl (by simp[one]) (by simp) λw11 o11 x11 s11=> ?_;have o11:aT w11 w9.heap.size (r6 o a c):=o11;have y9:=x9.size;have x911:aE w9 w11 aP:=x10.new x11 (a1J _);have x811:=x9.seq x911;have x311:=x38.seq x811;have v0:=(o8.ext x811 (λh=>h)).cell (off:=0);simp only[a1A,a1B]at v0;simp(disch:=omega)only[SV,v0];unfold Pa O9 adB tP;have hO6:∀k,k<3->(o k).2.length<=1000000:=λk hk=>by
     rcases a3J (o k).2.length with h|h
     .omega
     .have:=hO k hk (a5G.1 h);rw[this.len];have:2^(o k).1<=2^9:=a1K (by omega) this.lg;omega
    have hx2s:x2'.size<=1000000:=by
     have:=aI x2';rw[hx2]at this;have:(m::r).length<=(aM x).length:=hl';simp at this;omega
    refine aO2 (m:=y) (o:=o) (a:=a) (c:=c) (mc:=3) hm8 (o18.ext x811 (λh=>h)) (o28.ext x811 (λh=>h)) (o3.ext x311 (λh=>h)) (o9.ext x911 (λh=>h)) o11 ((hT.ext x03).ext x311) hO6 hx2s ⟨by omega,by omega,by omega,by omega⟩ (by omega) ?_ ?_
    .intro w12 t a2 c2 x3 ht oT12 hT12 x12;rw[hx2]at ht;rw[ht]at hR;have hR:sK (aM x) o=I9 t n (aM x3):=hR;obtain⟨hG,hl2⟩:=amV (l:=m::r) hO (by rw[hH];exact ht);have x312:aE w3 w12 aP:=x311.new x12 (by have:=x38.size;omega);have hx3s:x3.size<=1000000:=by
      have:=aI x3;have:(m::r).length<=(aM x).length:=hl';omega
     refine aJQ hn1 (o2.ext x312 (λh=>h)) (o3.ext x312 (λh=>h)) oT12 hT12 hG hx3s ⟨by have:=x38.size;omega,by omega⟩ λw' r' hr x13=> ?_;have x':=fin x312 x13;rw[hRR];refine⟨?_,x'⟩;rw[hR];cases hb:I9 t n (aM x3)with
     |error e=>rw[hb]at hr;exact hr
     |ok z=>
      rw[hb]at hr;obtain⟨v,a3,c3,e1,e2,e3⟩:=hr;exact⟨v,a3,c3,e1,e2.lower (by have:=(x03.seq x312).size;omega),e3⟩
    .intro w' e he x12;rw[hx2]at he;rw[he]at hR;refine err hR ?_;exact(x03.seq x311).trans x12 λb hb h=>by have:=x38.size;omega
end Go.Proofs.YthohephggmkeeaaGreatDoor
namespace Go.Pu
variable{d s w:Nat}{l:List Nat}
def H9 (w:Nat):Nat:=if w=0 then 0 else 2^(w-1)
def bB(l:List Nat):Nat:=(l.map H9).sum
def jR(d:Nat)(l:List Nat):Bool:=l.all λw=>decide (w<=d)
def gO(l:List Nat):Nat:=
 if jR 11 l=true/\2<=l.length/\l.length<=256/\l.getLast?≠some 0/\2^(bB l).log2=bB l/\(bB l).log2<=11/\jR (bB l).log2 l=true then(bB l).log2 else 0
theorem IZ(a b:List Nat):bB (a++b)=bB a+bB b:=by simp[bB]
theorem iD(w:Nat)(l:List Nat):bB (w::l)=H9 w+bB l:=by simp[bB]
theorem aH1 (h:w<=11):H9 w<=1024:=by
 unfold H9;split
 .omega
 .have:2^(w-1)<=2^10:=a1K (by omega) (by omega);omega
theorem Ik:∀{l:List Nat},(∀w∈l,w<=11)->bB l<=1024*l.length
 |[],_=>by simp[bB]
 |w::l,h=>by
  have h1:=aH1 (h w (a5L ..));have h2:=Ik λx hx=>h x (a2E _ hx);rw[iD,a1U];omega
theorem awV:∀{l:List Nat},w∈l->H9 w<=bB l
 |[],h=>by cases h
 |x::l,h=>by
  rw[iD];rcases a3C.1 h with rfl|h
  .omega
  .have:=awV h;omega
theorem lF:jR d l=true↔∀w∈l,w<=d:=by simp[jR]
theorem aIE:∀(s:Nat),0<s->((s&&&(s-1)=0)↔2^s.log2=s):=by
 intro s
 induction s using Nat.strongRecOn with
 |ind s ih=>
  intro h;by_cases h1:s=1
  .subst h1;decide
  .have hl:s.log2=(s/2).log2+1:=by
    rw[Nat.log2_def,if_pos (by omega)]
   have hd:(s&&&(s-1))/2=s/2&&&(s-1)/2:=Nat.and_div_two;have hm:(s&&&(s-1))%2=0:=by
    rcases a4Y (s&&&(s-1))with h'|h'
    .exact h'
    .rw [Nat.and_mod_two_eq_one]at h';omega
   rw[hl,a2O];rcases a4Y s with h2|h2
   .have he:(s-1)/2=s/2-1:=by omega
    rw[he]at hd;have:=ih (s/2) (by omega) (by omega);constructor
    .intro h0;rw[h0]at hd;have:=this.1 (by omega);omega
    .intro h0;have:=this.2 (by omega);omega
   .have he:(s-1)/2=s/2:=by omega
    rw[he,Nat.and_self]at hd;constructor
    .intro h0;omega
    .intro h0;omega
theorem Mo(h:gO l=d)(hd:d≠0):(∀w∈l,w<=d)/\d<=11/\2<=l.length/\l.length<=256/\l.getLast?≠some 0/\bB l=2^d:=by
 unfold gO at h;split at h
 .rename_i hh;obtain⟨h1,h2,h3,h4,h5,h6,h7⟩:=hh;subst h;exact⟨lF.1 h7,h6,h2,h3,h4,h5.symm⟩
 .exact absurd h.symm hd
theorem aOl(h1:∀w∈l,w<=d)(h2:d<=11)(h3:2<=l.length)(h4:l.length<=256)(h5:l.getLast?≠some 0)(h6:bB l=2^d):gO l=d:=by
 unfold gO;have hl:(bB l).log2=d:=by rw[h6,a6S]
 rw[hl,if_pos ⟨lF.2 λw hw=>a3K (h1 w hw) h2,h3,h4,h5,h6.symm,h2,lF.2 h1⟩]
def tL(l:List Nat)(w:Nat):Nat:=bB (l.filter λx=>decide (x<w))
def M1 (l:List Nat)(s:Nat):Nat:=tL l (l.getD s 0)+(l.take s).count (l.getD s 0)*2^(l.getD s 0-1)
def Ey(l:List Nat)(d s:Nat):Nat×Nat:=if l.getD s 0=0 then(0,0)else(d+1-l.getD s 0,M1 l s/2^(l.getD s 0-1))
theorem QQ(l:List Nat)(w:Nat)(hw:1<=w):tL l (w+1)=tL l w+l.count w*2^(w-1):=by
 unfold tL
 induction l with
 |nil=>simp[bB]
 |cons x l ih=>
  rw[a4V,a5S,a5S];by_cases h1:x<w
  .rw [if_pos (by simp;omega),if_pos (by simp;omega),iD,iD,ih];have:(x==w)=false:=by simp;omega
   rw[this];simp;omega
  .by_cases h2:x=w
   .subst h2;rw[if_pos (by simp),if_neg (by simp),iD,ih];have:H9 x=2^(x-1):=by unfold H9;rw[if_neg (by omega)]
    rw[this];simp[a3D];omega
   .rw [if_neg (by simp;omega),if_neg (by simp;omega),ih];have:(x==w)=false:=by simpa using h2
    rw[this];simp
theorem aDT(l:List Nat):tL l 1=0:=by
 unfold tL
 induction l with
 |nil=>rfl
 |cons x l ih=>
  rw[a5S];split
  .rename_i h;have:x=0:=by simp at h;omega
   subst this;rw[iD,ih]<;>rfl
  .exact ih
theorem anG(h:∀w∈l,w<=d):tL l (d+1)=bB l:=by
 unfold tL;rw[List.filter_eq_self.2 λa ha=>by have:=h a ha;simp;omega]
theorem aDS(hs:bB l=2^d)(hw:w<=d+1)(h1:1<=w):2^(w-1)∣tL l w:=by
 have hsplit:∀l:List Nat,bB l=tL l w+bB (l.filter λx=>decide (w<=x)):=by
  intro l;unfold tL
  induction l with
  |nil=>rfl
  |cons x l ih=>
   rw[a5S,a5S,iD,ih];by_cases h:x<w
   .rw [if_pos (by simpa using h),if_neg (by simp;omega),iD];omega
   .rw [if_neg (by simpa using h),if_pos (by simp;omega),iD];omega
 have hhigh:2^(w-1)∣bB (l.filter λx=>decide (w<=x)):=by
  generalize hL:l.filter (λx=>decide (w<=x))=L;have hge:∀x∈L,w<=x:=λx hx=>by rw[<-hL]at hx;simpa using(a6K.1 hx).2
  clear hL
  induction L with
  |nil=>exact Nat.dvd_zero _
  |cons x L ih=>
   rw[iD];refine Nat.dvd_add ?_ (ih λy hy=>hge y (a2E _ hy));have:=hge x (a5L ..);unfold H9;rw[if_neg (by omega)];exact Nat.pow_dvd_pow 2 (by omega)
 have htot:2^(w-1)∣bB l:=by rw[hs];exact Nat.pow_dvd_pow 2 (by omega)
 rw[hsplit l]at htot;exact(Nat.dvd_add_left hhigh).1 htot
def sJ(l:List Nat):Option Nat:=
 if jR 11 l=true/\1<=l.length/\l.length<=255/\0<bB l/\bl (bB l)<=11/\2^(2^bl (bB l)-bB l).log2=2^bl (bB l)-bB l
 then some ((2^bl (bB l)-bB l).log2+1)else none
theorem aH2 {k:Nat}(h:sJ l=some k):gO (l++[k])=bl (bB l)/\1<=bl (bB l)/\1<=k/\k<=11/\l.length<=255/\1<=l.length/\∀x,gO (l++[x])=bl (bB l)->x=k:=by
 unfold sJ at h;split at h
 .rename_i hh;obtain⟨h1,h2,h3,h4,h5,h6⟩:=hh;have hk:=a1Z h;have hlt:=Zz (bB l);have hle:=ahM (k:=bB l) (by omega);have hb1:=M9 (k:=bB l) (by omega);generalize hD:bl (bB l)=D at*;generalize hlog:(2^D-bB l).log2=k0 at*;have hW:bB (l++[k])=2^D:=by
   rw[IZ,iD,<-hk];have:H9 (k0+1)=2^k0:=by unfold H9;rw[if_neg (by omega),a3X]
   rw[this,h6];have:bB []=0:=rfl;rw[this];omega
  have hp2:2^D=2*2^(D-1):=by
   obtain⟨E,rfl⟩:∃E,D=E+1:=⟨D-1,by omega⟩;rw[a3X,a2O,a2N]
  have hk0:k0<=D-1:=by
   rcases a1Y (D-1) k0 with hq|hq
   .have:=a6Z (a:=2) (by omega) hq;omega
   .exact hq
  have hall:∀w∈l++[k],w<=D:=by
   intro w hw;rcases a2X.1 hw with hw|hw
   .have h7:=awV hw;rcases a1Y D w with hq|hq
    .exfalso;unfold H9 at h7;rw[if_neg (by omega)]at h7;have:=a1K (n:=2) (by omega) (show D<=w-1 by omega);omega
    .exact hq
   .rw [a3W.1 hw];omega
  refine⟨aOl hall h5 (by simp;omega) (by simp;omega) (by rw[a6X];intro e;have:=a1Z e;omega) hW,hb1,by omega,by omega,h3,h2,λx hx=> ?_⟩;obtain⟨q1,q2,q3,q4,q5,q6⟩:=Mo hx (by omega);rw[IZ,iD]at q6;have e0:bB []=0:=rfl;rw[a6X]at q5;have hx0:x≠0:=λe=>q5 (by rw[e]);have hwx:H9 x=2^(x-1):=by unfold H9;rw[if_neg hx0]
  rw[hwx,e0]at q6;have:2^(x-1)=2^k0:=by omega
  have:=congrArg Nat.log2 this;rw[a6S,a6S]at this;omega
 .cases h
theorem rK(h:s<l.length):l.getD s 0∈l:=by
 rw[a1P,a1I h];exact a2P h
theorem aQz(h:s<l.length):(l.take s).count (l.getD s 0)+1<=l.count (l.getD s 0):=by
 have hg:l.getD s 0=l[s]:=by rw[a1P,a1I h]<;>rfl
 have e:l=l.take s++l[s]::l.drop (s+1):=by rw[<-a2J h,a6U]
 rw[hg];have:l.count l[s]=(l.take s++l[s]::l.drop (s+1)).count l[s]:=by rw[<-e]
 rw[this,a4U,a4V];simp
theorem aaH{a b:Nat}(h1:1<=a)(h:a<=b):tL l a<=tL l b:=by
 obtain⟨c,rfl⟩:=Nat.exists_eq_add_of_le h
 induction c with
 |zero=>exact a1J _
 |succ c ih=>
  have:=QQ l (a+c) (by omega);rw[<-a4E];have:=ih (by omega);omega
theorem aQk(h:s<l.length)(h0:l.getD s 0≠0):M1 l s+2^(l.getD s 0-1)<=tL l (l.getD s 0+1):=by
 have h1:=aQz h;rw[QQ l _ (by omega)];unfold M1;have:=a2V (2^(l.getD s 0-1)) h1;rw[a3D]at this;omega
theorem aKS(h:s<l.length)(h0:l.getD s 0≠0)(hs:bB l=2^d)(hd:l.getD s 0<=d):2^(l.getD s 0-1)∣M1 l s:=
 Nat.dvd_add (aDS hs (by omega) (by omega)) (Nat.dvd_mul_left _ _)
theorem aOc(h:s<l.length)(h0:l.getD s 0≠0)(hs:bB l=2^d)(hall:∀w∈l,w<=d):M1 l s/2^(l.getD s 0-1)<2^(d+1-l.getD s 0):=by
 have hd:=hall _ (rK h);have h1:=aQk h h0;have h2:=aaH (l:=l) (a:=l.getD s 0+1) (b:=d+1) (by omega) (by omega);rw[anG hall,hs]at h2;rw[a5O (a2G _),<-a4A,show d+1-l.getD s 0+(l.getD s 0-1)=d from by omega];have:=a2G (l.getD s 0-1);omega
theorem aFT{t:Nat}(hsl:s<l.length)(htl:t<l.length)(hst:s≠t)(hs0:l.getD s 0≠0)(ht0:l.getD t 0≠0)(hw:l.getD t 0<=l.getD s 0)(hs:bB l=2^d)(hall:∀w∈l,w<=d):
 M1 l t/2^(l.getD t 0-1)/2^(l.getD s 0-l.getD t 0)≠M1 l s/2^(l.getD s 0-1):=by
 rw[a5I,<-a4A,show l.getD t 0-1+(l.getD s 0-l.getD t 0)=l.getD s 0-1 from by omega];have hp:=a2G (l.getD s 0-1);obtain⟨q,hq⟩:=aKS hsl hs0 hs (hall _ (rK hsl));rw[hq,a5W _ hp];rcases a1Y (l.getD t 0) (l.getD s 0)with hlt|hge
 .have h1:=aQk htl ht0;have h2:=aaH (l:=l) (a:=l.getD t 0+1) (b:=l.getD s 0) (by omega) (by omega);have h3:tL l (l.getD s 0)<=M1 l s:=Nat.le_add_right _ _;have hp2:=a2G (l.getD t 0-1);have:M1 l t/2^(l.getD s 0-1)<q:=by
   rw[a5O hp,a2N];omega
  omega
 .have he:l.getD t 0=l.getD s 0:=by omega
  have hne:(l.take t).count (l.getD t 0)≠(l.take s).count (l.getD s 0):=by
   have key:∀{a b:Nat},a<b->b<l.length->l.getD a 0=l.getD b 0->(l.take a).count (l.getD a 0)<(l.take b).count (l.getD b 0):=by
    intro a b hab hb hab2;have h1:=aQz (l:=l.take b) (s:=a) (by rw[a1N];omega);have h2:(l.take b).getD a 0=l.getD a 0:=by
     rw[a1P,a1P,a2L hab]
    rw[h2,a5R,a2T (by omega)]at h1;rw[<-hab2];omega
   rcases Nat.lt_or_gt_of_ne hst with h|h
   .have:=key h htl he.symm;omega
   .have:=key h hsl he;omega
  intro h;apply hne;unfold M1 at hq h;rw[he]at h⊢;obtain⟨r,hr⟩:=aDS hs (by have:=hall _ (rK hsl);omega) (by omega:1<=l.getD s 0);rw[hr]at hq h;generalize 2^(l.getD s 0-1)=p at*;generalize(l.take t).count (l.getD s 0)=x at*;generalize(l.take s).count (l.getD s 0)=y at*;rw[a2N x p,<-a6Q,a5W _ hp]at h;rw[a2N y p,<-a6Q]at hq;have:=Nat.eq_of_mul_eq_mul_left hp hq;omega
end Go.Pu
namespace Go.Proofs.YthohephggmkeeaaGreatDoor
open Go Go.En Go.Pu
set_option maxRecDepth 4000
variable{i:Nat}{l:List UInt8}{v:a7C}{w:a7B}
abbrev bL(l:List UInt8):List Nat:=l.map (·.toNat)
theorem uA(l:List UInt8):(bL l).length=l.length:=by simp
theorem aJw(h:i<l.length):(bL l)[i]?=some (l[i].toNat):=by rw[a2F,a1I h]<;>rfl
theorem afS(h:i<l.length):bL (l.take (i+1))=bL (l.take i)++[l[i].toNat]:=by
 unfold bL;rw[a3F,a1I h,a2I]<;>rfl
theorem aOx(h:0<l.length):(bL l).getLast?=some 0↔l[l.length-1].toNat=0:=by
 rw[a5Q,uA,aJw (by omega)];simp
theorem QS(l:List UInt8):∀w∈bL l,w<256:=λw hw=>by
 obtain⟨x,_,rfl⟩:=a4J.1 hw;exact a2D x
theorem aCX{d:Nat}{l:List Nat}{x:Nat}:jR d (l++[x])=(jR d l&&decide (x<=d)):=by
 unfold jR;rw[List.all_append];simp
theorem aCY{d:Nat}{l:List Nat}(h:jR d (l.take i)=false):jR d l=false:=by
 cases hq:jR d l with
 |false=>rfl
 |true=>
  rw[lF]at hq;have:jR d (l.take i)=true:=lF.2 λw hw=>hq w (a6I hw);rw[this]at h;cases h
theorem aNY(h:Bs w v l)(hl:l.length<=100000):
 aL pg JU #[v] w (λr w'=>r= .tuple #[.int .i64 (if jR 11 (bL l)=true then bB (bL l)else 0:Nat),.bool (jR 11 (bL l))]/\w'=w):=by
 refine apR ?_;obtain⟨a,n,c,rfl,hn,hc,hh⟩:=id h;rw[a1M]at hn;subst hn;unfold alV Rl Rk Ij Ii UN;simp(disch:=omega)only[SV];unfold AM;refine aN.rule (λm (t:a7C×a7C) w'=>∃i:Nat,m=l.length-i/\t=(.int .i64 (bB (bL (l.take i)):Nat),.int .i64 i)/\i<=l.length/\jR 11 (bL (l.take i))=true/\w'=w) l.length
  ⟨0,rfl,by simp[bB],by omega,by simp[jR],rfl⟩ ?_
 rintro m t w1 ⟨i,rfl,rfl,hi,hle,rfl⟩;unfold UM UL;by_cases hlt:i<l.length
 .have d1:decide ((i:Int)<(l.length:Int))=true:=by simp;omega
  obtain⟨b,off,rfl,hcell⟩:=slA h (by omega);have g1:=hcell i hlt;rw[a2F,a1I hlt]at g1;simp only[a2Q,kH]at g1;have ht:=afS hlt;have hx:(l[i]).toNat<256:=a2D _;have hwl:=Ik (lF.1 hle);rw[uA,a1N]at hwl;have hsn:jR 11 (bL (l.take (i+1)))=(jR 11 (bL (l.take i))&&decide ((l[i]).toNat<=11)):=by rw[ht,aCX]
  have hwn:bB (bL (l.take (i+1)))=bB (bL (l.take i))+H9 (l[i]).toNat:=by rw[ht,IZ,iD]<;>rfl
  have hbad:jR 11 (bL (l.take (i+1)))=false->jR 11 (bL l)=false:=λh=>aCY (i:=i+1) (by rw[<-a4R];exact h);generalize(l[i]).toNat=x at*;unfold Ih;by_cases h11:11<x
  .have d2:decide ((11:Int)<(x:Int))=true:=by simp;omega
   have hf:=hbad (by rw[hsn,hle,decide_eq_false (by omega)]<;>rfl);simp(disch:=omega)only[SV,d1,g1,d2];rw[hf];simp
  .have d2:decide ((11:Int)<(x:Int))=false:=by simp;omega
   have hle1:jR 11 (bL (l.take (i+1)))=true:=by rw[hsn,hle,decide_eq_true (by omega)]<;>rfl
   have hwp:=aH1 (w:=x) (by omega);by_cases h0:0<x
   .have d3:decide ((0:Int)<(x:Int))=true:=by simp;omega
    have e1:(x:Int)-1=((x-1:Nat):Int):=by omega
    have hsh:=aPd (n:=x-1) (by omega);have hpw:H9 x=2^(x-1):=by unfold H9;rw[if_neg (by omega)]
    have e2:((bB (bL (l.take i)):Nat):Int)+((2^(x-1):Nat):Int)=((bB (bL (l.take i))+2^(x-1):Nat):Int):=by omega
    rw[hpw]at hwp hwn;simp(disch:=omega)only[SV,d1,g1,d2,d3,e1,hsh,e2];exact⟨l.length-(i+1),by omega,i+1,rfl,by rw[hwn]<;>rfl,by omega,hle1⟩
   .have d3:decide ((0:Int)<(x:Int))=false:=by simp;omega
    have hpw:H9 x=0:=by unfold H9;rw[if_pos (by omega)]
    simp(disch:=omega)only[SV,d1,g1,d2,d3];exact⟨l.length-(i+1),by omega,i+1,rfl,by rw[hwn,hpw]<;>rfl,by omega,hle1⟩
 .have d1:decide ((i:Int)<(l.length:Int))=false:=by simp;omega
  obtain rfl:i=l.length:=by omega
  rw[a4Q]at*;unfold Ig;simp(disch:=omega)only[SV,d1];rw[hle];simp
theorem aKQ{a b:Nat}(ha:a<2^63)(hb:b<2^63):yK .i64 (a:Int) (b:Int)=((a&&&b:Nat):Int):=by
 unfold yK;have e:IntKind.i64.bits=64:=rfl;have h:=Nat.and_lt_two_pow (n:=63) a hb;rw[e,BitVec.ofInt_natCast,BitVec.ofInt_natCast,BitVec.toNat_and,BitVec.toNat_ofNat,BitVec.toNat_ofNat,a3B (by omega),a3B (by omega)];exact dM (by omega) (by omega)
theorem aVP(h:Bs w v l)(h0:0<l.length)(hl:l.length<=100000):
 aL pg DV #[v] w (λr w'=>(∃m:Nat,r= .int .u8 m/\(∀x∈bL l,x<=m)/\m∈bL l)/\w'=w):=by
 refine aeF ?_;obtain⟨b,off,c,rfl,hc,hcell⟩:=Vs h h0;unfold YF LR LQ;have d0:decide ((l.length:Int)<1)=false:=by simp;omega
 have g0:=hcell 0 h0;have t0:(0:Int).toNat=0:=rfl;simp(disch:=omega)only[SV,d0];unfold C8 PL;simp(disch:=omega)only[SV,g0,t0];unfold C7 C6 PK vA;refine aN.rule (λm (t:a7C×a7C) w'=>∃i q:Nat,m=l.length-i/\t=(.int .u8 q,.int .i64 i)/\1<=i/\i<=l.length/\(∀x∈bL (l.take i),x<=q)/\q∈bL (l.take i)/\w'=w) (l.length-1)
  ⟨1,l[0].toNat,by omega,rfl,by omega,by omega, ?_, ?_,rfl⟩ ?_
 .intro x hx;rw[afS (i:=0) h0]at hx;simp at hx;omega
 .rw [afS (i:=0) h0];simp
 rintro m t w1 ⟨i,q,rfl,rfl,hi1,hi,hle,hmem,rfl⟩;unfold PJ;by_cases hlt:i<l.length
 .have d1:decide ((i:Int)<(l.length:Int))=true:=by simp;omega
  have g1:=hcell i hlt;have ht:=afS hlt;generalize(l[i]).toNat=x at*;have hmx:(if(q:Int)<=(x:Int)then(x:Int)else(q:Int))=((max q x:Nat):Int):=by split<;>omega
  have hmx2:(if(x:Int)>(q:Int)then(x:Int)else(q:Int))=((max q x:Nat):Int):=by split<;>omega
  have hmx3:(if(q:Int)<(x:Int)then(x:Int)else(q:Int))=((max q x:Nat):Int):=by split<;>omega
  simp(disch:=omega)only[SV,d1,g1,hmx,hmx2,hmx3];refine⟨l.length-(i+1),by omega,i+1,max q x,rfl,rfl,by omega,by omega, ?_, ?_⟩
  .intro y hy;rw[ht]at hy;rcases a2X.1 hy with hy|hy
   .have:=hle y hy;omega
   .rw [a3W.1 hy];omega
  .rw [ht,a2X];rcases Nat.le_total q x with h|h
   .rw [Nat.max_eq_right h];exact .inr (a3W.2 rfl)
   .rw [Nat.max_eq_left h];exact .inl hmem
 .have d1:decide ((i:Int)<(l.length:Int))=false:=by simp;omega
  obtain rfl:i=l.length:=by omega
  rw[a4Q]at*;unfold C5;simp(disch:=omega)only[SV,d1];exact⟨q,rfl,hle,hmem⟩
theorem aNm(h:Bs w v l)(hl:l.length<=100000):
 aL pg JT #[v] w (λr w'=>r= .int .i64 (gO (bL l):Nat)/\w'=w):=by
 refine apQ ?_;obtain⟨a,n,c,rfl,hn,hc,hh⟩:=id h;rw[a1M]at hn;subst hn;have no:¬(jR 11 (bL l)=true/\2<=(bL l).length/\(bL l).length<=256/\(bL l).getLast?≠some 0/\2^(bB (bL l)).log2=bB (bL l)/\(bB (bL l)).log2<=11/\jR (bB (bL l)).log2 (bL l)=true)->gO (bL l)=0:=λh=>by
  unfold gO;rw[if_neg h]
 have hnl:=uA l;unfold alU UK;refine(aNY h hl).mono ?_;rintro r w1 ⟨rfl,rfl⟩;cases hok:jR 11 (bL l)with
 |false=>
  have:=no (by rw[hok];simp);simp(disch:=omega)only[SV];rw[this]<;>rfl
 |true=>
  have hw:=Ik (lF.1 hok);rw[hnl]at hw;by_cases h2:l.length<2
  .have d2:decide ((l.length:Int)<2)=true:=by simp;omega
   have:=no (by omega);simp(disch:=omega)only[SV,d2];rw[this]<;>rfl
  have d2:decide ((l.length:Int)<2)=false:=by simp;omega
  by_cases h3:256<l.length
  .have d3:decide ((256:Int)<(l.length:Int))=true:=by simp;omega
   have:=no (by omega);simp(disch:=omega)only[SV,d2,d3];rw[this]<;>rfl
  have d3:decide ((256:Int)<(l.length:Int))=false:=by simp;omega
  obtain⟨b,off,rfl,hcell⟩:=slA h (by omega);have e1:(l.length:Int)-1=((l.length-1:Nat):Int):=by omega
  have g1:=hcell (l.length-1) (by omega);rw[a2F,a1I (by omega)]at g1;simp only[a2Q,kH]at g1;have hla:=aOx (l:=l) (by omega);have hmem:(l[l.length-1]'(by omega)).toNat∈bL l:=a4J.2 ⟨_,a2P _,rfl⟩;generalize(l[l.length-1]'(by omega)).toNat=x at*;by_cases h4:x=0
  .have d4:((x:Int)==0)=true:=by rw[h4]<;>rfl
   have:=no (λh=>h.2.2.2.1 (hla.2 h4));simp(disch:=omega)only[SV,d2,d3,e1,g1,d4];rw[this]<;>rfl
  have d4:((x:Int)==0)=false:=beq_eq_false_iff_ne.2 (by omega);have hwp:=awV hmem;have hwx:1<=H9 x:=by unfold H9;rw[if_neg h4];exact Nat.one_le_two_pow
  obtain⟨s,hs⟩:∃s,bB (bL l)=s:=⟨_,rfl⟩;rw[hs]at no hw hwp⊢;have e2:(s:Int)-1=((s-1:Nat):Int):=by omega
  have e3:=aKQ (a:=s) (b:=s-1) (by omega) (by omega);have hpw:=aIE s (by omega);have hlast:(bL l).getLast?≠some 0:=λh=>h4 (hla.1 h);simp only[if_true];by_cases h5:s&&&(s-1)=0
  .have d5:(((s&&&(s-1):Nat):Int) !=0)=false:=by rw[h5]<;>rfl
   have hlog:=hpw.1 h5;have hbl:bl s=s.log2+1:=by unfold bl;rw[if_neg (by omega)]
   have e4:((s.log2+1:Nat):Int)-1=(s.log2:Int):=by omega
   have hb20:bl s<=20:=rH (by omega);simp(disch:=omega)only[SV,d2,d3,e1,g1,d4,e2,e3,d5];refine(aJq s (by omega) w1).mono ?_;rintro r w2 ⟨rfl,rfl⟩;rw[hbl];by_cases h6:11<s.log2
   .have d6:decide ((11:Int)<(s.log2:Int))=true:=by simp;omega
    have:=no (by omega);simp(disch:=omega)only[SV,e4,d6];rw[this]<;>rfl
   have d6:decide ((11:Int)<(s.log2:Int))=false:=by simp;omega
   simp(disch:=omega)only[SV,e4,d6];refine(aVP h (by omega) hl).mono ?_;rintro r w3 ⟨⟨q,rfl,hq1,hq2⟩,rfl⟩;have hq:=QS l q hq2;by_cases h7:s.log2<q
   .have d7:decide ((s.log2:Int)<(q:Int))=true:=by simp;omega
    have:=no (λh=>by have:=lF.1 h.2.2.2.2.2.2 q hq2;omega);simp(disch:=omega)only[SV,d7];rw[this]<;>rfl
   .have d7:decide ((s.log2:Int)<(q:Int))=false:=by simp;omega
    have hyes:gO (bL l)=s.log2:=by
     unfold gO;rw[hs,if_pos ⟨hok,by omega,by omega,hlast,hlog,by omega,lF.2 λy hy=>by have:=hq1 y hy;omega⟩]
    simp(disch:=omega)only[SV,d7];rw[hyes]
  .have d5:(((s&&&(s-1):Nat):Int) !=0)=true:=by simpa using h5
   have:=no (λh=>h5 (hpw.2 h.2.2.2.2.1));simp(disch:=omega)only[SV,d2,d3,e1,g1,d4,e2,e3,d5];rw[this]<;>rfl
def aSP(w:a7B)(base:Nat)(l:List UInt8)(o:Option Nat)(r:a7C):Prop:=match o with
 |none=>r= .tuple #[.slice none 0 0,.int .i64 11]
 |some k=>∃v,r= .tuple #[v,.int .i64 0]/\mH w base 1 v (l.length+1) ((l++[UInt8.ofNat k]).map kH)
theorem aNX(h:Bs w v l)(hl:l.length<=100000):
 aL pg JS #[v] w (λr w'=>aSP w' w.heap.size l (sJ (bL l)) r/\aE w w' aP):=by
 refine apP ?_;obtain⟨a,n,c,rfl,hn,hc,hh⟩:=id h;rw[a1M]at hn;subst hn;have hnl:=uA l;have no:¬(jR 11 (bL l)=true/\1<=(bL l).length/\(bL l).length<=255/\0<bB (bL l)/\bl (bB (bL l))<=11/\2^(2^bl (bB (bL l))-bB (bL l)).log2=2^bl (bB (bL l))-bB (bL l))->sJ (bL l)=none:=λh=>by
  unfold sJ;rw[if_neg h]
 unfold alT UJ;refine(aNY h hl).mono ?_;rintro r w1 ⟨rfl,rfl⟩;cases hok:jR 11 (bL l)with
 |false=>
  have:=no (by rw[hok];simp);simp(disch:=omega)only[SV];rw[this];exact⟨rfl,aE.refl _ _⟩
 |true=>
  have hw:=Ik (lF.1 hok);rw[hnl]at hw;by_cases h2:l.length=0
  .have d2:((l.length:Int)==0)=true:=by rw[h2]<;>rfl
   have:=no (by omega);simp(disch:=omega)only[SV,d2];rw[this];exact⟨rfl,aE.refl _ _⟩
  have d2:((l.length:Int)==0)=false:=beq_eq_false_iff_ne.2 (by omega);by_cases h3:256<=l.length
  .have d3:decide ((256:Int)<=(l.length:Int))=true:=by simp;omega
   have:=no (by omega);simp(disch:=omega)only[SV,d2,d3];rw[this];exact⟨rfl,aE.refl _ _⟩
  have d3:decide ((256:Int)<=(l.length:Int))=false:=by simp;omega
  obtain⟨s,hs⟩:∃s,bB (bL l)=s:=⟨_,rfl⟩;rw[hs]at no hw⊢;simp only[if_true];by_cases h4:s=0
  .have d4:((s:Int)==0)=true:=by rw[h4]<;>rfl
   have:=no (by omega);simp(disch:=omega)only[SV,d2,d3,d4];rw[this];exact⟨rfl,aE.refl _ _⟩
  have d4:((s:Int)==0)=false:=beq_eq_false_iff_ne.2 (by omega);have hbl19:bl s<=20:=rH (by omega);have hlt:=Zz s;have hbl0:=M9 h4;have hp20:2^bl s<=2^20:=a1K (by omega) hbl19;have hshl:=aPd (n:=bl s) hbl19;have e1:((2^bl s:Nat):Int)-(s:Int)=((2^bl s-s:Nat):Int):=by omega
  simp(disch:=omega)only[SV,d2,d3,d4];refine(aJq s (by omega) w1).mono ?_;rintro r w2 ⟨rfl,rfl⟩;obtain⟨q,hq⟩:∃q,2^bl s-s=q:=⟨_,rfl⟩;rw[hq]at no e1;by_cases h5:11<bl s
  .have d5:decide ((11:Int)<(bl s:Int))=true:=by simp;omega
   have:=no (by omega);simp(disch:=omega)only[SV,hshl,e1,d5];rw[this];exact⟨rfl,aE.refl _ _⟩
  have d5:decide ((11:Int)<(bl s:Int))=false:=by simp;omega
  have e2:(q:Int)-1=((q-1:Nat):Int):=by omega
  have e3:=aKQ (a:=q) (b:=q-1) (by omega) (by omega);have hpw:=aIE q (by omega);by_cases h6:q&&&(q-1)=0
  .have d6:(((q&&&(q-1):Nat):Int) !=0)=false:=by rw[h6]<;>rfl
   have hyes:sJ (bL l)=some (q.log2+1):=by
    unfold sJ;rw[hs,hq,if_pos ⟨hok,by omega,by omega,by omega,by omega,hpw.1 h6⟩]
   have hblq:bl q=q.log2+1:=by unfold bl;rw[if_neg (by omega)]
   have hblq2:bl q<=20:=rH (by omega);simp(disch:=omega)only[SV,hshl,e1,d5,e2,e3,d6];refine(LZ (h.ext (aE.refl _ aP) (aR _)) (by omega)).mono ?_;rintro r w3 ⟨o3,x3⟩;have z3:=x3.size;refine(aJq q (by omega) w3).mono ?_;rintro r w4 ⟨rfl,rfl⟩;rw[hblq]at hblq2⊢;rw[hyes];have e8:IntKind.u8.wrap ((q.log2+1:Nat):Int)=((q.log2+1:Nat):Int):=aFA (by omega) (by omega);simp(disch:=omega)only[SV,e8];obtain⟨av,cv,rfl⟩:=o3.len;refine mO (cells:= #[.int .u8 (q.log2+1:Nat)]) (by decide) (by decide) (by kernel_rfl) λw5 o5 x5 s5=> ?_;have z5:=x5.size;refine mM (m:=1) (news:=[.int .u8 (q.log2+1:Nat)]) (o3.ext x5 (λ_ _ h=>h)) (o5.cl (off:=0) (l:=[.int .u8 (q.log2+1:Nat)]) (n:=1) rfl (λi hi=>by rw[a1Q])) (by simp[one]) (by omega) (by omega) λv6 w6 o6 x6=> ?_;refine⟨⟨v6,rfl, ?_⟩,(x3.seq x5).trans x6 λb hb h=>by omega⟩;have hb2:kH (UInt8.ofNat (q.log2+1))= .int .u8 (q.log2+1:Nat):=by
    unfold kH;rw[a5U (show q.log2+1<256 by omega)]
   rw[a2I,a4D,a6Y,hb2];exact o6
  .have d6:(((q&&&(q-1):Nat):Int) !=0)=true:=by simpa using h6
   have:=no (λh=>h6 (hpw.2 h.2.2.2.2.2));simp(disch:=omega)only[SV,hshl,e1,d5,e2,e3,d6];rw[this];exact⟨rfl,aE.refl _ _⟩
end Go.Proofs.YthohephggmkeeaaGreatDoor
namespace Go.Pu
open Go Go.En
variable{d i w:Nat}{l:List Nat}
def cc:List (Nat×Nat)->List a7C
 |[]=>[]
 |e::r=> .int .i64 (e.1:Nat):: .int .i64 (e.2:Nat)::cc r
theorem Dj:∀L:List (Nat×Nat),(cc L).length=2*L.length
 |[]=>rfl
 |e::r=>by rw[cc,a1U,a1U,Dj r,a1U];omega
theorem aNh:∀n:Nat,Hk n [Value.int .i64 0,Value.int .i64 0]=cc (List.replicate n (0,0))
 |0=>rfl
 |n+1=>by
  have:=aNh n;unfold Hk at*;rw[a2S,a6N,this,a2S,cc]<;>rfl
theorem aQx:∀{L:List (Nat×Nat)} {i:Nat} (h:i<L.length),(cc L)[i*2]?=some (.int .i64 (L[i].1:Nat))/\(cc L)[i*2+1]?=some (.int .i64 (L[i].2:Nat))
 |[],i,h=>by simp at h
 |e::r,0,h=>⟨rfl,rfl⟩
 |e::r,i+1,h=>by
  have:=aQx (L:=r) (i:=i) (by simpa using h);rw[cc,show(i+1)*2=i*2+1+1 from by omega,a6B];exact this
theorem aNg:∀{L:List (Nat×Nat)} {i:Nat} (h:i<L.length),((cc L).drop (i*2)).take 2=[.int .i64 (L[i].1:Nat),.int .i64 (L[i].2:Nat)]
 |[],i,h=>by simp at h
 |e::r,0,h=>rfl
 |e::r,i+1,h=>by
  have:=aNg (L:=r) (i:=i) (by simpa using h);rw[cc,show(i+1)*2=i*2+1+1 from by omega,a2H,a2H,a6B];exact this
theorem aK4:∀{L:List (Nat×Nat)} {i:Nat} (e:Nat×Nat),i<L.length->((cc L).set (i*2) (.int .i64 (e.1:Nat))).set (i*2+1) (.int .i64 (e.2:Nat))=cc (L.set i e)
 |[],i,e,h=>by simp at h
 |x::r,0,e,h=>rfl
 |x::r,i+1,e,h=>by
  have:=aK4 (L:=r) (i:=i) e (by simpa using h);rw[cc,show(i+1)*2=i*2+1+1 from by omega,a1D,a1D,a1D,a1D,this,a1D,cc]
theorem aFS:∀(a b:List (Nat×Nat)),cc (a++b)=cc a++cc b
 |[],b=>rfl
 |e::a,b=>by rw[a4P,cc,cc,aFS a b]<;>rfl
def oD(l:List Nat)(d w i:Nat):List (Nat×Nat):=(List.range l.length).map λs=>if l.getD s 0<w∨(l.getD s 0=w/\s<i)then Ey l d s else(0,0)
def gN(l:List Nat)(d:Nat):List (Nat×Nat):=(List.range l.length).map (Ey l d)
theorem dF(l:List Nat)(d w i:Nat):(oD l d w i).length=l.length:=by simp[oD]
theorem wA(l:List Nat)(d:Nat):(gN l d).length=l.length:=by simp[gN]
theorem amK{s:Nat}(h:s<l.length):(gN l d)[s]?=some (Ey l d s):=by
 unfold gN;rw[a2F,a3S h]<;>rfl
theorem rJ{s:Nat}(h:s<l.length):(oD l d w i)[s]?=some (if l.getD s 0<w∨(l.getD s 0=w/\s<i)then Ey l d s else(0,0)):=by
 unfold oD;rw[a2F,a3S h]<;>rfl
theorem ahP(l:List Nat)(d:Nat):oD l d 1 0=List.replicate l.length (0,0):=by
 apply a4C;intro s;rcases a1Y s l.length with h|h
 .rw [rJ h,a5F,if_pos h];congr 1;split
  .rename_i hh;unfold Ey;rw[if_pos (by omega)]
  .rfl
 .rw [a1X (by rw[dF];exact h),a1X (by simpa using h)]
theorem aqU:oD l d w l.length=oD l d (w+1) 0:=by
 apply a4C;intro s;rcases a1Y s l.length with h|h
 .rw [rJ h,rJ h];congr 1;by_cases hh:l.getD s 0<w+1
  .rw [if_pos (by omega),if_pos (by omega)]
  .rw [if_neg (by omega),if_neg (by omega)]
 .rw [a1X (by rw[dF];exact h),a1X (by rw[dF];exact h)]
theorem aAJ(hall:∀x∈l,x<=d)(hw:d<w):oD l d w 0=gN l d:=by
 apply a4C;intro s;rcases a1Y s l.length with h|h
 .rw [rJ h,amK h,if_pos];have:=hall _ (rK h);omega
 .rw [a1X (by rw[dF];exact h),a1X (by rw[wA];exact h)]
theorem aqV(h:i<l.length)(hw:l.getD i 0≠w):oD l d w (i+1)=oD l d w i:=by
 apply a4C;intro s;rcases a1Y s l.length with hs|hs
 .rw [rJ hs,rJ hs];congr 1;by_cases hsi:s=i
  .subst hsi;by_cases h1:l.getD s 0<w
   .rw [if_pos (by omega),if_pos (by omega)]
   .rw [if_neg (by omega),if_neg (by omega)]
  .by_cases h1:l.getD s 0<w∨(l.getD s 0=w/\s<i)
   .rw [if_pos (by omega),if_pos h1]
   .rw [if_neg (by omega),if_neg h1]
 .rw [a1X (by rw[dF];exact hs),a1X (by rw[dF];exact hs)]
theorem aAK(h:i<l.length)(hw:l.getD i 0=w):(oD l d w i).set i (Ey l d i)=oD l d w (i+1):=by
 apply a4C;intro s;rw[List.getElem?_set];rcases a1Y s l.length with hs|hs
 .by_cases hsi:i=s
  .subst hsi;rw[if_pos rfl,if_pos (by rw[dF];exact h),rJ (i:=i+1) hs,if_pos (by omega)]
  .rw [if_neg hsi,rJ (i:=i) hs,rJ (i:=i+1) hs];congr 1;by_cases h1:l.getD s 0<w∨(l.getD s 0=w/\s<i)
   .rw [if_pos h1,if_pos (by omega)]
   .rw [if_neg h1,if_neg (by omega)]
 .rw [if_neg (by omega),a1X (by rw[dF];exact hs),a1X (by rw[dF];exact hs)]
def DH(l:List Nat)(w i:Nat):Nat:=tL l w+(l.take i).count w*2^(w-1)
theorem aC0 (l:List Nat):DH l 1 0=0:=by unfold DH;rw[aDT];simp
theorem axK(h:1<=w):DH l w l.length=DH l (w+1) 0:=by
 unfold DH;rw[a4Q,QQ l w h];simp
theorem axL(h:i<l.length):DH l w (i+1)=DH l w i+(if l.getD i 0=w then 2^(w-1)else 0):=by
 have hg:l.getD i 0=l[i]:=by rw[a1P,a1I h]<;>rfl
 unfold DH;rw[a3F,a1I h,a4U,hg];simp only[Option.toList,a6W];by_cases hw:l[i]=w
 .subst hw;simp[a3D];omega
 .rw [if_neg hw];have:(l[i]==w)=false:=by simpa using hw
  rw[this];simp
theorem aGS(h:l.getD i 0=w):DH l w i=M1 l i:=by unfold DH M1;rw[h]
theorem aNd(hs:bB l=2^d)(hall:∀x∈l,x<=d)(h1:1<=w)(hw:w<=d):DH l w i<=2^d:=by
 have h2:DH l w i<=tL l (w+1):=by
  rw[QQ l w h1];unfold DH;have hc:(l.take i).count w<=l.count w:=(List.take_sublist _ _).count_le _;have:=a2V (2^(w-1)) hc;omega
 have h3:=aaH (l:=l) (a:=w+1) (b:=d+1) (by omega) (by omega);rw[anG hall,hs]at h3;omega
end Go.Pu
namespace Go.Proofs.YthohephggmkeeaaGreatDoor
open Go Go.En Go.Pu
set_option maxRecDepth 4000
variable{l:List UInt8}
theorem aRh{i:Nat}(h:i<l.length):(bL l).getD i 0=l[i].toNat:=by rw[a1P,aJw h]<;>rfl
theorem aS9 {v:a7C}{d:Nat}{w:a7B}(h:Bs w v l)(hd:gO (bL l)=d)(hd0:d≠0):
 aL pg BQ #[v] w (λr w'=>∃b,r= .tuple #[.slice (some ⟨b,0,none⟩) l.length l.length,.int .i64 0]/\w.heap.size<=b/\aT w' b (cc (gN (bL l) d))/\aE w w' aP):=by
 refine PV ?_;obtain⟨hall,hd11,hl2,hl256,hlast,hsum⟩:=Mo hd hd0;have hnl:=uA l;obtain⟨b,off,c,rfl,hc,hcell⟩:=Vs h (by omega);unfold S9 Gx Gw;refine(aNm h (by omega)).mono ?_;rintro r w1 ⟨rfl,rfl⟩;rw[hd];have n1:((d:Int)==0)=false:=beq_eq_false_iff_ne.2 (by omega);simp(disch:=omega)only[SV,n1];refine agL (by omega) (by omega) λw2 o2 x2 s2=> ?_;rw[a1H]at o2⊢;rw[aNh,<-hnl,<-ahP _ d]at o2;generalize hpb:w1.heap.size=pb at*;have hp2:2^d<=2^11:=a1K (by omega) hd11;unfold Gv Gu Rd yA;refine aN.rule (λm (t:a7C×a7C) w'=>∃q:Nat,m=d+1-q/\t=(.int .i64 (DH (bL l) q 0:Nat),.int .i64 q)/\1<=q/\q<=d+1/\aT w' pb (cc (oD (bL l) d q 0))/\aE w2 w' (λy=>y=pb)) d
  ⟨1,by omega,by rw[aC0]<;>rfl,by omega,by omega,o2,aE.refl _ _⟩ ?_
 rintro m t w3 ⟨q,rfl,rfl,hq1,hqd,o3,x3⟩;unfold Rc Rb;by_cases hq:q<=d
 .have d1:decide ((q:Int)<=(d:Int))=true:=by simp;omega
  simp(disch:=omega)only[SV,d1];unfold Gt Ie UI;simp(disch:=omega)only[SV];unfold AL;refine aN.rule (λm (t:a7C×a7C) w'=>∃i:Nat,m=l.length-i/\t=(.int .i64 (DH (bL l) q i:Nat),.int .i64 i)/\i<=l.length/\aT w' pb (cc (oD (bL l) d q i))/\aE w2 w' (λy=>y=pb)) l.length
   ⟨0,rfl,rfl,by omega,o3,x3⟩ ?_
  rintro m t w4 ⟨i,rfl,rfl,hi,o4,x4⟩;unfold UH UG;by_cases hlt:i<l.length
  .have d2:decide ((i:Int)<(l.length:Int))=true:=by simp;omega
   have h4:Bs w4 _ l:=(h.ext x2 (aR _)).ext x4 (λhb=>(h.old) (asE hb λy hy=>by omega));obtain⟨_,_,_,he,_,hcell4⟩:=Vs h4 (by omega);cases he;have g1:=hcell4 i hlt;have hgd:=aRh hlt;have hstep:=axL (l:=bL l) (w:=q) (i:=i) (by omega);have hskip:=aqV (l:=bL l) (d:=d) (w:=q) (i:=i) (by omega);have hset:=aAK (l:=bL l) (d:=d) (w:=q) (i:=i) (by omega);have hof:=aGS (l:=bL l) (w:=q) (i:=i);have hle:=aNd (l:=bL l) (d:=d) (w:=q) (i:=i) hsum hall hq1 hq;have hco:Ey (bL l) d i=if(bL l).getD i 0=0 then(0,0)else(d+1-(bL l).getD i 0,M1 (bL l) i/2^((bL l).getD i 0-1)):=rfl
   rw[hgd]at hskip hset hstep hof hco;have hx:(l[i]).toNat<256:=a2D _;generalize(l[i]).toNat=x at*;unfold Ic;by_cases hxq:x=q
   .subst hxq;have n2:((x:Int) !=(x:Int))=false:=by simp
    have e1:(d:Int)+1-(x:Int)=((d+1-x:Nat):Int):=by omega
    have e2:(x:Int)-1=((x-1:Nat):Int):=by omega
    rw[if_neg (by omega),<-hof rfl]at hco;rw[if_pos rfl]at hstep;have hset:=hset rfl;rw[hco]at hset;have e3:((DH (bL l) x i:Nat):Int).fdiv (2^(min (x-1) IntKind.i64.bits))=((DH (bL l) x i/2^(x-1):Nat):Int):=by
     rw[show min (x-1) IntKind.i64.bits=x-1 from a2T (by have:IntKind.i64.bits=64:=rfl
                                                         omega),a3A _ (Int.pow_nonneg (by omega))]
     simp
    have hdl:=a3Q (DH (bL l) x i) (2^(x-1));have hsh:=aPd (n:=x-1) (by omega);have hpx:2^(x-1)<=2^11:=a1K (by omega) (by omega);have e4:((DH (bL l) x i:Nat):Int)+((2^(x-1):Nat):Int)=((DH (bL l) x (i+1):Nat):Int):=by omega
    generalize DH (bL l) x i=at' at*;generalize at'/2^(x-1)=cd at*;simp(disch:=omega)only[SV,d2,g1,n2,e1,e2,e3];refine H7 o4 rfl (by simp[one]) (by rw[Dj,dF];simp;omega) λw5 o5 x5 s5=> ?_;simp only[aF]at o5;have hcs:=aK4 (L:=oD (bL l) d x i) (i:=i) (d+1-x,cd) (by rw[dF];omega);simp only at hcs;rw[hcs,hset]at o5;simp(disch:=omega)only[SV,e2,hsh,e4];exact⟨l.length-(i+1),by omega,i+1,rfl,rfl,by omega,o5,x4.trans x5 λ_ _ h=>h⟩
   .have n2:((x:Int) !=(q:Int))=true:=by simp;omega
    rw[if_neg hxq,a3I]at hstep;have hskip:=hskip hxq;simp(disch:=omega)only[SV,d2,g1,n2];exact⟨l.length-(i+1),by omega,i+1,rfl,by rw[hstep]<;>rfl,by omega,by rw[hskip];exact o4,x4⟩
  .have d2:decide ((i:Int)<(l.length:Int))=false:=by simp;omega
   obtain rfl:i=l.length:=by omega
   have e1:=axK (l:=bL l) (w:=q) hq1;rw[hnl]at e1;have e2:=aqU (l:=bL l) (d:=d) (w:=q);rw[hnl]at e2;rw[e2]at o4;unfold Ib;simp(disch:=omega)only[SV,d2];exact⟨d+1-(q+1),by omega,q+1,rfl,by rw[e1]<;>rfl,by omega,by omega,o4,x4⟩
 .have d1:decide ((q:Int)<=(d:Int))=false:=by simp;omega
  rw[aAJ hall (by omega)]at o3;unfold Ia;simp(disch:=omega)only[SV,d1];exact⟨pb,rfl,by omega,o3,x2.trans x3 λ_ hb h=>by omega⟩
theorem aOd{v:a7C}{w:a7B}(h:Bs w v l)(hl:l.length<=100000)(hd:gO (bL l)=0):
 aL pg BQ #[v] w (λr w'=>r= .tuple #[.slice none 0 0,.int .i64 1]/\w'=w):=by
 refine PV ?_;unfold S9 Gx Gw;refine(aNm h hl).mono ?_;rintro r w1 ⟨rfl,rfl⟩;rw[hd];have n1:(((0:Nat):Int)==0)=true:=rfl;simp(disch:=omega)only[SV,n1]
end Go.Proofs.YthohephggmkeeaaGreatDoor
namespace Go.Pu
open Go Go.En
variable{B:List Bool}{C:List (Nat×Nat)}{b c d m s x y:Nat}{l:List Nat}
def gJ(C:List (Nat×Nat)):Nat:=C.foldl (λm e=>max m e.1) 0
theorem aJu:∀(C:List (Nat×Nat)) (m:Nat),m<=C.foldl (λm e=>max m e.1) m/\∀e∈C,e.1<=C.foldl (λm e=>max m e.1) m
 |[],m=>⟨a1J _,λe h=>by cases h⟩
 |x::C,m=>by
  obtain⟨h1,h2⟩:=aJu C (max m x.1);rw[List.foldl_cons];refine⟨by omega,λe he=> ?_⟩;rcases a3C.1 he with rfl|he
  .omega
  .exact h2 e he
theorem ayR{e:Nat×Nat}(h:e∈C):e.1<=gJ C:=(aJu C 0).2 e h
theorem aRe(C:List (Nat×Nat))(e:Nat×Nat):gJ (C++[e])=max (gJ C) e.1:=by
 unfold gJ;rw[List.foldl_append]<;>rfl
theorem aRd:∀{C:List (Nat×Nat)} {m:Nat},m<=d->(∀e∈C,e.1<=d)->C.foldl (λm e=>max m e.1) m<=d
 |[],m,hm,_=>hm
 |x::C,m,hm,h=>by
  rw[List.foldl_cons];exact aRd (by have:=h x (a5L ..);omega) λe he=>h e (a2E _ he)
def GH(C:List (Nat×Nat))(m x s:Nat):Bool:=match C[s]? with
 |some e=>decide (0<e.1)&&decide (x/2^(m-e.1)=e.2)
 |none=>false
theorem TS:GH C m x s=true↔∃b c,C[s]?=some (b,c)/\0<b/\x/2^(m-b)=c:=by
 unfold GH;cases h:C[s]? with
 |none=>simp
 |some e=>
  obtain⟨b,c⟩:=e;simp only[a1S,decide_eq_true_eq];constructor
  .rintro ⟨h1,h2⟩;exact⟨b,c,rfl,h1,h2⟩
  .rintro ⟨b',c',h1,h2,h3⟩;cases h1;exact⟨h2,h3⟩
structure amC(C:List (Nat×Nat))(m:Nat):Prop where
 le:∀(s b c:Nat),C[s]?=some (b,c)->b<=m/\(0<b->c<2^b)
 ex:∀x,x<2^m->∃s,GH C m x s=true
 un:∀x s t,x<2^m->GH C m x s=true->GH C m x t=true->s=t
 pos:0<m
theorem aNT{w:Nat}:∀i,i<=l.length->tL l w<=y->y<DH l w i->∃s,s<l.length/\l.getD s 0=w/\M1 l s<=y/\y<M1 l s+2^(w-1)
 |0,_,h,hy=>by unfold DH at hy;simp at hy;omega
 |i+1,hi,h,hy=>by
  rcases a1Y y (DH l w i)with h1|h1
  .exact aNT i (by omega) h h1
  .rw [axL (by omega)]at hy;by_cases hw:l.getD i 0=w
   .rw [if_pos hw]at hy;rw[aGS hw]at hy h1;exact⟨i,by omega,hw,h1,hy⟩
   .rw [if_neg hw]at hy;omega
theorem aYe:∀w,y<tL l (w+1)->∃s,s<l.length/\l.getD s 0≠0/\M1 l s<=y/\y<M1 l s+2^(l.getD s 0-1)
 |0,hy=>by rw[aDT]at hy;omega
 |w+1,hy=>by
  rcases a1Y y (tL l (w+1))with h1|h1
  .exact aYe w h1
  .have h2:y<DH l (w+1) l.length:=by rw[axK (by omega)];unfold DH;simpa using hy
   obtain⟨s,a,b,c,d⟩:=aNT l.length (a1J _) h1 h2;exact⟨s,a,by omega,c,by rw[b];exact d⟩
theorem aVe(h:s<l.length)(h0:l.getD s 0≠0)(hs:bB l=2^d)(hd:l.getD s 0<=d):(M1 l s<=y/\y<M1 l s+2^(l.getD s 0-1))↔y/2^(l.getD s 0-1)=M1 l s/2^(l.getD s 0-1):=by
 obtain⟨q,hq⟩:=aKS h h0 hs hd;have hp:=a2G (l.getD s 0-1);rw[hq,a5W _ hp];generalize 2^(l.getD s 0-1)=p at*;constructor
 .rintro ⟨h1,h2⟩;rw[Nat.div_eq_iff hp,a2N];omega
 .intro h;rw[Nat.div_eq_iff hp,a2N q]at h;omega
theorem ZA(h:(gN l d)[s]?=some (b,c)):s<l.length/\Ey l d s=(b,c):=by
 have hs:s<l.length:=by
  rcases a1Y s l.length with h'|h'
  .exact h'
  .rw [a1X (by rw[wA];exact h')]at h;cases h
 rw[amK hs]at h;exact⟨hs,a1Z h⟩
theorem aDd(hd:gO l=d)(hd0:d≠0):amC (gN l d) (gJ (gN l d))/\gJ (gN l d)<=d:=by
 obtain⟨hall,hd11,hl2,hl256,hlast,hsum⟩:=Mo hd hd0;have hle:gJ (gN l d)<=d:=aRd (a4G _) λe he=>by
  obtain⟨s,hs⟩:=List.getElem?_of_mem he;obtain⟨hsl,hc⟩:=ZA (b:=e.1) (c:=e.2) hs;unfold Ey at hc;split at hc
  .have:=(a5K hc).1;omega
  .have:=(a5K hc).1;omega
 have key:∀x s,GH (gN l d) (gJ (gN l d)) x s=true↔s<l.length/\l.getD s 0≠0/\(x*2^(d-gJ (gN l d)))/2^(l.getD s 0-1)=M1 l s/2^(l.getD s 0-1):=by
  intro x s;rw[TS];have hx:∀{b:Nat},b<=gJ (gN l d)->0<b->b=d+1-l.getD s 0->l.getD s 0<=d->l.getD s 0≠0->(x*2^(d-gJ (gN l d)))/2^(l.getD s 0-1)=x/2^(gJ (gN l d)-b):=by
   intro b h1 h2 h3 h4 h5;rw[show l.getD s 0-1=(d-gJ (gN l d))+(gJ (gN l d)-b)from by omega,a4A,<-a5I,Nat.mul_div_cancel _ (a2G _)]
  constructor
  .rintro ⟨b,c,h1,h2,h3⟩;have hm:=ayR (a3E h1);obtain⟨hs,hc⟩:=ZA h1;unfold Ey at hc;by_cases h0:l.getD s 0=0
   .rw [if_pos h0]at hc;cases hc;omega
   .rw [if_neg h0]at hc;obtain⟨hb,hcc⟩:=a5K hc;have hws:=hall _ (rK hs);exact⟨hs,h0,by rw[hx hm h2 hb.symm hws h0,h3,hcc]⟩
  .rintro ⟨hs,h0,h⟩;have hws:=hall _ (rK hs);have hg:=amK (d:=d) hs;have hm:=ayR (a3E hg);have hc:Ey l d s=(d+1-l.getD s 0,M1 l s/2^(l.getD s 0-1)):=by unfold Ey;rw[if_neg h0]
   rw[hc]at hg hm;exact⟨_,_,hg,by omega,by rw[<-hx hm (by omega) rfl hws h0,h]⟩
 have hyx:∀x,x<2^gJ (gN l d)->x*2^(d-gJ (gN l d))<2^d:=λx hx=>by
  have:=Nat.mul_lt_mul_of_pos_right hx (a2G (d-gJ (gN l d)))
  rwa [<-a4A,show gJ (gN l d)+(d-gJ (gN l d))=d from by omega]at this
 have ex:∀x,x<2^gJ (gN l d)->∃s,GH (gN l d) (gJ (gN l d)) x s=true:=λx hx=>by
  have h1:=hyx x hx;rw[<-hsum,<-anG hall]at h1;obtain⟨s,a,b,c,e⟩:=aYe d h1;exact⟨s,(key x s).2 ⟨a,b,(aVe a b hsum (hall _ (rK a))).1 ⟨c,e⟩⟩⟩
 refine⟨⟨λs b c h=> ?_,ex,λx s t hx h1 h2=> ?_, ?_⟩,hle⟩
 .have hm:=ayR (a3E h);refine⟨hm,λhb=> ?_⟩;obtain⟨hs,hc⟩:=ZA h;unfold Ey at hc;by_cases h0:l.getD s 0=0
  .rw [if_pos h0]at hc;cases hc;omega
  .rw [if_neg h0]at hc;obtain⟨hb',hcc⟩:=a5K hc;rw[<-hb',<-hcc];exact aOc hs h0 hsum hall
 .obtain ⟨a1,b1,c1⟩:=(key x s).1 h1;obtain⟨a2,b2,c2⟩:=(key x t).1 h2;have dv:∀{y p q:Nat},p<=q->y/2^q=y/2^p/2^(q-p):=λ{y p q} h=>by
   rw[a5I,<-a4A,show p+(q-p)=q from by omega]
  refine Decidable.byContradiction λhne=> ?_;rcases Nat.le_total (l.getD t 0) (l.getD s 0)with hle'|hle'
  .refine aFT a1 a2 hne b1 b2 hle' hsum hall ?_;rw[<-c2,<-c1,dv (y:=x*2^(d-gJ (gN l d))) (p:=l.getD t 0-1) (q:=l.getD s 0-1) (by omega)];congr 2;omega
  .refine aFT a2 a1 (λh=>hne h.symm) b2 b1 hle' hsum hall ?_;rw[<-c2,<-c1,dv (y:=x*2^(d-gJ (gN l d))) (p:=l.getD s 0-1) (q:=l.getD t 0-1) (by omega)];congr 2;omega
 .obtain ⟨s,hs⟩:=ex 0 (a2G _);obtain⟨b,c,h1,h2,_⟩:=TS.1 hs;have:=ayR (a3E h1);omega
def Gr(C:List (Nat×Nat))(m x:Nat):Nat:=((List.range C.length).find? (GH C m x)).getD 0
def bitsOf(C:List (Nat×Nat))(s:Nat):Nat:=(C.getD s (0,0)).1
theorem aCx(h:GH C m x s=true):s<C.length:=by
 obtain⟨b,c,h1,_⟩:=TS.1 h;exact(a4N.1 h1).1
theorem aKv(hF:amC C m)(hx:x<2^m)(h:GH C m x s=true):Gr C m x=s:=by
 unfold Gr;cases hf:(List.range C.length).find? (GH C m x)with
 |none=>exact absurd h (List.find?_eq_none.1 hf s (a2U.2 (aCx h)))
 |some t=>exact hF.un x t s hx (List.find?_some hf) h
theorem aAr(hF:amC C m)(hx:x<2^m):GH C m x (Gr C m x)=true:=by
 obtain⟨s,hs⟩:=hF.ex x hx;rw[aKv hF hx hs];exact hs
theorem aFP(h:C[s]?=some (b,c)):bitsOf C s=b:=by
 unfold bitsOf;rw[a1P,h]<;>rfl
def BB(C:List (Nat×Nat))(m:Nat)(B:List Bool):Nat->Int->List Nat×Int
 |0,left=>([],left)
 |n+1,left=>
  let s:=Gr C m (B6 B left m)
  let r:=BB C m B n (left-bitsOf C s)
  (s::r.1,r.2)
theorem Z5 :∀{n:Nat} {left:Int},(BB C m B n left).1.length=n
 |0,_=>rfl
 |n+1,left=>by rw[BB,a1U,Z5]
theorem OD(B:List Bool)(left:Int)(n:Nat):B6 B left n<2^n:=kY _ _
theorem aHF{left:Int}(a b:Nat)(h:left<=B.length):B6 B left (a+b)=B6 B left a*2^b+B6 B (left-a) b:=by
 unfold B6;obtain⟨k,hk⟩:∃k,left.toNat=k:=⟨_,rfl⟩;have hkB:k<=B.length:=by omega
 have e2:(left-a).toNat=k-a:=by omega
 rw[hk,e2];have l1:(B.take k).length=k:=by rw[a1N];omega
 have l2:(B.take (k-a)).length=k-a:=by rw[a1N];omega
 unfold iI;rw[l1,l2];rcases a1Y a k with h1|h1
 .have hs:B.take k=B.take (k-a)++(B.drop (k-a)).take a:=by
   rw[<-List.take_add];congr 1;omega
  have m1:min a k=a:=by omega
  have hT:(B.take k).drop (k-a)=(B.drop (k-a)).take a:=by
   rw[List.drop_take,show k-(k-a)=a from by omega]
  rw[m1,a5N,Nat.pow_zero,a2Z,hT];obtain⟨j,hj⟩:∃j,j=min b (k-a):=⟨_,rfl⟩;have m2:min (a+b) k=a+j:=by omega
  rw[m2,<-hj];have hD:(B.take k).drop (k-(a+j))=(B.take (k-a)).drop (k-a-j)++(B.drop (k-a)).take a:=by
   rw[hs,a5D (by rw[l2];omega),show k-(a+j)=k-a-j from by omega]
  rw[hD,aaU,a1L,l2,show k-a-(k-a-j)=j from by omega,show a+b-(a+j)=b-j from by omega,a3D];rw[Nat.add_comm];congr 1;rw[a6J,a2N (tX _) (2^(b-j)),<-a6J,<-a4A,a2N,show j+(b-j)=b from by omega]
 .have m1:min a k=k:=by omega
  have m2:min (a+b) k=k:=by omega
  have m3:min b (k-a)=0:=by omega
  rw[m1,m2,m3,a5N,show k-a=0 from by omega];simp only[a1G,a1F,a6M,List.drop_nil,tX,Nat.zero_mul,a3I];rw[a6J,<-a4A,show a-k+b=a+b-k from by omega]
theorem aNL{left:Int}{a:Nat}(h:left<=B.length)(ha:a<=m):B6 B left m/2^(m-a)=B6 B left a/\B6 B left m%2^(m-a)=B6 B (left-a) (m-a):=by
 obtain⟨b,rfl⟩:=Nat.exists_eq_add_of_le ha;rw[a5V,aHF a b h];have hlt:=OD B (left-a) b;constructor
 .rw [a2N,Nat.mul_add_div (a2G b),Nat.div_eq_of_lt hlt,a3I]
 .rw [a2N,Nat.mul_add_mod,a3B hlt]
def fc:List (Nat×Nat)->List a7C
 |[]=>[]
 |e::r=> .int .u8 (e.1:Nat):: .int .i64 (e.2:Nat)::fc r
theorem axV:∀L:List (Nat×Nat),(fc L).length=2*L.length
 |[]=>rfl
 |e::r=>by rw[fc,a1U,a1U,axV r,a1U];omega
theorem aNr:∀n:Nat,Hk n [Value.int .u8 0,Value.int .i64 0]=fc (List.replicate n (0,0))
 |0=>rfl
 |n+1=>by
  have:=aNr n;unfold Hk at*;rw[a2S,a6N,this,a2S,fc]<;>rfl
theorem aNq:∀{L:List (Nat×Nat)} {i:Nat} {e:Nat×Nat},L[i]?=some e->((fc L).drop (i*2)).take 2=[.int .u8 (e.1:Nat),.int .i64 (e.2:Nat)]
 |[],i,e,h=>by simp at h
 |e'::r,0,e,h=>by cases h;rfl
 |e'::r,i+1,e,h=>by
  have:=aNq (L:=r) (i:=i) (e:=e) (by simpa using h);rw[fc,show(i+1)*2=i*2+1+1 from by omega,a2H,a2H];exact this
theorem aQK:∀{L:List (Nat×Nat)} {i:Nat} (e:Nat×Nat),i<L.length->((fc L).set (i*2) (.int .u8 (e.1:Nat))).set (i*2+1) (.int .i64 (e.2:Nat))=fc (L.set i e)
 |[],i,e,h=>by simp at h
 |x::r,0,e,h=>rfl
 |x::r,i+1,e,h=>by
  have:=aQK (L:=r) (i:=i) e (by simpa using h);rw[fc,show(i+1)*2=i*2+1+1 from by omega,a1D,a1D,a1D,a1D,this,a1D,fc]
def aIR(C:List (Nat×Nat))(m s x:Nat):Nat×Nat:=match(List.range s).find? (GH C m x)with
 |some t=>(t,bitsOf C t)
 |none=>(0,0)
def agV(C:List (Nat×Nat))(m s:Nat):List (Nat×Nat):=(List.range (2^m)).map (aIR C m s)
def aEZ(C:List (Nat×Nat))(m s low j:Nat):List (Nat×Nat):=(List.range (2^m)).map λx=>if low<=x/\x<low+j then(s,bitsOf C s)else aIR C m s x
theorem aKx(C:List (Nat×Nat))(m s:Nat):(agV C m s).length=2^m:=by simp[agV]
theorem aBq(C:List (Nat×Nat))(m s low j:Nat):(aEZ C m s low j).length=2^m:=by simp[aEZ]
theorem aSc(h:x<2^m):(agV C m s)[x]?=some (aIR C m s x):=by
 unfold agV;rw[a2F,a3S h]<;>rfl
theorem aPk(C:List (Nat×Nat))(m:Nat):agV C m 0=List.replicate (2^m) (0,0):=by
 unfold agV;apply a4C;intro x;rcases a1Y x (2^m)with h|h
 .rw [a2F,a3S h,a5F,if_pos h]<;>rfl
 .rw [a1X (by simpa using h),a1X (by simpa using h)]
theorem aFY(C:List (Nat×Nat))(m s x:Nat):aIR C m (s+1) x=match(List.range s).find? (GH C m x)with
 |some t=>(t,bitsOf C t)
 |none=>if GH C m x s=true then(s,bitsOf C s)else(0,0):=by
 unfold aIR;rw[a5Y,List.find?_append];cases(List.range s).find? (GH C m x)with
 |some t=>rfl
 |none=>
  cases h:GH C m x s with
  |true=>simp[List.find?,h]
  |false=>simp[List.find?,h]
theorem aPj(h:C[s]?=some (0,c)):agV C m (s+1)=agV C m s:=by
 unfold agV;apply a2Y;intro x _;rw[aFY];have hh:GH C m x s=false:=by
  unfold GH;rw[h]<;>rfl
 unfold aIR;cases(List.range s).find? (GH C m x)with
 |some t=>rfl
 |none=>rw[hh]<;>rfl
theorem aPi(C:List (Nat×Nat))(m s low:Nat):aEZ C m s low 0=agV C m s:=by
 unfold aEZ agV;apply a2Y;intro x _;rw[if_neg (by omega)]
theorem aSa{low j:Nat}(h:low+j<2^m):(aEZ C m s low j).set (low+j) (s,bitsOf C s)=aEZ C m s low (j+1):=by
 apply a4C;intro x;rw[List.getElem?_set];unfold aEZ;rcases a1Y x (2^m)with hx|hx
 .by_cases he:low+j=x
  .rw [if_pos he,if_pos (by simp;omega),a2F,a3S hx];simp only[a2Q];rw[if_pos (by omega)]
  .rw [if_neg he,a2F,a3S hx,a2F,a3S hx];simp only[a2Q];congr 1;by_cases hc:low<=x/\x<low+j
   .rw [if_pos hc,if_pos (by omega)]
   .rw [if_neg hc,if_neg (by omega)]
 .rw [if_neg (by omega),a1X (by simpa using hx),a1X (by simpa using hx)]
theorem aF6 (h:C[s]?=some (b,c))(hb:0<b):GH C m x s=true↔c*2^(m-b)<=x/\x<c*2^(m-b)+2^(m-b):=by
 rw[TS];have hp:=a2G (m-b);constructor
 .rintro ⟨b',c',h1,h2,h3⟩;rw[h]at h1;cases h1;rw[Nat.div_eq_iff hp]at h3;rw[a2N]at h3;rw[a2N];omega
 .rintro ⟨h1,h2⟩;refine⟨b,c,h,hb, ?_⟩;rw[Nat.div_eq_iff hp,a2N];rw[a2N]at h1 h2;omega
theorem aVN(hF:amC C m)(h:C[s]?=some (b,c))(hb:0<b):c*2^(m-b)+2^(m-b)<=2^m:=by
 obtain⟨h1,h2⟩:=hF.le s b c h;have h2:=h2 hb;have:(c+1)*2^(m-b)<=2^b*2^(m-b):=a2V _ h2;rw[<-a4A,show b+(m-b)=m from by omega,a7A]at this;exact this
theorem aR9 (hF:amC C m)(h:C[s]?=some (b,c))(hb:0<b):aEZ C m s (c*2^(m-b)) (2^(m-b))=agV C m (s+1):=by
 unfold aEZ agV;apply a2Y;intro x hx;have hx:=a2U.1 hx;rw[aFY];by_cases hc:c*2^(m-b)<=x/\x<c*2^(m-b)+2^(m-b)
 .rw [if_pos hc];have hh:=(aF6 h hb).2 hc;cases hf:(List.range s).find? (GH C m x)with
  |none=>simp only[hh,if_true]
  |some t=>
   have h1:=List.find?_some hf;have h2:=a2U.1 (List.mem_of_find?_eq_some hf);have:=hF.un x t s hx h1 hh;omega
 .rw [if_neg hc];have hh:GH C m x s=false:=by
   cases hq:GH C m x s with
   |false=>rfl
   |true=>exact absurd ((aF6 h hb).1 hq) hc
  unfold aIR;cases(List.range s).find? (GH C m x)with
  |some t=>rfl
  |none=>rw[hh]<;>rfl
theorem aSb(hF:amC C m)(hx:x<2^m):(agV C m C.length)[x]?=some (Gr C m x,bitsOf C (Gr C m x)):=by
 rw[aSc hx];unfold aIR Gr;cases hf:(List.range C.length).find? (GH C m x)with
 |some t=>rfl
 |none=>
  obtain⟨s,hs⟩:=hF.ex x hx;exact absurd hs (List.find?_eq_none.1 hf s (a2U.2 (aCx hs)))
theorem aRf{i:Nat}{e:Nat×Nat}(h:C[i]?=some e):gJ (C.take (i+1))=max (gJ (C.take i)) e.1:=by
 rw[a3F,h];exact aRe _ _
end Go.Pu
namespace Go.Proofs.YthohephggmkeeaaGreatDoor
open Go Go.En Go.Pu
set_option maxRecDepth 4000
theorem aKg{a n:Nat}(hn:n<=62)(h:a*2^n<2^62):IntKind.i64.wrap ((a:Int)*2^(min n IntKind.i64.bits))=((a*2^n:Nat):Int):=by
 have e:IntKind.i64.bits=64:=rfl;rw[e,a2T (by omega)];have:(a:Int)*2^n=((a*2^n:Nat):Int):=by push_cast;rfl
 rw[this];exact dM (by omega) (by omega)
theorem aIJ{C:List (Nat×Nat)}{i:Nat}{e:Nat×Nat}(h:C[i]?=some e):((cc C).drop (i*2)).take 2=[.int .i64 (e.1:Nat),.int .i64 (e.2:Nat)]:=by
 obtain⟨hi,rfl⟩:=a4N.1 h;exact aNg hi
def HtV(w:a7B)(base:Nat)(C:List (Nat×Nat))(v:a7C):Prop:=∃b,v= .agg #[.int .i64 (gJ C:Nat),.slice (some ⟨b,0,none⟩) (2^gJ C) (2^gJ C)]/\base<=b/\aT w b (fc (agV C (gJ C) C.length))
theorem aKy{v:a7C}{l:List UInt8}{d:Nat}{w:a7B}(h:Bs w v l)(hd:gO (bL l)=d)(hd0:d≠0):
 aL pg Io #[v] w (λr w'=>∃t,r= .tuple #[t,.int .i64 0]/\HtV w' w.heap.size (gN (bL l) d) t/\aE w w' aP):=by
 refine T0 ?_;obtain⟨RR,hRR⟩:∃RR:a7C->a7B->Prop,RR=λr w'=>∃t,r= .tuple #[t,.int .i64 0]/\HtV w' w.heap.size (gN (bL l) d) t/\aE w w' aP:=⟨_,rfl⟩;rw[<-hRR];obtain⟨hF,hmd⟩:=aDd hd hd0;have hok:=Mo hd hd0;have hd11:=hok.2.1;have hl256:=hok.2.2.2.1;rw[uA]at hl256;unfold Z7 Kj Ki;refine sC λw1 o1 x1 s1=> ?_;refine(aS9 (h.ext x1 (aR _)) hd hd0).mono ?_;rintro r w2 ⟨b,rfl,hb,ob,x2⟩;have n0:((0:Int) !=0)=false:=rfl;simp(disch:=omega)only[SV,n0];refine sC λw3 o3 x3 s3=> ?_;refine qA o3 rfl (by simp[one]) (by simp) λw4 o4 x4 s4=> ?_;simp only[aF,a1E,a1D]at o4;generalize hC:gN (bL l) d=C at*;have hCl:C.length=l.length:=by rw[<-hC,wA,uA]
 obtain⟨p6,hp6⟩:∃p,p=w2.heap.size:=⟨_,rfl⟩;obtain⟨p2,hp2⟩:∃p,p=w.heap.size:=⟨_,rfl⟩;rw[<-hp6]at o4⊢;rw[<-hp2]at o1⊢;have x24:aE w2 w4 aP:=x3.new x4 (a1J _);have x04:=(x1.seq x2).seq x24;have z1:=x1.size;have z2:=x2.size;have z24:=x24.size;have lb:=ob.lt;have ob4:=ob.ext x24 (λh=>h);have o14:=o1.ext (x2.seq x24) (λh=>h);have l1:=o1.lt;unfold Kh Kg Xd;simp(disch:=omega)only[SV];unfold B3;have hcl:∀{w':a7B} {i:Nat} {e:Nat×Nat},aE w4 w' (λy=>y=p6)->C[i]?=some e->(cK 271 (.pointer (some ⟨b,i*2,none⟩))).run pg w'= .ok (.value (.agg #[.int .i64 (e.1:Nat),.int .i64 (e.2:Nat)])) w':=λ{w' i e} x hi=>by
  have hlt:=(a4N.1 hi).1;have:=T6 (off:=i*2) (ob4.ext x (by omega)) (by rw[Dj];omega);rw[aIJ hi]at this;exact this
 refine aN.rule (λm (t:a7C) w'=>∃i:Nat,m=l.length-i/\t= .int .i64 i/\i<=l.length/\aT w' p6 [.int .i64 (gJ (C.take i):Nat),.slice none 0 0]/\aE w4 w' (λy=>y=p6)) l.length
  ⟨0,rfl,rfl,by omega,o4,aE.refl _ _⟩ ?_
 rintro m t w5 ⟨i,rfl,rfl,hi,o5,x5⟩;have z5:=x5.size;unfold Xc;by_cases hlt:i<l.length
 .have d1:decide ((i:Int)<(l.length:Int))=true:=by simp;omega
  obtain⟨e,he⟩:∃e,C[i]?=some e:=⟨_,a1I (by omega)⟩;have q1:=hcl x5 he;simp(disch:=omega)only[SV,d1,q1,a1H,a1Q];refine Ww λw6 o6 x6 s6=> ?_;refine H7 o6 rfl (by simp[one]) (by simp) λw7 o7 x7 s7=> ?_;simp only[aF,a1E,a1D]at o7;have x57:aE w5 w7 aP:=x6.new x7 (a1J _);have o57:=o5.ext x57 (λh=>h);have k0:=o57.cell (off:=0);have k1:=o7.cell (off:=0);simp only[a1A,a1B]at k0 k1;have hmx:(if((e.1:Nat):Int)>((gJ (C.take i):Nat):Int)then((e.1:Nat):Int)else((gJ (C.take i):Nat):Int))=((gJ (C.take (i+1)):Nat):Int):=by rw[aRf he];split<;>omega
  have e1:(i:Int)+1=((i+1:Nat):Int):=by omega
  simp(disch:=omega)only[SV,k0,k1,hmx,e1];refine eZ o57 rfl (by simp) λw8 o8 x8 s8=> ?_;simp only[a1E,a1D]at o8
  try simp(disch:=omega)only[SV,e1]
  exact⟨l.length-(i+1),by omega,i+1,rfl,rfl,by omega,o8,(x5.more x57).seq x8⟩
 .have d1:decide ((i:Int)<(l.length:Int))=false:=by simp;omega
  obtain rfl:i=l.length:=by omega
  rw[<-hCl,a4Q]at o5;unfold Kf Xb;have k0:=o5.cell (off:=0);simp only[a1A,a1B]at k0;have hm11:gJ C<=11:=by omega
  have hp11:2^gJ C<=2^11:=a1K (by omega) hm11;have hsh:=aKg (a:=1) (n:=gJ C) (by omega) (by omega);rw[a5J]at hsh;have one1:((1:Nat):Int)=1:=rfl;rw[one1]at hsh;simp(disch:=omega)only[SV,d1,k0,hsh];have hN:(16:Int)*((2^gJ C:Nat):Int)<=2^48:=by generalize 2^gJ C=N at*;omega
  refine asP (Int.natCast_nonneg _) hN λw6 o6 x6 s6=> ?_;rw[a1H]at o6⊢;rw[aNr,<-aPk C]at o6;have z6:=x6.size;obtain⟨pt,hpt⟩:∃p,p=w5.heap.size:=⟨_,rfl⟩;rw[<-hpt]at o6⊢;refine aAl (o5.ext x6 (λh=>h)) rfl (by simp) λw7 o7 x7 s7=> ?_;simp only[a1E,a1D]at o7;have l6:=o6.lt;have l5:=o5.lt;have o67:=o6.ext x7 (by omega);have x47:aE w4 w7 (λy=>y=p6):=(x5.more x6).seq x7;unfold Ke Kd Xa;simp(disch:=omega)only[SV];unfold B2;refine aN.rule (λm (t:a7C) w'=>∃i:Nat,m=l.length-i/\t= .int .i64 i/\i<=l.length/\aT w' pt (fc (agV C (gJ C) i))/\aE w7 w' (λy=>y=pt)) l.length
   ⟨0,rfl,rfl,by omega,o67,aE.refl _ _⟩ ?_
  rintro m t w8 ⟨i,rfl,rfl,hi8,o8,x8⟩;have z8:=x8.size;unfold W9 W8;by_cases hlt:i<l.length
  .have d2:decide ((i:Int)<(l.length:Int))=true:=by simp;omega
   obtain⟨e,he⟩:∃e,C[i]?=some e:=⟨_,a1I (by omega)⟩;have q1:(cK 271 (.pointer (some ⟨b,i*2,none⟩))).run pg w8= .ok (.value (.agg #[.int .i64 (e.1:Nat),.int .i64 (e.2:Nat)])) w8:=by
    have:=T6 (off:=i*2) ((ob4.ext x47 (by omega)).ext x8 (by omega)) (by rw[Dj];omega);rw[aIJ he]at this;exact this
   simp(disch:=omega)only[SV,d2];unfold Oa NZ aaA Z9;simp(disch:=omega)only[SV,q1,a1H,a1Q];refine Ww λw9 o9 x9 s9=> ?_;refine H7 o9 rfl (by simp[one]) (by simp) λwa oa xa sa=> ?_;simp only[aF,a1E,a1D]at oa;have x8a:aE w8 wa aP:=x9.new xa (a1J _);have z8a:=x8a.size;have k1:=oa.cell (off:=0);have k2:=oa.cell (off:=1);have k3:=((o7.ext x8 (by omega)).ext x8a (λh=>h)).cell (off:=0);simp only[a1A,a1B]at k1 k2 k3;have e1:(i:Int)+1=((i+1:Nat):Int):=by omega
   have o8a:=o8.ext x8a (λh=>h);obtain⟨eb,ec⟩:=e;simp only at k1 k2;by_cases hb0:eb=0
   .have n1:((eb:Int)==0)=true:=by simp;omega
    simp(disch:=omega)only[SV,k1,k2,k3,n1];unfold Fm;simp(disch:=omega)only[SV,e1];subst hb0;exact⟨l.length-(i+1),by omega,i+1,rfl,rfl,by omega,by rw[aPj he];exact o8a,x8.more x8a⟩
   .have n1:((eb:Int)==0)=false:=by simp;omega
    obtain⟨hle,hfit⟩:=hF.le _ _ _ he;have hlow:=aVN hF he (by omega);have hp:=a2G (gJ C-eb);have e2:((gJ C:Nat):Int)-(eb:Int)=((gJ C-eb:Nat):Int):=by omega
    have e3:=aKg (a:=ec) (n:=gJ C-eb) (by omega) (by omega);have e4:=aKg (a:=1) (n:=gJ C-eb) (by omega) (by omega);rw[a5J,one1]at e4;simp(disch:=omega)only[SV,k1,k2,k3,n1,e2,e3,e4,a1H];unfold Fo;refine aN.rule (λm (t:a7C) w'=>∃j:Nat,m=2^(gJ C-eb)-j/\t= .int .i64 j/\j<=2^(gJ C-eb)/\aT w' pt (fc (aEZ C (gJ C) i (ec*2^(gJ C-eb)) j))/\aE wa w' (λy=>y=pt)) (2^(gJ C-eb))
     ⟨0,rfl,rfl,by omega,by rw[aPi];exact o8a,aE.refl _ _⟩ ?_
    rintro m t wb ⟨j,rfl,rfl,hj,ob',xb⟩;unfold Z8;by_cases hjt:j<2^(gJ C-eb)
    .have d3:decide ((j:Int)<((2^(gJ C-eb):Nat):Int))=true:=decide_eq_true (Int.ofNat_lt.2 hjt);have f1:=(((o7.ext x8 (by omega)).ext x8a (λh=>h)).ext xb (by omega)).cell (off:=1);have f2:=(oa.ext xb (by omega)).cell (off:=0);simp only[a1A,a1B]at f1 f2;have e5:((ec*2^(gJ C-eb):Nat):Int)+(j:Int)=((ec*2^(gJ C-eb)+j:Nat):Int):=by omega
     have e6:IntKind.u8.wrap (i:Int)=(i:Int):=aFA (by omega) (by omega);have e7:(j:Int)+1=((j+1:Nat):Int):=by omega
     simp(disch:=omega)only[SV,d3,f1,f2,e5,e6,e7,a1H];have hx:ec*2^(gJ C-eb)+j<2^gJ C:=by omega
     refine aeH (off:=(ec*2^(gJ C-eb)+j)*2) ob' rfl (by simp[one]) (by rw[axV,aBq];omega) λwc oc xc sc=> ?_;simp only[aF]at oc;have hs:=aQK (L:=aEZ C (gJ C) i (ec*2^(gJ C-eb)) j) (i:=ec*2^(gJ C-eb)+j) (i,eb) (by rw[aBq];exact hx);simp only at hs;have hbo:=aFP he;have hj2:=aSa (C:=C) (s:=i) hx;rw[hbo]at hj2;rw[hs,hj2]at oc
     try simp(disch:=omega)only[SV,e7]
     exact⟨2^(gJ C-eb)-(j+1),by omega,j+1,rfl,rfl,by omega,oc,xb.seq xc⟩
    .have d3:decide ((j:Int)<((2^(gJ C-eb):Nat):Int))=false:=decide_eq_false λh=>hjt (Int.ofNat_lt.1 h);have hje:j=2^(gJ C-eb):=by omega
     subst hje;unfold Fm;simp(disch:=omega)only[SV,d3,e1];exact⟨l.length-(i+1),by omega,i+1,rfl,rfl,by omega,by rw[<-aR9 hF he (by omega)];exact ob',(x8.more x8a).seq xb⟩
  .have d2:decide ((i:Int)<(l.length:Int))=false:=by simp;omega
   have hie:i=l.length:=by omega
   subst hie;unfold NY;have o78:=o7.ext x8 (by omega);have q1:=Og (off:=0) o78 (by simp);simp only[a1F,a1C,a1G]at q1;simp(disch:=omega)only[SV,d2,q1];refine qA ((o14.ext x47 (by omega)).ext x8 (by omega)) rfl (by simp[one]) (by simp) λw9 o9 x9 s9=> ?_;refine aaF o9 (by simp[aF]) ?_;simp only[aF,a1E,a1D,a1F,a1C,a1G];rw[hRR];refine⟨_,rfl,⟨pt,rfl,by omega, ?_⟩, ?_⟩
   .rw [hCl];exact o8.ext x9 (by omega)
   .exact ((x04.trans x47 λy hy h=>by omega).trans x8 λy hy h=>by omega).new x9 (by omega)
end Go.Proofs.YthohephggmkeeaaGreatDoor
namespace Go.En
open Go Go.RowKit
section
variable{P:Program}{w:a7B}{t e:TypeId}{k:IntKind}
theorem aPg{i:TypeInfo}{z:a7C}(hu:P.underlying t=some (.slice e))(hi:P.info? e=some i)(h1:i.size=1)(hz:i.zero=some z)(hz1:one z=true){m n:Int}(h0:0<=m)(hmn:m<=n)(hn:i.bytes*n<=2^48)(hn2:n<=9223372036854775807)
 {K:a7C->a7B->Prop}
 (hk:∀w',aT w' w.heap.size (List.replicate n.toNat z)->aE w w' aP->w'.heap.size=w.heap.size+1->K (.slice (some ⟨w.heap.size,0,none⟩) m.toNat n.toNat) w'):
 bF P (mT t (.int k m) (.int k n)) w K:=by
 have hw:IntKind.i64.wrap n=n:=dM (by omega) hn2;have hwm:IntKind.i64.wrap m=m:=dM (by omega) (by omega);have hcells:z.cells= #[z]:=ayZ hz1;have harr:(Array.range n.toNat).map (λj=>(#[z]:Array a7C)[j%(#[z]:Array a7C).size]!)=(List.replicate n.toNat z).toArray:=by
  apply Array.ext
  .simp
  .intro j h1 h2;simp[Nat.mod_one]
 have hz':(zeroValue e).run P w= .ok z w:=by simp[zeroValue,typeInfo,hi,hz]
 have:(mT t (.int k m) (.int k n)).run P w= .ok (.value (.slice (some ⟨w.heap.size,0,none⟩) m.toNat n.toNat)) (w.alloc (.cells (List.replicate n.toNat z).toArray e)):=by
  unfold mT;rw[mG];have t1:(decide (n<0)||decide ((i.bytes:Int)*n>2^48)||decide (m<0)||decide (m>n))=false:=by
   simp only[a5P,decide_eq_false_iff_not];omega
  by_cases hn0:n.toNat=0
  .simp only[Instr.makeSlice,underlying,typeInfo,asInt,asIntOf,pure_bind,Sem.run_bind,run_program,Result.andThen_ok,hu,hi,Sem.run_pure,hw,hwm,t1,a2A,if_false,run_askRoom,cC hi,h1,a2Z,hn0,if_true,newRow,run_newObj];have:(Array.range 0).map (λx=>(#[]:Array a7C)[x%(#[]:Array a7C).size]!)=(List.replicate 0 z).toArray:=by simp
   rw[this];rfl
  .simp only[Instr.makeSlice,underlying,typeInfo,asInt,asIntOf,pure_bind,Sem.run_bind,run_program,Result.andThen_ok,hu,hi,Sem.run_pure,hw,hwm,t1,a2A,if_false,run_askRoom,cC hi,h1,a2Z,hn0,hz',hcells,newRow,run_newObj,harr];rfl
 unfold bF;rw[this];exact hk _ (aT.alloc _ _ _) (aE.alloc _ _ _) (by simp)
end
end Go.En
namespace Go.Proofs.YthohephggmkeeaaGreatDoor
open Go Go.En Go.Pu
set_option maxRecDepth 4000
variable{C:List (Nat×Nat)}{l:List UInt8}{n:Nat}{v:a7C}{w:a7B}
theorem HtV.ext {w':a7B}{base:Nat}{M:Nat->Prop}(h:HtV w base C v)(x:aE w w' M)(hM:∀b,base<=b->¬M b):HtV w' base C v:=by
 obtain⟨b,h1,h2,h3⟩:=h;exact⟨b,h1,h2,h3.ext x (hM b h2)⟩
def qB(C:List (Nat×Nat))(l:List UInt8)(n:Nat):Except Int (List Nat):=match YM l with
 |none=> .error 11
 |some k=>
  if(BB C (gJ C) (aG l) n (k:Int)).2<0 then .error 11
  else if 0<(BB C (gJ C) (aG l) n (k:Int)).2 then .error 15
  else .ok (BB C (gJ C) (aG l) n (k:Int)).1
theorem aDy{m:Nat}{B:List Bool}(hF:amC C m):∀{n:Nat} {left:Int},∀s∈(BB C m B n left).1,s<C.length
 |0,_,s,hs=>by cases hs
 |n+1,left,s,hs=>by
  rw[BB]at hs;rcases a3C.1 hs with rfl|hs
  .exact aCx (aAr hF (OD _ _ _))
  .exact aDy hF s hs
theorem ayG{m:Nat}{B:List Bool}:∀(n:Nat) (left:Int),BB C m B (n+1) left=
 ((BB C m B n left).1++[Gr C m (B6 B (BB C m B n left).2 m)],(BB C m B n left).2-bitsOf C (Gr C m (B6 B (BB C m B n left).2 m)))
 |0,left=>rfl
 |n+1,left=>by
  rw[BB,ayG n];rw[BB];simp
theorem aHa{m:Nat}{B:List Bool}(h:∀s,bitsOf C s<=11):∀(n:Nat) (left:Int),(BB C m B n left).2<=left/\left-11*n<=(BB C m B n left).2
 |0,left=>⟨a6P _,by simp[BB]⟩
 |n+1,left=>by
  have:=aHa (m:=m) (B:=B) h n (left-bitsOf C (Gr C m (B6 B left m)));have:=h (Gr C m (B6 B left m));rw[BB];simp only;omega
theorem aXJ{a b:Nat}(ha:a<2^62)(hb:b<2^62):orI .i64 (a:Int) (b:Int)=((a|||b:Nat):Int):=by
 have h:=Nat.or_lt_two_pow ha hb;unfold orI;have e:IntKind.i64.bits=64:=rfl;rw[e,BitVec.ofInt_natCast,BitVec.ofInt_natCast,BitVec.toNat_or,BitVec.toNat_ofNat,BitVec.toNat_ofNat,a3B (by omega),a3B (by omega)];exact dM (by omega) (by omega)
abbrev u8n (m:List Nat):List a7C:=m.map λ(x:Nat)=>Value.int .u8 x
def Vj(w:a7B)(base:Nat)(o:Except Int (List Nat))(r:a7C):Prop:=match o with
 | .error e=>r= .tuple #[.slice none 0 0,.int .i64 e]
 | .ok m=>∃v,r= .tuple #[v,.int .i64 0]/\mH w base 1 v m.length (u8n m)
theorem aI6 {t:a7C}{base:Nat}(hF:amC C (gJ C))(hm:gJ C<=11)(hCl:C.length<=256)(ht:HtV w base C t)(h:Bs w v l)(hl:l.length<=1000000)(hn:n<=131072):
 aL pg A9 #[t,v,.int .i64 n] w (λr w'=>Vj w' w.heap.size (qB C l n) r/\aE w w' aP):=by
 refine VG ?_;obtain⟨RR,hRR⟩:∃RR:a7C->a7B->Prop,RR=λr w'=>Vj w' w.heap.size (qB C l n) r/\aE w w' aP:=⟨_,rfl⟩;rw[<-hRR];obtain⟨pt,rfl,hpt,oT⟩:=ht;unfold QL Jy Jx;refine bY λw1 o1 x1 s1=> ?_;simp only[Value.cells]at o1;have z1:=x1.size;have lt1:=oT.lt;cases he:YM l with
 |none=>
  have hR:qB C l n= .error 11:=by unfold qB;rw[he]
  refine(Kk (h.ext x1 (aR _)) he hl).mono ?_;rintro r w2 ⟨rfl,rfl⟩;have n1:((11:Int) !=0)=true:=rfl;simp(disch:=omega)only[SV,n1];rw[hRR,hR];exact⟨rfl,x1⟩
 |some k=>
  have hk:=Dw he;refine(Ov (h.ext x1 (aR _)) he hl).mono ?_;rintro r w2 ⟨hi,rfl,hhi,hhi2,hB,x2⟩;have n1:((0:Int) !=0)=false:=rfl;simp(disch:=omega)only[SV,n1];refine aPg Tryz.underlying22 T2 rfl rfl rfl (m:=0) (n:=(n:Int)) (by omega) (by omega) (by rw[show Tryz.t5.bytes=1 from rfl];omega) (by omega) λw3 o3 x3 s3=> ?_;rw[a1H]at o3⊢;have t0:(0:Int).toNat=0:=rfl;rw[t0];have z2:=x2.size;have z3:=x3.size;have x03:=(x1.seq x2).seq x3;have hbit:∀s,bitsOf C s<=11:=λs=>by
   unfold bitsOf;rw[a1P];cases hq:C[s]? with
   |none=>simp
   |some e=>have:=ayR (a3E hq);simp;omega
  unfold zN zM Jw rL;have hBl:((aG l).length:Int)=8*l.length:=by rw[cJ];omega
  refine aN.rule (λq (t:a7C×a7C×a7C×a7C) w'=>∃(i th:Nat) (ov:a7C),q=n-i/\t=(ov,.int .i64 (B6 (aG l) (BB C (gJ C) (aG l) i (k:Int)).2 th:Nat),.int .i64 th,.int .i64 i)/\i<=n/\th<=gJ C/\mH w' (hi+1) 1 ov i (u8n (BB C (gJ C) (aG l) i (k:Int)).1)/\
   UP w' w1.heap.size hi l ((BB C (gJ C) (aG l) i (k:Int)).2-th)/\aE w3 w' (λy=>hi<=y)) n
   ⟨0,0,_,rfl, ?_,by omega,by omega,⟨rfl,.inr ⟨_,n,_,rfl,by omega,o3,by simp[BB],by omega⟩⟩, ?_,aE.refl _ _⟩ ?_
  .have:B6 (aG l) (BB C (gJ C) (aG l) 0 (k:Int)).2 0=0:=by have:=OD (aG l) (BB C (gJ C) (aG l) 0 (k:Int)).2 0;omega
   rw[this]<;>rfl
  .show UP w3 w1.heap.size hi l ((k:Int)-(0:Nat));rw[Int.natCast_zero,Int.sub_zero];exact hB.ext x3 (λ_ _ _ h=>h) (by omega)
  rintro q t w4 ⟨i,th,ov,rfl,rfl,hi',hth,os,hB4,x4⟩;have z4:=x4.size;have bd:=aHa (C:=C) (m:=gJ C) (B:=aG l) hbit i (k:Int);have hBs:=ayG (C:=C) (m:=gJ C) (B:=aG l) i (k:Int);generalize hg:BB C (gJ C) (aG l) i (k:Int)=g at*;obtain⟨gs,gl⟩:=g;simp only at*;unfold Jv;by_cases hlt:i<n
  .have d1:decide ((i:Int)<(n:Int))=true:=by simp;omega
   have o14:=(o1.ext (x2.seq x3) (λh=>h)).ext x4 (by omega);have k0:=o14.cell (off:=0);simp only[a1A,a1B]at k0;have e1:((gJ C:Nat):Int)-(th:Int)=((gJ C-th:Nat):Int):=by omega
   have r1:=OD (aG l) gl th;have hp1:2^th<=2^11:=a1K (by omega) (by omega);have hp2:2^(gJ C-th)<=2^11:=a1K (by omega) (by omega);have hmul:B6 (aG l) gl th*2^(gJ C-th)<=2^11*2^11:=Nat.mul_le_mul (by omega) hp2;have e2:=aKg (a:=B6 (aG l) gl th) (n:=gJ C-th) (by omega) (by omega);simp(disch:=omega)only[SV,d1,k0,e1,e2,a1H];have zd:(dr w4).heap.size=w4.heap.size:=rfl;refine(afM (hB4.ext (aE.dr w4 aP) (λ_ _ _ h=>h) (by omega)) (by omega) (by omega) (by omega) (by omega) hl).mono ?_;rintro r w5 ⟨rfl,hB5,x5⟩;have q1:iI ((aG l).take (gl-(th:Int)).toNat) (gJ C-th)=B6 (aG l) (gl-th) (gJ C-th):=rfl;rw[q1];have r2:=OD (aG l) (gl-th) (gJ C-th);have z5:=x5.size;have x45:aE w4 w5 (λy=>hi<=y):=(aE.dr w4 _).seq (x5.mono λy _ hy=>by omega);have hadd:=aHF (B:=aG l) (left:=gl) th (gJ C-th) (by omega);rw[show th+(gJ C-th)=gJ C from by omega]at hadd;have e3:IntKind.i64.wrap ((B6 (aG l) (gl-th) (gJ C-th):Nat):Int)=((B6 (aG l) (gl-th) (gJ C-th):Nat):Int):=dM (by omega) (by omega);have e4:orI .i64 ((B6 (aG l) gl th*2^(gJ C-th):Nat):Int) ((B6 (aG l) (gl-th) (gJ C-th):Nat):Int)=((B6 (aG l) gl (gJ C):Nat):Int):=by
    rw[aXJ (by omega) (by omega),Nat.or_comm,aHz r2,hadd,a2N (2^(gJ C-th)),Nat.add_comm]
   have hX:=OD (aG l) gl (gJ C);have o15:=o14.ext x45 (by omega);have k1:=o15.cell (off:=1);simp only[a1A,a1B]at k1;have hent:=aSb hF hX;obtain⟨X,hXe⟩:∃X,X=B6 (aG l) gl (gJ C):=⟨_,rfl⟩;rw[<-hXe]at e4 hX hent hBs;obtain⟨sy,hsy⟩:∃sy,sy=Gr C (gJ C) X:=⟨_,rfl⟩;rw[<-hsy]at hent hBs;have hsyl:sy<C.length:=by rw[hsy];exact aCx (aAr hF hX)
   have hbs:=hbit sy;obtain⟨bs,hbse⟩:∃bs,bs=bitsOf C sy:=⟨_,rfl⟩;rw[<-hbse]at hent hBs hbs;have hbm:bs<=gJ C:=by
    rw[hbse];unfold bitsOf;rw[a1P,a1I hsyl];exact ayR (a2P hsyl)
   have xT:aE w w5 (λy=>hi<=y):=((x03.mono λ_ _ h=>h.elim).seq x4).seq x45;have q2:(cK 273 (.pointer (some ⟨pt,X*2,none⟩))).run pg w5= .ok (.value (.agg #[.int .u8 (sy:Nat),.int .i64 (bs:Nat)])) w5:=by
    have:=aDO (off:=X*2) (oT.ext xT (by omega)) (by rw[axV,aKx];omega);rw[aNq hent]at this;exact this
   have hX2:(X:Int)<((2^gJ C:Nat):Int):=Int.ofNat_lt.2 hX;have c5:w5.cell? ⟨w.heap.size,1,none⟩=some (.slice (some ⟨pt,0,none⟩) (2^gJ C) (2^gJ C)):=k1;simp(disch:=omega)only[SV,e3,e4,k1,q2,a1H,a1Q];refine aFh λw6 o6 x6 s6=> ?_;refine aeH o6 rfl (by simp[one]) (by simp) λw7 o7 x7 s7=> ?_;simp only[aF,a1E,a1D]at o7;have x57:aE w5 w7 aP:=x6.new x7 (a1J _);have z57:=x57.size;have f0:=o7.cell (off:=0);simp only[a1A,a1B]at f0;simp(disch:=omega)only[SV,f0];refine mO (cells:= #[.int .u8 (sy:Nat)]) (by decide) (by decide) (by kernel_rfl) λw8 o8 x8 s8=> ?_;have z8:=x8.size;have x45h:aE w4 w5 (λy=>y=hi):=(aE.dr w4 _).seq x5;have os5:=os.ext x45h (λb hb hh=>by omega);have os7:=((os5.ne (a1J _)).ext x6 (λb _ h=>h)).ext x7 (λb h1 h2=>h1.2 h2);refine Q9 (m:=1) (news:=[.int .u8 (sy:Nat)]) (i:=Tryz.t5) Tryz.underlying22 Tryz.underlying22 T2 rfl rfl rfl (os7.ext x8 (λb _ h=>h)) (o8.cl (off:=0) (l:=[.int .u8 (sy:Nat)]) (n:=1) rfl (λi hi=>by rw[a1Q])) (by simp[one]) (λb hb=>⟨by omega,by omega⟩) (by omega) (by rw[show Tryz.t5.bytes=1 from rfl];omega) (by decide) λv9 w9 o9 x9=> ?_;have z9:=x9.size;have x59:aE w5 w9 (λy=>hi+1<=y):=((x57.seq x8).mono λ_ _ h=>h.elim).seq (x9.mono λy _ h=>h.1);have k3:=(o15.ext x59 (by omega)).cell (off:=0);have f1:=((o7.ext x8 (λh=>h)).ext x9 (λh=>h.2 rfl)).cell (off:=1);simp only[a1A,a1B]at k3 f1;have e5:((gJ C:Nat):Int)-(bs:Int)=((gJ C-bs:Nat):Int):=by omega
   have hp3:2^(gJ C-bs)<=2^11:=a1K (by omega) (by omega);have e6:=aKg (a:=1) (n:=gJ C-bs) (by omega) (by omega);rw[a5J]at e6;have one1:((1:Nat):Int)=1:=rfl;rw[one1]at e6;have hp0:=a2G (gJ C-bs);have e7:((2^(gJ C-bs):Nat):Int)-1=((2^(gJ C-bs)-1:Nat):Int):=by omega
   have hp4:2^gJ C<=2^11:=a1K (by omega) (by omega);have e8:yK .i64 (X:Int) ((2^(gJ C-bs)-1:Nat):Int)=((X%2^(gJ C-bs):Nat):Int):=by
    rw[aKQ (by omega) (by omega),a4O]
   have hmod:=(aNL (B:=aG l) (left:=gl) (a:=bs) (m:=gJ C) (by omega) hbm).2;rw[<-hXe]at hmod;have e9:(i:Int)+1=((i+1:Nat):Int):=by omega
   simp(disch:=omega)only[SV,k3,f1,e5,e6,e7,e8,e9,a1H];refine⟨n-(i+1),by omega,i+1,gJ C-bs,v9,rfl, ?_,by omega,by omega, ?_, ?_, ?_⟩
   .rw [hBs,hmod]
   .rw [hBs];show mH w9 (hi+1) 1 v9 (i+1) (u8n (gs++[sy]));unfold u8n;rw[a2I];exact⟨o9.1,o9.2.imp id λ⟨b,c,rest,q1,q2,q3⟩=>⟨b,c,rest,q1,q2.1,q3⟩⟩
   .rw [hBs];have:gl-(bs:Int)-((gJ C-bs:Nat):Int)=gl-(th:Int)-((gJ C-th:Nat):Int):=by omega
    show UP w9 w1.heap.size hi l (gl-(bs:Int)-((gJ C-bs:Nat):Int));rw[this];exact hB5.ext x59 (λb _ hb h=>by omega) (by omega)
   .exact (x4.seq x45).trans x59 λy _ h=>by omega
  .have d1:decide ((i:Int)<(n:Int))=false:=by simp;omega
   have hin:i=n:=by omega
   subst hin;unfold zL;simp(disch:=omega)only[SV,d1];refine(Tp hB4).mono ?_;rintro r w5 ⟨rfl,rfl⟩;have e1:gl-(th:Int)+(th:Int)=gl:=by omega
   have xall:aE w w5 aP:=x03.trans x4 λy hy h=>by omega
   have hR:qB C l i=if gl<0 then .error 11 else if 0<gl then .error 15 else .ok gs:=by unfold qB;rw[he];simp only[hg]
   rw[hRR,hR];by_cases g1:gl<0
   .have d2:decide (gl<0)=true:=decide_eq_true g1;rw[if_pos g1];simp(disch:=omega)only[SV,e1,d2];exact⟨rfl,xall⟩
   .have d2:decide (gl<0)=false:=decide_eq_false g1;rw[if_neg g1];by_cases g2:0<gl
    .have d3:decide (0<gl)=true:=decide_eq_true g2;rw[if_pos g2];simp(disch:=omega)only[SV,e1,d2,d3];exact⟨rfl,xall⟩
    .have d3:decide (0<gl)=false:=decide_eq_false g2;rw[if_neg g2];simp(disch:=omega)only[SV,e1,d2,d3];have hgl:gs.length=i:=by have:=Z5 (C:=C) (m:=gJ C) (B:=aG l) (n:=i) (left:=(k:Int));rw[hg]at this;exact this
     refine⟨⟨ov,rfl, ?_⟩,xall⟩;rw[hgl];rcases os.2 with h0|⟨b,c,rest,h1,h2,h3⟩
     .exact ⟨os.1,.inl h0⟩
     .exact ⟨os.1,.inr ⟨b,c,rest,h1,by omega,h3⟩⟩
theorem aE0 (h:Bs w v l)(hl:l.length<=100000)(hd:gO (bL l)=0):
 aL pg Io #[v] w (λr w'=>r= .tuple #[.agg #[.int .i64 0,.slice none 0 0],.int .i64 1]/\aE w w' aP):=by
 refine T0 ?_;unfold Z7 Kj Ki;refine sC λw1 o1 x1 s1=> ?_;refine(aOd (h.ext x1 (aR _)) hl hd).mono ?_;rintro r w2 ⟨rfl,rfl⟩;have n0:((1:Int) !=0)=true:=rfl;simp(disch:=omega)only[SV,n0];refine qA o1 rfl (by simp[one]) (by simp) λw3 o3 x3 s3=> ?_;refine aaF o3 (by simp[aF]) ?_;simp only[aF,a1E,a1D,a1F,a1C,a1G];exact⟨trivial,x1.new x3 (a1J _)⟩
abbrev wC(wl:List UInt8):List (Nat×Nat):=gN (bL wl) (gO (bL wl))
structure WOk(wl:List UInt8):Prop where
 d0:gO (bL wl)≠0
theorem WOk.full {wl:List UInt8}(h:gO (bL wl)≠0):amC (wC wl) (gJ (wC wl))/\gJ (wC wl)<=11/\(wC wl).length<=256:=by
 obtain⟨h1,h2⟩:=aDd rfl h;have h3:=Mo rfl h;exact⟨h1,a3K h2 h3.2.1,by rw[wA];exact h3.2.2.2.1⟩
def arV(wl s:List UInt8)(n:Nat):Except Int (List Nat):=if gO (bL wl)=0 then .error 1 else qB (wC wl) s n
theorem aI5 {lv:a7C}{wl:List UInt8}(hw:Bs w lv wl)(hwl:wl.length<=100000)(h:Bs w v l)(hl:l.length<=1000000)(hn:n<=131072):
 aL pg Rq #[lv,v,.int .i64 n] w (λr w'=>Vj w' w.heap.size (arV wl l n) r/\aE w w' aP):=by
 refine ayH ?_;unfold aAU Z6;by_cases hd:gO (bL wl)=0
 .refine (aE0 hw hwl hd).mono ?_;rintro r w1 ⟨rfl,x1⟩;have n0:((1:Int) !=0)=true:=rfl;simp(disch:=omega)only[SV];refine sC λw2 o2 x2 s2=> ?_;refine qA o2 rfl (by simp[one]) (by simp) λw3 o3 x3 s3=> ?_;simp(disch:=omega)only[SV,n0];unfold arV;rw[if_pos hd];exact⟨rfl,x1.seq (x2.new x3 (a1J _))⟩
 .obtain ⟨hF,hm,hC⟩:=WOk.full hd;refine(aKy hw rfl hd).mono ?_;rintro r w1 ⟨t,rfl,ht,x1⟩;have n0:((0:Int) !=0)=false:=rfl;obtain⟨b,rfl,hb,ob⟩:=ht;simp(disch:=omega)only[SV];refine sC λw2 o2 x2 s2=> ?_;refine qA o2 rfl (by simp[one]) (by simp) λw3 o3 x3 s3=> ?_;simp only[aF,a1E,a1D]at o3;have x13:aE w1 w3 aP:=x2.new x3 (a1J _);have x03:=x1.seq x13;have d1:decide ((n:Int)<0)=false:=decide_eq_false (by omega);have d2:decide (131072<(n:Int))=false:=decide_eq_false (by omega);have q1:=Og (off:=0) o3 (by simp);simp only[a1F,a1C,a1G]at q1;simp(disch:=omega)only[SV,n0,d1,d2,q1];refine(aI6 (base:=0) hF hm hC ⟨b,rfl,a4G _,ob.ext x13 (λh=>h)⟩ (h.ext x03 (aR _)) hl hn).mono ?_;rintro r w4 ⟨hr,x4⟩;unfold arV;rw[if_neg hd];have z03:=x03.size;cases hs:qB (wC wl) l n with
  |error e=>
   rw[hs]at hr;obtain rfl:r= .tuple #[.slice none 0 0,.int .i64 e]:=hr;simp(disch:=omega)only[SV];exact⟨rfl,x03.seq x4⟩
  |ok m=>
   rw[hs]at hr;obtain⟨ov,rfl,os⟩:=hr;simp(disch:=omega)only[SV];refine⟨⟨ov,rfl, ?_⟩,x03.seq x4⟩;rcases os.2 with h0|⟨b,c,rest,h1,h2,h3⟩
   .exact ⟨os.1,.inl h0⟩
   .exact ⟨os.1,.inr ⟨b,c,rest,h1,by omega,h3⟩⟩
theorem aRx{q:Nat}(hn:n<=131072)(hq:q=(n+3)/4)(w:a7B):
 aL pg UZ #[.int .i64 n] w (λr w'=>r= .tuple #[.agg #[.int .i64 (q:Nat),.int .i64 (q:Nat),.int .i64 (q:Nat),.int .i64 ((n:Int)-3*(q:Int))],.bool (decide (3*(q:Int)<=(n:Int)))]/\aE w w' aP):=by
 refine aBJ ?_;unfold aDz aiX;have e1:(n:Int)+4-1=((n+3:Nat):Int):=by omega
 have e2:((n+3:Nat):Int).tdiv 4=(q:Int):=by rw[a1R (by omega)];omega
 have e3:IntKind.i64.wrap (q:Int)=(q:Int):=dM (by omega) (by omega);generalize hK:(λ(t2:a7C) (w:a7B)=>_)=K;refine amE λw1 o1 x1 s1=> ?_;simp(disch:=omega)only[SV,hK.symm,e1,e2,e3];refine aBl o1 rfl (by simp[one]) (by simp) λw2 o2 x2 s2=> ?_;refine aJl o2 (by simp[aF]) ?_;simp only[aF,a1E,a1D,a1F,a1C,a1G];exact⟨trivial,x1.new x2 (a1J _)⟩
def GJ(C:List (Nat×Nat)):List UInt8->List (Nat×Nat)->Except Int (List Nat)
 |_,[]=> .ok []
 |l,(k,n)::r=>match qB C (l.take k) n with
  | .error e=> .error e
  | .ok m=>(match GJ C (l.drop k) r with
    | .error e=> .error e
    | .ok m'=> .ok (m++m'))
def ZG(acc:List Nat)(x:Except Int (List Nat)):Except Int (List Nat):=match x with
 | .error e=> .error e
 | .ok m=> .ok (acc++m)
theorem aAq{k:Nat}{r:List (Nat×Nat)}(acc:List Nat):ZG acc (GJ C l ((k,n)::r))=match qB C (l.take k) n with
 | .error e=> .error e
 | .ok m=>ZG (acc++m) (GJ C (l.drop k) r):=by
 rw[GJ];cases qB C (l.take k) n with
 |error e=>rfl
 |ok m=>
  simp only;cases GJ C (l.drop k) r with
  |error e=>rfl
  |ok m'=>simp[ZG]
def nA(l:List UInt8):Nat:=cG (l.take 2)
def nB(l:List UInt8):Nat:=cG ((l.drop 2).take 2)
def nC(l:List UInt8):Nat:=cG ((l.drop 4).take 2)
def Sf(wl l:List UInt8)(n:Nat):Except Int (List Nat):=
 if gO (bL wl)=0 then .error 1
 else if n<3*((n+3)/4)then .error 11
 else if l.length<6 then .error 10
 else if(l.drop 6).length<nA l+nB l+nC l then .error 10
 else GJ (wC wl) (l.drop 6) [(nA l,(n+3)/4),(nB l,(n+3)/4),(nC l,(n+3)/4),((l.drop 6).length-(nA l+nB l+nC l),n-3*((n+3)/4))]
def nx(l:List UInt8):Nat->List UInt8×Int
 |0=>(l,0)
 |i+1=>((gH (nx l i).1 (nx l i).2 2).2.1,(gH (nx l i).1 (nx l i).2 2).2.2)
def nv(l:List UInt8)(i:Nat):Nat:=cG (gH (nx l i).1 (nx l i).2 2).1
theorem aLH(l:List UInt8):∀i,(nx l i).1.length<=l.length
 |0=>a1J _
 |i+1=>by
  have:=aLH l i;rw[nx];unfold gH;split
  .exact this
  .split
   .exact this
   .simp only[a1L];omega
theorem aRm(h:6<=l.length):nx l 1=(l.drop 2,0)/\nx l 2=(l.drop 4,0)/\nx l 3=(l.drop 6,0)/\nv l 0=nA l/\nv l 1=nB l/\nv l 2=nC l:=by
 have t:∀m:List UInt8,2<=m.length->gH m 0 2=(m.take 2,m.drop 2,0):=λm hm=>by
  unfold gH;rw[if_neg (by simp),if_neg (by omega)]
 have h1:nx l 1=(l.drop 2,0):=by rw[nx,nx,t l (by omega)]
 have h2:nx l 2=(l.drop 4,0):=by rw[nx,h1,t _ (by rw[a1L];omega),a3V]
 have h3:nx l 3=(l.drop 6,0):=by rw[nx,h2,t _ (by rw[a1L];omega),a3V]
 refine⟨h1,h2,h3, ?_, ?_, ?_⟩
 .unfold nv nA;rw[nx,t l (by omega)]
 .unfold nv nB;rw[h1,t _ (by rw[a1L];omega)]
 .unfold nv nC;rw[h2,t _ (by rw[a1L];omega)]
theorem aRl(h:l.length<6):(nx l 3).2=10:=by
 have e:∀(m:List UInt8),gH m 10 2=([],m,10):=λm=>rfl;have t:∀m:List UInt8,2<=m.length->gH m 0 2=(m.take 2,m.drop 2,0):=λm hm=>by
  unfold gH;rw[if_neg (by simp),if_neg (by omega)]
 have b:∀m:List UInt8,m.length<2->gH m 0 2=([],m,10):=λm hm=>by
  unfold gH;rw[if_neg (by simp),if_pos hm]
 rcases a1Y l.length 2 with h1|h1
 .rw [nx,nx,nx,nx,b l h1]<;>rfl
 .rcases a1Y l.length 4 with h2|h2
  .rw [nx,nx,nx,nx,t l h1];simp only;rw[b _ (by rw[a1L];omega)]<;>rfl
  .rw [nx,nx,nx,nx,t l h1];simp only;rw[t _ (by rw[a1L];omega)];simp only;rw[b _ (by rw[a1L,a1L];omega)]
theorem aDZ{e:Int}:cG (gH l e 2).1<65536:=by
 have h:∀m:List UInt8,m.length<=2->cG m<65536:=λm hm=>by
  match m,hm with
  |[],_=>decide
  |[a],_=>have:=a2D a;simp[cG];omega
  |[a,b],_=>have:=a2D a;have:=a2D b;simp[cG];omega
 apply h;unfold gH;split
 .simp
 .split
  .simp
  .simp only[a1N];omega
end Go.Proofs.YthohephggmkeeaaGreatDoor

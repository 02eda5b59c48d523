/- Parts of the proof of DecodeBytes: merged and given short names by a program of ours. -/
import Derived.Deep.Matrix
import Derived.Test.YthohephggmkeeaaGreatDoorZpE
set_option linter.unusedVariables false
set_option linter.unusedSimpArgs false
open Bool renaming not_true → a3P, not_false → a4Z
open Int renaming toNat_natCast → a1H, tmod_eq_emod_of_nonneg → a2B
open List renaming getElem?_cons_zero → a1A, getElem?_cons_succ → a1B, take_succ_cons → a1C, set_cons_succ → a1D, set_cons_zero → a1E, drop_zero → a1F, take_zero → a1G, length_drop → a1L, length_map → a1M, length_take → a1N, length_append → a1O, take_of_length_le → a1T, length_replicate → a2C, length_eq_zero_iff → a2K, mem_of_getElem? → a3E, map_drop → a3M, drop_of_length_le → a3N, drop_drop → a3V
open Nat renaming le_refl → a1J, pow_le_pow_right → a1K, pow_succ → a2O, min_eq_left → a2T, mod_eq_of_lt → a3B, le_trans → a3K, and_two_pow_sub_one_eq_mod → a4O
namespace Go.Proofs.YthohephggmkeeaaGreatDoor
open Go Go.En Go.Pu
set_option maxRecDepth 4000
variable{A O:Nat->Prop}{RR:a7C->a7B->Prop}{a:Nat->Option Addr}{all l l':List UInt8}{b:ByteArray}{base f hi lo n p ph pr room win:Nat}{e log most:Int}{g g':GS}{h:FH}{mm:Except Int (List UInt8×Nat×Nat)}{v va vo:a7C}{w w0:a7B}
def XN(L:List UInt8):Nat:=(XXH L).toNat
theorem aAy(a b:Int):0<=apS .u64 a b/\apS .u64 a b<2^64:=by
 unfold apS;have h:(BitVec.ofInt IntKind.u64.bits a^^^BitVec.ofInt IntKind.u64.bits b).toNat<2^64:=BitVec.isLt _;rw[eL (by omega) (by omega)];omega
theorem aUf(L:List UInt8):XN L<2^64:=by
 have:=aAy;unfold XN XXH aLh;simp only[];generalize IntKind.u64.wrap (apS .u64 (IntKind.u64.wrap _) _*1609587929392839161)=y;have:=aAy y (y.fdiv (2^min (32:Int).toNat IntKind.u64.bits));omega
theorem aUg(L:List UInt8):XXH L=(XN L:Int):=by
 have:0<=XXH L:=by
  unfold XXH aLh;exact(aAy _ _).1
 unfold XN;omega
theorem aXq{x:Nat}(h:x<2^64):yK .u64 (x:Int) 4294967295=((x%2^32:Nat):Int):=by
 unfold yK;have e:IntKind.u64.bits=64:=rfl;have e2:(4294967295:Int)=((2^32-1:Nat):Int):=by decide
 rw[e2,e,BitVec.ofInt_natCast,BitVec.ofInt_natCast,BitVec.toNat_and,BitVec.toNat_ofNat,BitVec.toNat_ofNat,a3B h,a3B (by omega),a4O];exact eL (by omega) (by omega)
def aK8 (l all:List UInt8):Except Int (List UInt8):=if l.length<4 then .error 10 else if cG (l.take 4)≠XN all%2^32 then .error 13 else .ok (l.drop 4)
def aXw(lo hi pr:Nat)(w:a7B)(r:a7C)(w':a7B):Except Int (List UInt8)->Prop
 | .error e=>e≠0/\r= .int .i64 e/\aE w w' (λy=>y=pr)
 | .ok l=>r= .int .i64 0/\Is w' lo hi pr l 0/\aE w w' (λy=>y=pr)
theorem aOo{cs:List a7C}(o:aT w p cs)(k0:cs[0]?=some (.pointer (some ⟨pr,0,none⟩)))(hr:Is w lo hi pr l 0)(ha:Bs w va all)(hv:¬VH va (λy=>y=pr))(hl:l.length<=1000000)(hall:all.length<=2000000):
 aL pg qC #[.pointer (some ⟨p,0,none⟩),va] w (λr w'=>aXw lo hi pr w r w' (aK8 l all)):=by
 refine R2 ?_;unfold LB EO;refine(arA (n:=4) o k0 hr hl (by omega)).mono ?_;unfold aK8;rintro r w1 (⟨h1,rfl,h2⟩|⟨h1,v,rfl,hb1,hat,hr1,x1⟩)
 .rw [h2];clear h2 w1;have n1:((10:Int) !=0)=true:=rfl;rw[if_pos h1];simp(disch:=omega)only[SV,n1];exact⟨by decide,rfl,aE.refl _ _⟩
 rw[if_neg (by omega)];have n1:((0:Int) !=0)=false:=rfl;simp(disch:=omega)only[SV,n1];refine(rN hb1 (by rw[a1N];omega)).mono ?_;rintro r w2 ⟨p2,rfl,hr2,x2⟩;have z1:=x1.size;have hz:=hr.lt;refine(jV (n:=4) hr2 (by rw[a1N];omega) ⟨by omega,by omega⟩).mono ?_;rintro r w3 ⟨rfl,hr3,x3⟩;have ht:gH (l.take 4) 0 4=(l.take 4,[],0):=by
  unfold gH;rw[if_neg (by decide),if_neg (by rw[a1N];omega),a1T (by rw[a1N];omega),a3N (by rw[a1N];omega)]
 rw[ht];have h2:w1.heap.size<=p2:=hr2.1;have x13:aE w1 w3 aP:=x2.trans x3 λy hy h=>by omega
 refine(aWo all (by omega) va w3 ((ha.ext x1 hv).ext x13 (aR _))).mono ?_;rintro r w4 ⟨rfl,x4⟩;rw[aUg];have a32:=aXq (aUf all);obtain⟨q,hq⟩:∃q,q=cG (l.take 4):=⟨_,rfl⟩;rw[<-hq];obtain⟨q2,hq2⟩:∃q,q=XN all%2^32:=⟨_,rfl⟩;rw[<-hq2]at a32⊢;by_cases he:q=q2
 .have n2:((q:Int) !=(q2:Int))=false:=by rw[he];simp
  rw[if_neg (by simpa using he)];simp(disch:=omega)only[SV,a32,n2];exact⟨rfl,(hr1.ext x13 λ_ _ _ h=>h).ext x4 λ_ _ _ h=>h,(x1.trans x13 λ_ _ h=>h.elim).trans x4 λ_ _ h=>h.elim⟩
 .have n2:((q:Int) !=(q2:Int))=true:=by simp;omega
  rw[if_pos he];simp(disch:=omega)only[SV,a32,n2];exact⟨by decide,rfl,(x1.trans x13 λ_ _ h=>h.elim).trans x4 λ_ _ h=>h.elim⟩
def WV(h:FH)(l all:List UInt8):Except Int (List UInt8×List UInt8):=
 if h.known=true/\all.length≠h.size then .error 11 else if h.sum=true then(match aK8 l all with| .error e=> .error e| .ok l'=> .ok (all,l'))else .ok (all,l)
structure DM where
 l:List UInt8
 win:Nat
 most:Nat
 out:List UInt8
 fr:Nat
 sk:Nat
variable{dm m:DM}
def tH(pr:Nat)(vo:a7C)(m:DM):List a7C:=[.pointer (some ⟨pr,0,none⟩),.int .u64 (m.win:Nat),.int .i64 (m.most:Nat),vo,.int .i64 (m.fr:Nat),.int .i64 (m.sk:Nat)]
def DSt(w:a7B)(base p:Nat)(m:DM):Prop:=
 ∃pr vo lo hi,∃O:Nat->Prop,aT w p (tH pr vo m)/\Is w lo hi pr m.l 0/\BR w O 1 vo m.out.length (m.out.map kH)/\base<=p/\base<=lo/\(∀b,O b->base<=b/\b≠p/\¬(lo<=b/\b<hi))/\¬(lo<=p/\p<hi)/\hi<=w.heap.size
theorem aTB{S M:Nat->Prop}{l:List a7C}(h:BR w S 1 v n l)(hM:∀b,S b->¬M b):¬VH v M:=by
 rcases h.2 with⟨rfl,rfl⟩|⟨b,c,rest,rfl,h2,_⟩
 .exact λh=>h
 .have:=hM b h2;cases n<;>simp_all[VH]
def aLi(base p:Nat)(w:a7B)(dm:DM)(r:a7C)(w':a7B):Except Int (List UInt8×List UInt8)->Prop
 | .error e=>e≠0/\r= .int .i64 e/\aE w w' (λy=>base<=y)
 | .ok (all,l)=>r= .int .i64 0/\DSt w' base p ⟨l,dm.win,dm.most,dm.out++all,dm.fr+1,dm.sk⟩/\aE w w' (λy=>base<=y)
theorem aFW
 (o:aT w p (tH pr vo m)) (hr:Is w lo hi pr m.l 0) (oo:BR w O 1 vo m.out.length (m.out.map kH)) (hp:base<=p) (hlo:base<=lo) (hO:∀b,O b->base<=b/\b≠p/\¬(lo<=b/\b<hi)) (q1:¬(lo<=p/\p<hi)) (hhi:hi<=w.heap.size)
 (ha:Bs w va all) (h1:m.out.length<=2000000) (h2:all.length<=2000000) (h3:m.fr<=2000000)
 (hk:∀w',DSt w' base p ⟨m.l,m.win,m.most,m.out++all,m.fr+1,m.sk⟩->aE w w' (λy=>base<=y)->RR (.int .i64 0) w'):
 iE RR (.pointer (some ⟨p,0,none⟩)) va w:=by
 unfold iE;have hz:=o.lt;have c3:=o.cell (off:=3);simp only[tH,a1A,a1B]at c3;simp(disch:=omega)only[SV,c3];refine apB (S:=λb=>O b∨w.heap.size<=b) (OA oo λb h _=> .inl h) ha (λb h=> .inr h) (by omega) λv' w1 o1 x1=> ?_;have hp1:¬(O p∨w.heap.size<=p):=by
  rintro(h|h)
  .exact (hO p h).2.1 rfl
  .omega
 have o2:=o.ext x1 hp1;obtain⟨a',c',hv'⟩:=o1.len
 try simp(disch:=omega)only[SV]
 refine JH (off:=3) o2 (by rw[hv']<;>rfl) (by simp[tH]) λw3 o3 x3 s3=> ?_;simp only[tH,a1E,a1D]at o3;have c4:=o3.cell (off:=4);simp only[a1A,a1B]at c4;have e4:(m.fr:Int)+1=((m.fr+1:Nat):Int):=by omega
 have w4:IntKind.i64.wrap ((m.fr+1:Nat):Int)=((m.fr+1:Nat):Int):=dM (by omega) (by omega);simp(disch:=omega)only[SV,c4,e4,w4];refine eZ (off:=4) o3 rfl (by simp) λw5 o5 x5 s5=> ?_;simp only[a1E,a1D]at o5;have x35:=x3.seq x5;have zz1:=x1.size;have zz3:=x35.size;have x05:aE w w5 (λy=>O y∨w.heap.size<=y∨y=p):=(x1.mono λy _ h=>h.elim .inl λh=> .inr (.inl h)).seq (x35.mono λy _ h=> .inr (.inr h));refine hk w5 ⟨pr,v',lo,hi,λb=>(O b∨w.heap.size<=b),o5, ?_,o1.ext x35 ?_,hp,hlo, ?_,q1,by omega⟩ (x05.mono ?_)
 .refine hr.ext x05 λb h1 h2 h=> ?_;rcases h with h|h|h
  .exact (hO b h).2.2 ⟨h1,h2⟩
  .omega
  .exact q1 (h▸⟨h1,h2⟩)
 .intro b h e;exact hp1 (e▸h)
 .rintro b (h|h)
  .exact hO b h
  .exact ⟨by omega,by omega,by omega⟩
 .rintro y hy (h|h|h)
  .exact (hO y h).1
  .omega
  .omega
theorem aOm
 (hdm:dm.win=m.win/\dm.most=m.most/\dm.out=m.out/\dm.fr=m.fr/\dm.sk=m.sk) (hx:aE w0 w (λy=>base<=y))
 (o:aT w p (tH pr vo m)) (hr:Is w lo hi pr m.l 0) (oo:BR w O 1 vo m.out.length (m.out.map kH)) (hp:base<=p) (hlo:base<=lo) (hO:∀b,O b->base<=b/\b≠p/\¬(lo<=b/\b<hi)) (q1:¬(lo<=p/\p<hi)) (hhi:hi<=w.heap.size)
 (oh:aT w ph (rZ h)) (ha:BR w A 1 va all.length (all.map kH)) (hA:∀b,A b->¬(lo<=b/\b<hi)) (h1:m.out.length<=2000000) (h2:all.length<=2000000) (h3:m.fr<=2000000) (hl:m.l.length<=1000000) (hsz:h.size<2^64):
 kW (λr w'=>aLi base p w0 dm r w' (WV h m.l all)) (.pointer (some ⟨p,0,none⟩)) (.pointer (some ⟨ph,0,none⟩)) va w:=by
 obtain⟨RR,hRR⟩:∃RR:a7C->a7B->Prop,RR=λr w'=>aLi base p w0 dm r w' (WV h m.l all):=⟨_,rfl⟩;rw[<-hRR];unfold kW G8;have c2:=oh.cell (off:=2);have c1:=oh.cell (off:=1);have c3:=oh.cell (off:=3);simp only[rZ,a1A,a1B]at c1 c2 c3;obtain⟨a',c',hva⟩:=ha.len;have hb:Bs w va all:=aHA ha;have wl:IntKind.u64.wrap (all.length:Int)=all.length:=eL (by omega) (by omega);have hpr:lo<=pr/\pr<hi:=⟨hr.1,hr.2.1⟩;have hnp:¬VH va (λy=>y=pr):=aTB ha λb hb e=>hA b hb (e▸hpr);have fin:¬(h.known=true/\all.length≠h.size)->JJ (.bool h.sum) (aL pg qC #[.pointer (some ⟨p,0,none⟩),va] w λt105 w=>bF pg (bZ .neq 24 (.tmp 106) (.const (.int .i64 0)) t105 (.int .i64 0)) w λt107 w=>JJ t107 (RR t105 w) (iE RR (.pointer (some ⟨p,0,none⟩)) va w)) (iE RR (.pointer (some ⟨p,0,none⟩)) va w):=by
  intro hn;cases hs:h.sum with
  |false=>
   simp(disch:=omega)only[SV];refine aFW o hr oo hp hlo hO q1 hhi hb h1 h2 h3 λw' hd x=> ?_;rw[hRR];unfold WV;rw[if_neg hn,if_neg (by rw[hs];simp)];refine⟨rfl, ?_,hx.seq x⟩;rw[hdm.1,hdm.2.1,hdm.2.2.1,hdm.2.2.2.1,hdm.2.2.2.2];exact hd
  |true=>
   simp(disch:=omega)only[SV];refine(aOo o (by rfl) hr hb hnp hl h2).mono ?_;intro r w1 hs1;have hdt:WV h m.l all=match aK8 m.l all with| .error e=> .error e| .ok l'=> .ok (all,l'):=by
    unfold WV;rw[if_neg hn,if_pos hs]
    try rfl
   cases hd:aK8 m.l all with
   |error e=>
    rw[hd]at hs1;obtain⟨he,rfl,x1⟩:=hs1;have n1:(e !=0)=true:=by simp[he]
    simp(disch:=omega)only[SV,n1];rw[hRR,hdt,hd];exact⟨he,rfl,hx.seq (x1.mono λy _ h=>by omega)⟩
   |ok l'=>
    rw[hd]at hs1;obtain⟨rfl,hr1,x1⟩:=hs1;have n1:((0:Int) !=0)=false:=rfl;simp(disch:=omega)only[SV,n1];have z1:=x1.size;refine aFW (m:=⟨l',m.win,m.most,m.out,m.fr,m.sk⟩) (o.ext x1 λe=>q1 (e▸hpr)) hr1 (oo.ext x1 λb hb e=>(hO b hb).2.2 (e▸hpr)) hp hlo hO q1 (by omega) (hb.ext x1 hnp) h1 h2 h3 λw' hd' x=> ?_;rw[hRR,hdt,hd];refine⟨rfl, ?_,hx.seq ((x1.mono λy _ h=>by omega).seq x)⟩;rw[hdm.1,hdm.2.1,hdm.2.2.1,hdm.2.2.2.1,hdm.2.2.2.2];exact hd'
 cases hkn:h.known with
 |false=>
  rw[hkn]at c2;have:=fin (by rw[hkn];simp);subst hva;simp(disch:=omega)only[SV,c2,c3];exact this
 |true=>
  rw[hkn]at c2;subst hva;by_cases he:all.length=h.size
  .have n1:((all.length:Int) !=(h.size:Int))=false:=by rw[he];simp
   have:=fin (by simp[he]);simp(disch:=omega)only[SV,c2,c3,c1,wl,n1];exact this
  .have n1:((all.length:Int) !=(h.size:Int))=true:=by simp;omega
   simp(disch:=omega)only[SV,c2,c3,c1,wl,n1];rw[hRR];unfold WV;rw[if_pos ⟨hkn,he⟩];exact⟨by decide,rfl,hx⟩
def Qm(h:FH)(room:Nat):Nat->List UInt8->List UInt8->GS->Except Int (List UInt8×List UInt8)
 |0,_,_,_=> .error 11
 |f+1,l,all,g=>match aC6 l all g h.window room with
  | .error e=> .error e
  | .ok (a,l',b,g')=>if h.known=true/\h.size<a.length then .error 11 else if b then .ok (a,l')else Qm h room f l' a g'
def aTa(h:FH):Except Int (List UInt8×List UInt8)->Except Int (List UInt8×List UInt8)
 | .error e=> .error e
 | .ok (a,l')=>WV h l' a
theorem aQr(h:aC6 l all g win room= .error e):e≠0:=by
 unfold aC6 at h
 repeat' split at h
 all_goals first|(cases h;decide)|cases h|skip
 all_goals rename_i h1
 all_goals exact aNI h1
theorem aGT{a:List UInt8}{b:Bool}(hg:YI g)(h:aC6 l all g win room= .ok (a,l',b,g')):a.length<=room/\l'.length<l.length/\YI g':=by
 unfold aC6 at h;split at h
 .cases h
 split at h
 .cases h
 split at h
 .cases h
 split at h
 .cases h
 split at h
 .split at h
  .cases h
  .rename_i hp;split at h
   .cases h
   .cases h;refine⟨by omega, ?_,(aLK hg hp).1⟩;rw[a1L];omega
 .split at h
  .cases h
  .cases h;refine⟨?_, ?_,hg⟩
   .rw [a1O];omega
   .rw [a1L];omega
theorem aVv{x:Option Addr}{c:Nat}:∀(i:Nat) u,(gC (.slice x n c) a g)[i]?≠some (.int .u8 u):=by
 intro i u h;have:=a3E h;simp[gC]at this
theorem GAt.pq {w':a7B}{gc:List a7C}{x:Option Addr}{c:Nat}(h:GAt w A gc g)(o:aT w p (gC (.slice x n c) a g'))(e:aE w w' (λy=>y=p)):GAt w' A gc g:=
 h.other o (by simp[gC]) aVv e
theorem aLb{pq aB:Nat}{gc:List a7C}{mm:Except Int (List UInt8×List UInt8)}
 (hGw:∀w1,aE w0 w1 (λy=>base<=y)->tY w1) (hdm:dm.win=m.win/\dm.most=m.most/\dm.out=m.out/\dm.fr=m.fr/\dm.sk=m.sk) (hx:aE w0 w (λy=>base<=y))
 (o:aT w p (tH pr vo m)) (hr:Is w lo hi pr m.l 0) (oo:BR w O 1 vo m.out.length (m.out.map kH)) (hp:base<=p) (hlo:base<=lo) (hO:∀b,O b->base<=b/\b≠p/\¬(lo<=b/\b<hi)/\b<aB) (hpq:base<=pq/\pq≠p/\pq≠ph/\¬O pq) (q1:¬(lo<=p/\p<hi)) (q2:¬(lo<=ph/\ph<hi)) (q3:¬(lo<=pq/\pq<hi)) (hb:p<aB/\ph<aB/\pq<aB/\hi<=aB/\base<=aB/\aB<=w.heap.size)
 (oh:aT w ph (rZ h)) (og:aT w pq gc) (hG:GAt w (λb=>aB<=b) gc g) (hg:YI g) (ha:BR w (λb=>aB<=b) 1 va all.length (all.map kH)) (h1:m.out.length<=m.most) (h2:all.length<=2000000) (h3:m.fr<=2000000) (hmost:m.most<=2000000) (hl:m.l.length<=100000) (hsz:h.size<2^64) (hwin:h.window<18446744073709551616) (hf:m.l.length<f)
 (hm:Qm h (m.most-m.out.length) f m.l all g=mm):
 kX (λr w'=>aLi base p w0 dm r w' (aTa h mm)) (.pointer (some ⟨p,0,none⟩)) (.pointer (some ⟨ph,0,none⟩)) (.pointer (some ⟨pq,0,none⟩)) va w:=by
 obtain⟨RR,hRR⟩:∃RR:a7C->a7B->Prop,RR=λr w'=>aLi base p w0 dm r w' (aTa h mm):=⟨_,rfl⟩;rw[<-hRR];unfold kX qE;refine aN.rule (λf (va:a7C) w1=>∃all l g gc,∃A:Nat->Prop,Qm h (m.most-m.out.length) f l all g=mm/\l.length<f/\aE w w1 (λy=>aB<=y∨y=pr∨y=pq)/\Is w1 lo hi pr l 0/\BR w1 A 1 va all.length (all.map kH)/\(∀b,A b->aB<=b)/\(∀b,w1.heap.size<=b->A b)/\aT w1 pq gc/\GAt w1 A gc g/\YI g/\all.length<=2000000/\l.length<=100000) f
  ⟨all,m.l,g,gc,_,hm,hf,aE.refl _ _,hr,ha,λb h=>h,λb h=>by omega,og,hG,hg,h2,hl⟩ ?_
 clear hm ha og hl h2 hr hG hg hf;rintro f va w1 ⟨all,l,g,gc,A,hm,hf,x1,hr,ha,hA,hAn,og,hG,hg,h2,hl⟩;have hpr:lo<=pr/\pr<hi:=⟨hr.1,hr.2.1⟩;have z1:=x1.size;have hnp:¬(aB<=p∨p=pr∨p=pq):=by omega
 have hnh:¬(aB<=ph∨ph=pr∨ph=pq):=by omega
 have hnO:∀b,O b->¬(aB<=b∨b=pr∨b=pq):=by
  rintro b hb (h|h|h)
  .have:=(hO b hb).2.2.2;omega
  .exact (hO b hb).2.2.1 (h▸hpr)
  .exact hpq.2.2.2 (h▸hb)
 have o1:=o.ext x1 hnp;have oh1:=oh.ext x1 hnh;have oo1:=oo.ext x1 hnO;cases f with
 |zero=>omega
 |succ f=>
  rw[Qm]at hm;unfold G9;obtain⟨wv,a,rfl,hbw,hnw,ht,ha'⟩:=id hG;obtain⟨wa,wc,rfl,hwc⟩:=hbw.len;rw[a1M]at hbw;have lg:(cK 83 (.pointer (some ⟨pq,0,none⟩))).run pg w1= .ok (.value (.agg (gC _ a g).toArray)) w1:=Az (off:=0) og (by simp[gC]);have c0:=oh1.cell (off:=0);have c1:=oh1.cell (off:=1);have c2:=oh1.cell (off:=2);simp only[rZ,a1A,a1B]at c0 c1 c2;simp(disch:=omega)only[SV,lg,c0];have xb:∀{w'},aE w1 w' (λy=>A y∨y=pr)->aE w0 w' (λy=>base<=y):=λx=>(hx.seq (x1.mono λy _ h=>by omega)).seq (x.mono λy _ h=>by
   rcases h with h|h
   .have:=hA y h;omega
   .omega)
  refine(aQt (n:=m.out.length) (most:=m.most) o1 rfl rfl rfl oo1.len hr ha (λb h=>⟨by have:=hA b h;omega,by have:=hA b h;omega⟩) hAn (by omega) q1 h1 (by omega) h2 hmost (λw2 x=>hGw w2 (xb (x.mono λ_ _ h=> .inr h))) hg hG hwin (λh=>by omega) rfl).mono ?_;intro r w2 hb2;cases hmb:aC6 l all g h.window (m.most-m.out.length)with
  |error e=>
   have he:=aQr hmb;rw[hmb]at hm hb2;subst hm;obtain⟨rfl,x2⟩:=hb2;have n1:(e !=0)=true:=by simp[he]
   unfold gZv;simp(disch:=omega)only[SV,n1];have og2:=og.ext x2 (λh=>by rcases h with h|h<;>(try have:=hA _ h)<;>omega);refine cI og2 rfl (by simp[one]) (by simp[gC]) λw3 o3 x3 s3=> ?_
   try simp(disch:=omega)only[SV,n1]
   rw[hRR];exact⟨he,rfl,(xb x2).seq (x3.mono λy _ h=>by omega)⟩
  |ok t=>
   obtain⟨a1,l',b,g'⟩:=t;rw[hmb]at hm hb2;obtain⟨v,gc',A',rfl,hA',o2,hG2,hAn2,hr2,x2⟩:=hb2;have hlen:=aGT hg hmb;have n1:((0:Int) !=0)=false:=rfl;have z2:=x2.size;have og2:=og.ext x2 (λh=>by rcases h with h|h<;>(try have:=hA _ h)<;>omega);obtain⟨av,cv,hv⟩:=o2.len;obtain⟨wv',a',rfl,hbw',hnw',ht',ha''⟩:=id hG2;obtain⟨wa',wc',rfl,hwc'⟩:=hbw'.len;subst hv;simp(disch:=omega)only[SV,n1];refine cI og2 (by simp[gC]) (by simp[gC,one]) (by simp[gC]) λw3 o3 x3 s3=> ?_;have o3:aT w3 pq (gC (.slice wa' (g'.w.map kH).length wc') a' g'):=o3;have x13:aE w w3 (λy=>aB<=y∨y=pr∨y=pq):=(x1.seq (x2.mono λy _ h=>by
    rcases h with h|h
    .exact .inl (hA y h)
    .exact .inr (.inl h))).seq (x3.mono λy _ h=>by omega)
   have oh3:=oh.ext x13 hnh;have d0:=oh3.cell (off:=0);have d1:=oh3.cell (off:=1);have d2:=oh3.cell (off:=2);simp only[rZ,a1A,a1B]at d0 d1 d2;have o3':=o.ext x13 hnp;have z3:=x3.size;have hr3:=hr2.ext x3 (λb h1 h2 h=>by omega);have o2':=o2.ext x3 (λb h1 h=>by have:=hA b (hA' b h1);omega);have hG3:=hG2.pq og2 x3;have wl:IntKind.u64.wrap (a1.length:Int)=a1.length:=eL (by omega) (by omega);have go:¬(h.known=true/\h.size<a1.length)->JJ (.bool b) (kW RR (.pointer (some ⟨p,0,none⟩)) (.pointer (some ⟨ph,0,none⟩)) (.slice av a1.length cv) w3) (∃m_1,m_1<f+1/\∃all l g gc,∃A:Nat->Prop,Qm h (m.most-m.out.length) m_1 l all g=mm/\l.length<m_1/\aE w w3 (λy=>aB<=y∨y=pr∨y=pq)/\Is w3 lo hi pr l 0/\BR w3 A 1 (.slice av a1.length cv) all.length (all.map kH)/\(∀b,A b->aB<=b)/\(∀b,w3.heap.size<=b->A b)/\aT w3 pq gc/\GAt w3 A gc g/\YI g/\all.length<=2000000/\l.length<=100000):=by
    intro hn;simp only[if_neg hn]at hm;cases b with
    |true=>
     subst hm;simp(disch:=omega)only[SV];rw[hRR];exact aOm (m:=⟨l',m.win,m.most,m.out,m.fr,m.sk⟩) hdm (hx.seq (x13.mono λy _ h=>by omega)) o3' hr3 (oo.ext x13 hnO) hp hlo (λb hb=>⟨(hO b hb).1,(hO b hb).2.1,(hO b hb).2.2.1⟩) q1 (by omega) oh3 o2' (λb h=>by have:=hA b (hA' b h);omega) (show m.out.length<=2000000 by omega) (by omega) h3 (show l'.length<=1000000 by omega) hsz
    |false=>
     simp(disch:=omega)only[SV];exact⟨f,by omega,a1,l',g',_,A',hm,by omega,x13,hr3,o2',λb h=>hA b (hA' b h),λb h=>hAn2 b (by omega),o3,hG3,hlen.2.2,by omega,by omega⟩
   cases hkn:h.known with
   |false=>
    rw[hkn]at d2;have:=go (by rw[hkn];simp);simp(disch:=omega)only[SV,n1,d2];exact this
   |true=>
    rw[hkn]at d2;by_cases hlt:h.size<a1.length
    .have g1:decide ((a1.length:Int)>(h.size:Int))=true:=decide_eq_true (by omega);have g2:decide ((h.size:Int)<(a1.length:Int))=true:=decide_eq_true (by omega);simp only[if_pos (⟨hkn,hlt⟩:h.known=true/\h.size<a1.length)]at hm;subst hm;simp(disch:=omega)only[SV,n1,d2,d1,wl,g1,g2];rw[hRR];exact⟨by decide,rfl,hx.seq (x13.mono λy _ h=>by omega)⟩
    .have g1:decide ((a1.length:Int)>(h.size:Int))=false:=decide_eq_false (by omega);have g2:decide ((h.size:Int)<(a1.length:Int))=false:=decide_eq_false (by omega);have:=go (by simp[hlt]);simp(disch:=omega)only[SV,n1,d2,d1,wl,g1,g2];exact this
def aDq(l:List UInt8)(win room:Nat):Except Int (List UInt8×List UInt8):=
 match QD l with
 | .error e=> .error e
 | .ok (h,n)=>if win<h.window∨(h.known=true/\room<h.size)then .error 12 else aTa h (Qm h room (l.length+1) (l.drop n) [] ⟨[],λ_=>(0,[]),⟨1,4,8⟩⟩)
theorem aQJ{L dict:Nat}{s:List UInt8×Int}(hh:ZP L s dict h= .error e):e≠0:=by
 unfold ZP at hh;split at hh
 .cases hh;assumption
 .split at hh
  .cases hh;decide
  .cases hh
theorem aFZ(h:QD l= .error e):e≠0:=by
 unfold QD at h;split at h
 .cases h;assumption
 .split at h
  .cases h;decide
  .exact aQJ h
theorem aVX(s:List UInt8×Int)(n:Nat)(hn:n<=8):opV s n<2^64:=by
 unfold opV;split
 .have:=VO s n;have h2:256^n<=256^8:=a1K (by omega) hn;have h3:(256:Nat)^8=2^64:=by decide
  omega
 .decide
theorem aVu(s:List UInt8×Int)(d:Nat)(hd:d<256):fSz d (opV s (R3 d))<2^64:=by
 have h4:d/64=0∨d/64=1∨d/64=2∨d/64=3:=by omega
 have h8:R3 d<=8:=by
  unfold R3;rcases h4 with h|h|h|h<;>rw[h]<;>simp;split<;>omega
 have:=aVX s (R3 d) h8;unfold fSz;split
 .rename_i h2;rw[h2]at this⊢;have h5:opV s 2<65536:=by
   unfold opV;rw[if_pos (by omega)];exact VO s 2
  omega
 .exact this
theorem aIT(hh:QD l= .ok (h,n)):h.size<2^64/\n<=l.length:=by
 unfold QD at hh;split at hh
 .cases hh
 .split at hh
  .cases hh
  .unfold aAQ ZP at hh;split at hh
   .cases hh
   .split at hh
    .cases hh
    .cases hh;have hd:nvS (l,0) 1<256:=VO (l,0) 1;exact⟨aVu _ _ hd,by omega⟩
theorem aTi:aL pg BP #[] w (λr w'=>r= .agg #[.int .u32 1,.int .u32 4,.int .u32 8]/\aE w w' aP):=by
 refine amP ?_;unfold aiF TN;refine iN λw1 o1 x1 s1=> ?_
 try simp(disch:=omega)only[SV]
 refine dC o1 rfl (by simp[one]) (by simp) λw2 o2 x2 s2=> ?_;refine jE o2 (by simp[aF]) ?_;exact⟨rfl,x1.new x2 (by omega)⟩
theorem aYX:GAt w A gL ⟨[],λ_=>(0,[]),⟨1,4,8⟩⟩:=
 ⟨DJ,λ_=>none,rfl,Sl.nil w,λh=>h,λk hk=>MK.nil w 0,λk ad _ h=>by cases h⟩
theorem aOn{mm:Except Int (List UInt8×List UInt8)}(hGw:∀w1,aE w w1 (λy=>base<=y)->tY w1)(hwn:dm.win<18446744073709551616)(hd:DSt w base p dm)(h1:dm.out.length<=dm.most)(h3:dm.fr<=2000000)(hmost:dm.most<=2000000)(hl:dm.l.length<=100000)
 (hm:aDq dm.l dm.win (dm.most-dm.out.length)=mm):
 aL pg yS #[.pointer (some ⟨p,0,none⟩)] w (λr w'=>aLi base p w dm r w' mm):=by
 refine TK ?_;unfold Ns EN EM wQ Ha;obtain⟨RR,hRR⟩:∃RR:a7C->a7B->Prop,RR=λr w'=>aLi base p w dm r w' mm:=⟨_,rfl⟩;rw[<-hRR];obtain⟨pr,vo,lo,hi,O,o,hr,oo,hp,hlo,hO,q1,hhi⟩:=hd;have hpr:lo<=pr/\pr<hi:=⟨hr.1,hr.2.1⟩;have hzp:=o.lt;have hO1:BR w (λb=>O b/\b<w.heap.size) 1 vo dm.out.length (dm.out.map kH):=OA oo λb h h2=>⟨h,h2⟩;have xd:=aE.dr w aP;have zd:=xd.size;have c0:=(aH o).cell (off:=0);simp only[tH,a1A]at c0;simp(disch:=omega)only[SV,c0];refine(EJ (hr.ext xd (λ_ _ _ h=>h))).mono ?_;rintro r w1 ⟨rfl,hw1⟩;rw[hw1];clear hw1 w1;have o:=aH o;have hr:=hr.ext xd (λ_ _ _ h=>h);have hO1:=hO1.ext xd (λ_ _ h=>h);obtain⟨wd,hwd⟩:∃x,x=dr w:=⟨_,rfl⟩;rw[<-hwd]at o hr hO1 xd zd c0⊢;simp(disch:=omega)only[SV,c0];refine(Mn hr (by omega) (by omega)).mono ?_;rintro rest w1 ⟨hb1,hat,hr1,x1⟩;have ht:gH dm.l 0 dm.l.length=(dm.l,[],0):=by
  unfold gH;rw[if_neg (by decide),if_neg (by omega),a1T (by omega),a3N (by omega)]
 rw[ht]at hb1 hr1;have hb1:Bs w1 rest dm.l:=hb1;clear hr1;have o1:=o.ext x1 (λe=>q1 (e▸hpr));have oo1:BR w1 (λb=>O b/\b<w.heap.size) 1 vo dm.out.length (dm.out.map kH):=hO1.ext x1 λb h e=>(hO b h.1).2.2 (e▸hpr);have z1:=x1.size;refine(aIV hb1 (by omega)).mono ?_;rintro r w2 ⟨rfl,x2⟩;unfold aDq at hm;have z2:=x2.size;cases hf:QD dm.l with
 |error e=>
  have he:=aFZ hf;rw[hf]at hm;subst hm;have n1:(e !=0)=true:=by simp[he]
  unfold fRV fhV;simp(disch:=omega)only[SV];refine BS λw3 o3 x3 s3=> ?_;refine jL o3 rfl (by simp[one]) (by simp) λw4 o4 x4 s4=> ?_;simp(disch:=omega)only[SV,n1];rw[hRR];have x24:aE w2 w4 aP:=x3.new x4 (by omega);exact⟨he,rfl,(((xd.mono λ_ _ h=>h.elim).seq (x1.mono λy _ h=>by omega)).seq ((x2.seq x24).mono λ_ _ h=>h.elim))⟩
 |ok t=>
  obtain⟨h,n⟩:=t;have hok:=aIT hf;rw[hf]at hm;have n1:((0:Int) !=0)=false:=rfl;unfold fRV fhV;simp(disch:=omega)only[SV];refine BS λw3 o3 x3 s3=> ?_;obtain⟨ph,hph⟩:∃p,p=w2.heap.size:=⟨_,rfl⟩;rw[<-hph]at o3⊢;refine jL o3 rfl (by simp[one]) (by simp) λw4 o4 x4 s4=> ?_;simp only[aF,a1E,a1D]at o4;have oh4:aT w4 ph (rZ h):=o4;have x24:aE w2 w4 aP:=x3.new x4 (by omega);have x14:aE w1 w4 aP:=x2.seq x24;have hz3:=o4.lt;obtain⟨va,vc,hrest,hvc⟩:=hb1.len;rw[a1M]at hrest hvc;subst hrest;have hb4:=hb1.ext x14 (aR _);have t0:(n:Int).toNat=n:=a1H _;have hbd:Bs w4 (.slice (dI va vc n 1) (dm.l.length-n) (vc-n)) (dm.l.drop n):=by
   have:=hb4.drop' (k:=n) (by omega)
   rwa [<-a3M]at this
  simp(disch:=omega)only[SV,n1,t0];refine(rN hbd (by rw[a1L];omega)).mono ?_;rintro r w5 ⟨p5,rfl,hr5,x5⟩;have z4:=x14.size;have z5:=x5.size;have o5:=(o1.ext x14 (λh=>h)).ext x5 (λh=>h);refine apL (off:=0) o5 rfl (by simp[tH]) λw6 o6 x6 s6=> ?_;simp only[tH,a1E]at o6;have x46:aE w4 w6 (λy=>y=p):=(x5.mono λ_ _ h=>h.elim).seq x6;have x06:aE w w6 (λy=>base<=y):=((((xd.mono λ_ _ h=>h.elim).seq (x1.mono λy _ h=>by omega)).seq (x14.mono λ_ _ h=>h.elim)).seq (x46.mono λy _ h=>by omega));have hphp:ph≠p:=by omega
  have oh6:=oh4.ext x46 hphp;have oo6:=(oo1.ext x14 λ_ _ h=>h).ext x46 λb h e=>(hO b h.1).2.1 e;have h5lo:w4.heap.size<=p5/\p5<w5.heap.size:=⟨hr5.1,hr5.2.1⟩;have hr6:=hr5.ext x6 (λb h1 h2 h=>by omega);have ch0:=oh6.cell (off:=0);have ch1:=oh6.cell (off:=1);have ch2:=oh6.cell (off:=2);have eh0:=(aH oh6).cell (off:=0);have eh1:=(aH oh6).cell (off:=1);have eh2:=(aH oh6).cell (off:=2);simp only[rZ,a1A,a1B]at ch0 ch1 ch2 eh0 eh1 eh2;have co1:=o6.cell (off:=1);have co2:=o6.cell (off:=2);have co3:=o6.cell (off:=3);have eo1:=(aH o6).cell (off:=1);have eo2:=(aH o6).cell (off:=2);have eo3:=(aH o6).cell (off:=3);simp only[a1A,a1B]at co1 co2 co3 eo1 eo2 eo3;obtain⟨av,cv,hvo⟩:=oo6.len;subst hvo;have e9:(dm.most:Int)-(dm.out.length:Int)=((dm.most-dm.out.length:Nat):Int):=by omega
  have w9:IntKind.u64.wrap ((dm.most-dm.out.length:Nat):Int)=((dm.most-dm.out.length:Nat):Int):=eL (by omega) (by omega);by_cases hbig:dm.win<h.window∨(h.known=true/\dm.most-dm.out.length<h.size)
  .simp only[if_pos hbig]at hm;subst hm;have fin:RR (.int .i64 12) (dr w6):=by rw[hRR];exact⟨by decide,rfl,x06.seq (aE.dr w6 _)⟩
   by_cases hw:dm.win<h.window
   .have d1:decide ((h.window:Int)>(dm.win:Int))=true:=decide_eq_true (by omega);have d2:decide ((dm.win:Int)<(h.window:Int))=true:=decide_eq_true (by omega);have iu:isB undef true=false:=rfl;simp(disch:=omega)only[SV,ch0,ch1,ch2,eh0,eh1,eh2,co1,co2,co3,eo1,eo2,eo3,d1,d2,iu];exact fin
   .have hks:=hbig.resolve_left hw;have d1:decide ((h.window:Int)>(dm.win:Int))=false:=decide_eq_false (by omega);have d2:decide ((dm.win:Int)<(h.window:Int))=false:=decide_eq_false (by omega);have d3:decide ((h.size:Int)>((dm.most-dm.out.length:Nat):Int))=true:=decide_eq_true (by omega);have d4:decide (((dm.most-dm.out.length:Nat):Int)<(h.size:Int))=true:=decide_eq_true (by omega);rw[hks.1]at ch2 eh2;simp(disch:=omega)only[SV,ch0,ch1,ch2,eh0,eh1,eh2,co1,co2,co3,eo1,eo2,eo3,d1,d2,d3,d4,e9,w9];exact fin
  .simp only[if_neg hbig]at hm;have hw:¬dm.win<h.window:=λh=>hbig (.inl h);have d1:decide ((h.window:Int)>(dm.win:Int))=false:=decide_eq_false (by omega);have d2:decide ((dm.win:Int)<(h.window:Int))=false:=decide_eq_false (by omega);subst hm;obtain⟨K,hK⟩:∃K:a7B->Prop,K=λw=>aL pg BP #[] w λt64 w=>bF pg (dK 83 [(2,t64)]) w λt65 w=>bF pg (Gc 83) w λg_7 w=>bF pg (dL 83 g_7 t65) w λ_u w=>kX RR (.pointer (some ⟨p,0,none⟩)) (.pointer (some ⟨ph,0,none⟩)) g_7 DJ w:=⟨_,rfl⟩;have main:K (dr w6):=by
    rw[hK];refine aTi.mono ?_;rintro r w7 ⟨rfl,x7⟩;simp(disch:=omega)only[SV];refine JW λw8 o8 x8 s8=> ?_;obtain⟨pq,hpq⟩:∃q,q=w7.heap.size:=⟨_,rfl⟩;rw[<-hpq]at o8⊢;refine cI o8 rfl (by simp[one]) (by simp) λw9 o9 x9 s9=> ?_;simp only[aF,a1E,a1D]at o9;have x69:aE w6 w9 aP:=(((aE.dr w6 aP).seq x7).seq x8).trans x9 λy hy h=>by
     have:=(aE.dr w6 aP).size;have:=x7.size;omega
    have zz:w6.heap.size<=w7.heap.size:=by
     have:=(aE.dr w6 aP).size;have:=x7.size;omega
    have z6:=x6.size;rw[hRR];have hz8:=o8.lt;refine aLb (aB:=w9.heap.size) (m:=⟨dm.l.drop n,dm.win,dm.most,dm.out,dm.fr,dm.sk⟩) hGw ⟨rfl,rfl,rfl,rfl,rfl⟩ (x06.seq (x69.mono λ_ _ h=>h.elim)) (o6.ext x69 (λh=>h)) (hr6.ext x69 λ_ _ _ h=>h) (oo6.ext x69 λ_ _ h=>h) hp (by omega) (λb hb=>⟨(hO b hb.1).1,(hO b hb.1).2.1,by omega,by omega⟩) ⟨by omega,by omega,by omega,λh=>by omega⟩ (by omega) (by omega) (by omega) (by omega) (oh6.ext x69 (λh=>h)) o9 aYX ⟨by decide,λk _ h=>absurd rfl h,by decide,by decide,by decide⟩ ?_ h1 (by simp) h3 hmost (by show(dm.l.drop n).length<=_;rw[a1L];omega) hok.1 (by omega) (by show(dm.l.drop n).length<_;rw[a1L];omega) rfl;exact⟨rfl,.inl ⟨rfl,rfl⟩⟩
   rw[hK]at main;unfold DJ at main;cases hkn:h.known with
   |false=>
    rw[hkn]at ch2 eh2;simp(disch:=omega)only[SV,ch0,ch1,ch2,eh0,eh1,eh2,co1,co2,co3,eo1,eo2,eo3,d1,d2];exact main
   |true=>
    rw[hkn]at ch2 eh2;have hns:¬dm.most-dm.out.length<h.size:=λh'=>hbig (.inr ⟨hkn,h'⟩);have d3:decide ((h.size:Int)>((dm.most-dm.out.length:Nat):Int))=false:=decide_eq_false (by omega);have d4:decide (((dm.most-dm.out.length:Nat):Int)<(h.size:Int))=false:=decide_eq_false (by omega);simp(disch:=omega)only[SV,ch0,ch1,ch2,eh0,eh1,eh2,co1,co2,co3,eo1,eo2,eo3,d1,d2,d3,d4,e9,w9];exact main
def aPG(r:a7C):Except Int (List UInt8×List UInt8)->Prop
 | .error e=>e≠0/\∃x,r= .tuple #[.string x,.string ⟨#[]⟩,.int .i64 e]
 | .ok (a,l)=>∃x y,r= .tuple #[.string x,.string y,.int .i64 0]/\aM x=l/\aM y=a
theorem aOW{xa xw:ByteArray}{c:Nat->Nat}{pq:Nat}
 (oh:aT w ph (rZ h)) (og:aT w pq (gR xa xw a c g)) (h1:xa.size<=2000000) (hsz:h.size<2^64)
 (hk:∀r w',aPG r (WV h (aM b) (aM xa))->aE w w' aP->RR r w'):
 Mj RR (.string b) (.pointer (some ⟨ph,0,none⟩)) (.pointer (some ⟨pq,0,none⟩)) w:=by
 unfold Mj avW;have hla:=aI xa;have hlb:=aI b;have c1:=oh.cell (off:=1);have c2:=oh.cell (off:=2);have c3:=oh.cell (off:=3);have g0:=og.cell (off:=0);have g1:=(aH og).cell (off:=0);simp only[rZ,gR,a1A,a1B]at c1 c2 c3 g0 g1;have wl:IntKind.u64.wrap (xa.size:Int)=(xa.size:Int):=eL (by omega) (by omega);have p1:∀{w':a7B} {x:ByteArray},aE w w' aP->aPG (.tuple #[.string x,.string xa,.int .i64 0]) (WV h (aM b) (aM xa))->AH RR (.string x) (.pointer (some ⟨pq,0,none⟩)) w':=by
  intro w' x xx ho;unfold AH;have f0:=(aH (og.ext xx λh=>h)).cell (off:=0);simp only[gR,a1A]at f0;simp(disch:=omega)only[SV,f0];exact hk _ _ ho (xx.seq (aE.dr w' aP))
 unfold WV at hk p1
 have fin:¬(h.known=true/\(aM xa).length≠h.size)->JJ (.bool h.sum) (bF pg (dK 40 [(0,.string b)]) w λt103 w=>
     aL pg pL #[t103,(.int .i64 4)] w λt104 w=>
     bF pg (Ge t104 0) w λt105 w=>
     bF pg (Ge t104 1) w λt106 w=>
     bF pg (Gc 40) w λaTG w=>
     bF pg (dL 40 aTG t105) w λ_u w=>
     bF pg (pZ 40 aTG 1) w λt107 w=>
     bF pg (cK 24 t107) w λt108 w=>
     bF pg (bZ .neq 24 (.tmp 108) (.const (.int .i64 0)) t108 (.int .i64 0)) w λt109 w=>
     JJ t109
      ((dr w)=(dr w)/\
      bF pg (pZ 40 aTG 1) (dr w) λt111 w_=>w_=(dr w)/\
      bF pg (cK 24 t111) (dr w) λt112 w_=>w_=(dr w)/\
      (dr w)=(dr w)/\
      (dr w)=(dr w)/\
      (dr w)=(dr w)/\
      RR (.tuple #[.string b,(.string ⟨#[]⟩),t112]) (dr w))
      (bF pg (pZ 62 (.pointer (some ⟨pq,0,none⟩)) 0) w λt114 w=>
      bF pg (cK 9 t114) w λt115 w=>
      aL pg U2 #[t115] w λt116 w=>
      bF pg (bZ .rem 36 iB iB t116 (.int .u64 4294967296)) w λt117 w=>
      bF pg (bZ .neq 36 (.tmp 113) (.tmp 117) t106 t117) w λt118 w=>
      JJ t118
       (RR (.tuple #[.string b,(.string ⟨#[]⟩),(.int .i64 13)]) w)
       (bF pg (pZ 40 aTG 0) w λt120 w=>
       bF pg (cK 9 t120) w λt121 w=>
       AH RR t121 (.pointer (some ⟨pq,0,none⟩)) w)))
     (AH RR (.string b) (.pointer (some ⟨pq,0,none⟩)) w):=by
  intro hn;rw[if_neg hn]at hk p1;cases hs:h.sum with
  |false=>
   rw[hs,if_neg (by decide)]at p1;simp(disch:=omega)only[SV];exact p1 (aE.refl _ _) ⟨_,_,rfl,rfl,rfl⟩
  |true=>
   rw[hs,if_pos rfl]at hk p1;unfold aK8 at hk p1;simp(disch:=omega)only[SV];refine adQ (x:=b) (e:=0) (s:=(aM b,0)) (n:=4) rfl ⟨by omega,by omega⟩ ?_;rintro r w1 ⟨x',e',rfl,hnx,hsz'⟩ x1;simp(disch:=omega)only[SV];refine bD λw2 o2 x2 s2=> ?_;refine aS o2 rfl (by simp[one]) (by simp) λw3 o3 x3 s3=> ?_;have o3:aT w3 w1.heap.size [.string x',.int .i64 e']:=o3;have x03:aE w w3 aP:=x1.seq (x2.new x3 (a1J _));have k1:=o3.cell (off:=1);have k0:=o3.cell (off:=0);have j1:=(aH o3).cell (off:=1);have f0:=(og.ext x03 λh=>h).cell (off:=0);simp only[gR,a1A,a1B]at k1 k0 j1 f0;unfold nxS at hnx;by_cases h4:(aM b).length<4
   .have ht:gH (aM b) 0 4=([],aM b,10):=by unfold gH;rw[if_neg (by decide),if_pos h4]
    rw[ht]at hnx;obtain rfl:e'=10:=by injection hnx with h1 h2;exact h2.symm
    have n1:((10:Int) !=0)=true:=rfl;rw[if_pos h4]at hk;simp(disch:=omega)only[SV,k1,n1,j1];exact hk _ _ ⟨by decide,_,rfl⟩ (x03.seq (aE.dr w3 aP))
   rw[if_neg h4]at hk p1;have ht:gH (aM b) 0 4=((aM b).take 4,(aM b).drop 4,0):=by unfold gH;rw[if_neg (by decide),if_neg h4]
   rw[ht]at hnx;obtain⟨hx',rfl⟩:aM x'=(aM b).drop 4/\e'=0:=by injection hnx with h1 h2;exact⟨h1.symm,h2.symm⟩
   have n1:((0:Int) !=0)=false:=rfl;have hnv:nvS (aM b,0) 4=cG ((aM b).take 4):=by unfold nvS;rw[ht]
   rw[hnv];simp(disch:=omega)only[SV,k1,n1,f0];refine(aXP xa (by omega) w3).mono ?_;rintro r w4 ⟨rfl,x4⟩;rw[aUg];have hX:=aUf (aM xa);have em:((XN (aM xa):Nat):Int).tmod 4294967296=((XN (aM xa)%2^32:Nat):Int):=by rw[a2B (by omega)];omega
   obtain⟨X,hX'⟩:∃X,X=XN (aM xa)%2^32:=⟨_,rfl⟩;rw[<-hX']at em hk p1;obtain⟨N,hN⟩:∃N,N=cG ((aM b).take 4):=⟨_,rfl⟩;rw[<-hN]at hk p1⊢;have k0':=(o3.ext x4 λh=>h).cell (off:=0);simp only[a1A]at k0';by_cases he:N=X
   .have n2:((N:Int) !=(X:Int))=false:=by rw[he];simp
    rw[if_neg (by simpa using he)]at p1;simp(disch:=omega)only[SV,em,n2,k0'];exact p1 (x03.seq x4) ⟨_,_,rfl,hx',rfl⟩
   .have n2:((N:Int) !=(X:Int))=true:=by simp;omega
    rw[if_pos he]at hk;simp(disch:=omega)only[SV,em,n2];exact hk _ _ ⟨by decide,_,rfl⟩ (x03.seq x4)
 cases hkn:h.known with
 |false=>
  rw[hkn]at c2;have:=fin (by rw[hkn];simp)
  revert this
  simp(disch:=omega)only[SV,c2,c3]<;>exactλh=>h
 |true=>
  rw[hkn]at c2;by_cases he:(aM xa).length=h.size
  .have n1:((xa.size:Int) !=(h.size:Int))=false:=by rw[<-he,hla];simp
   have:=fin (by simp[he])
   revert this
   simp(disch:=omega)only[SV,c2,c3,c1,g0,wl,n1]<;>exactλh=>h
  .have n1:((xa.size:Int) !=(h.size:Int))=true:=by simp;omega
   rw[if_pos ⟨hkn,he⟩]at hk;simp(disch:=omega)only[SV,c2,c3,c1,g0,wl,n1];exact hk _ _ ⟨by decide,_,rfl⟩ (aE.refl _ _)
def aK7 (l:List UInt8):Except Int (List UInt8):=if l.length<4 then .error 10 else if l.length-4<cG (l.take 4)then .error 10 else .ok (l.drop (4+cG (l.take 4)))
def aXY(base p:Nat)(w:a7B)(dm:DM)(r:a7C)(w':a7B):Except Int (List UInt8)->Prop
 | .error e=>e≠0/\r= .int .i64 e/\aE w w' (λy=>base<=y)
 | .ok l=>r= .int .i64 0/\DSt w' base p ⟨l,dm.win,dm.most,dm.out,dm.fr,dm.sk+1⟩/\aE w w' (λy=>base<=y)
theorem aTf(hd:DSt w base p dm)(h3:dm.sk<=2000000)(hl:dm.l.length<=1000000):
 aL pg A8 #[.pointer (some ⟨p,0,none⟩)] w (λr w'=>aXY base p w dm r w' (aK7 dm.l)):=by
 refine Vx ?_;unfold Qx Jk;obtain⟨pr,vo,lo,hi,O,o,hr,oo,hp,hlo,hO,q1,hhi⟩:=hd;have hpr:lo<=pr/\pr<hi:=⟨hr.1,hr.2.1⟩;have c0:=o.cell (off:=0);simp only[tH,a1A]at c0;simp(disch:=omega)only[SV,c0];refine(jV (n:=4) hr (by omega) ⟨by omega,by omega⟩).mono ?_;rintro r w1 ⟨rfl,hr1,x1⟩;have o1:=o.ext x1 (λe=>q1 (e▸hpr));have oo1:=oo.ext x1 λb h e=>(hO b h).2.2 (e▸hpr);have c1:=o1.cell (off:=0);simp only[tH,a1A]at c1;simp(disch:=omega)only[SV,c1];refine(qD hr1).mono ?_;rintro r w2 ⟨rfl,h2⟩;rw[h2];clear h2 w2;unfold aK7;by_cases h4:dm.l.length<4
 .have ht:gH dm.l 0 4=([],dm.l,10):=by unfold gH;rw[if_neg (by decide),if_pos h4]
  rw[ht,if_pos h4];have n1:((10:Int) !=0)=true:=rfl;simp(disch:=omega)only[SV,n1];exact⟨by decide,rfl,x1.mono λy _ h=>by omega⟩
 have ht:gH dm.l 0 4=(dm.l.take 4,dm.l.drop 4,0):=by unfold gH;rw[if_neg (by decide),if_neg h4]
 rw[ht]at hr1⊢;rw[if_neg h4];have hlt:cG (dm.l.take 4)<2^32:=by
  have:=AE (dm.l.take 4);rw[a1N,a2T (by omega)]at this;exact this
 obtain⟨n,hn⟩:∃n,n=cG (dm.l.take 4):=⟨_,rfl⟩;have en:cG (dm.l.take 4,dm.l.drop 4,(0:Int)).1=n:=hn.symm;rw[<-hn]at hlt⊢;have hr1:Is w1 lo hi pr (dm.l.drop 4) 0:=hr1;have hl4:(dm.l.drop 4).length=dm.l.length-4:=a1L;have n1:((0:Int) !=0)=false:=rfl;have wl:IntKind.u64.wrap ((dm.l.drop 4).length:Int)=((dm.l.drop 4).length:Int):=eL (by omega) (by omega);have wn:IntKind.i64.wrap (n:Int)=n:=dM (by omega) (by omega);simp(disch:=omega)only[SV,n1,en,c1];refine(EJ hr1).mono ?_;rintro r w2 ⟨rfl,h2⟩;rw[h2];clear h2 w2;by_cases hs:dm.l.length-4<n
 .have d1:decide ((n:Int)>((dm.l.drop 4).length:Int))=true:=decide_eq_true (by omega);have d2:decide (((dm.l.drop 4).length:Int)<(n:Int))=true:=decide_eq_true (by omega);rw[if_pos hs];simp(disch:=omega)only[SV,wl,d1,d2];exact⟨by decide,rfl,x1.mono λy _ h=>by omega⟩
 have d1:decide ((n:Int)>((dm.l.drop 4).length:Int))=false:=decide_eq_false (by omega);have d2:decide (((dm.l.drop 4).length:Int)<(n:Int))=false:=decide_eq_false (by omega);rw[if_neg hs];simp(disch:=omega)only[SV,wl,d1,d2,c1,wn];refine(Mn hr1 (by omega) (by omega)).mono ?_;rintro rest w3 ⟨hb3,hat,hr3,x3⟩;have ht3:gH (dm.l.drop 4) 0 n=((dm.l.drop 4).take n,dm.l.drop (4+n),0):=by unfold gH;rw[if_neg (by decide),if_neg (by omega),a3V]
 rw[ht3]at hr3;have hr3:Is w3 lo hi pr (dm.l.drop (4+n)) 0:=hr3;have o3:=o1.ext x3 (λe=>q1 (e▸hpr));have oo3:=oo1.ext x3 λb h e=>(hO b h).2.2 (e▸hpr);have c5:=o3.cell (off:=5);simp only[tH,a1A,a1B]at c5;have e5:(dm.sk:Int)+1=((dm.sk+1:Nat):Int):=by omega
 have w5:IntKind.i64.wrap ((dm.sk+1:Nat):Int)=((dm.sk+1:Nat):Int):=dM (by omega) (by omega);simp(disch:=omega)only[SV,c5,e5,w5];refine eZ (off:=5) o3 rfl (by simp[tH]) λw6 o6 x6 s6=> ?_;simp only[tH,a1E,a1D]at o6;have z1:=x1.size;have z3:=x3.size;have z6:=x6.size;refine⟨rfl,⟨pr,vo,lo,hi,O,o6,hr3.ext x6 (λb h1 h2 h=>q1 (h▸⟨h1,h2⟩)),oo3.ext x6 (λb h e=>(hO b h).2.1 e),hp,hlo,hO,q1,by omega⟩,((x1.mono λy _ h=>by omega).seq (x3.mono λy _ h=>by omega)).seq (x6.mono λy _ h=>by omega)⟩
def aGR(win most:Nat):Nat->List UInt8->List UInt8->Nat->Nat->Except Int (List UInt8×Nat×Nat)
 |0,_,_,_,_=> .error 11
 |f+1,l,out,fr,sk=>if l.length=0 then .ok (out,fr,sk)else if l.length<4 then .error 10
  else if cG (l.take 4)=4247762216 then(match aDq (l.drop 4) win (most-out.length)with| .error e=> .error e| .ok (a,l')=>aGR win most f l' (out++a) (fr+1) sk)
  else if 407710288<=cG (l.take 4)/\cG (l.take 4)<407710304 then(match aK7 (l.drop 4)with| .error e=> .error e| .ok l'=>aGR win most f l' out fr (sk+1))
  else .error 11
theorem aIG:∀{f:Nat} {l all a l':List UInt8} {g:GS},YI g->Qm h room f l all g= .ok (a,l')->a.length<=room/\l'.length<=l.length
 |0,_,_,_,_,_,_,hh=>by cases hh
 |f+1,l,all,a,l',g,hg,hh=>by
  rw[Qm]at hh;cases hd:aC6 l all g h.window room with
  |error e=>rw[hd]at hh;cases hh
  |ok t=>
   obtain⟨a1,l1,b,g1⟩:=t;rw[hd]at hh;have h1:=aGT hg hd;simp only at hh;split at hh
   .cases hh
   .split at hh
    .cases hh;exact⟨h1.1,by omega⟩
    .have:=aIG h1.2.2 hh;exact⟨this.1,by omega⟩
theorem aQQ:YI ⟨[],λ_=>(0,[]),⟨1,4,8⟩⟩:=⟨by decide,λk _ h=>absurd rfl h,by decide,by decide,by decide⟩
theorem aNt{a:List UInt8}(hh:aDq l win room= .ok (a,l')):a.length<=room/\l'.length<=l.length:=by
 unfold aDq at hh;cases hf:QD l with
 |error e=>rw[hf]at hh;cases hh
 |ok t=>
  obtain⟨h,n⟩:=t;rw[hf]at hh;simp only at hh;split at hh
  .cases hh
  .cases hb:Qm h room (l.length+1) (l.drop n) [] ⟨[],λ_=>(0,[]),⟨1,4,8⟩⟩with
   |error e=>rw[hb]at hh;cases hh
   |ok t=>
    obtain⟨a1,l1⟩:=t;rw[hb]at hh;have h1:=aIG aQQ hb;rw[a1L]at h1;have hh:WV h l1 a1= .ok (a,l'):=hh;unfold WV aK8 at hh
    repeat' split at hh
    all_goals first|cases hh|skip
    all_goals rename_i hq
    all_goals first|(repeat' split at hq)|skip
    all_goals first|cases hq|skip
    all_goals(try rw[a1L])
    all_goals omega
def aVa(base p:Nat)(w:a7B)(win most:Nat)(r:a7C)(w':a7B):Except Int (List UInt8×Nat×Nat)->Prop
 | .error e=>e≠0/\r= .tuple #[.pointer none,.int .i64 e]/\aE w w' (λy=>base<=y)
 | .ok (out,fr,sk)=>r= .tuple #[.pointer (some ⟨p,0,none⟩),.int .i64 0]/\(∃l,DSt w' base p ⟨l,win,most,out,fr,sk⟩)/\aE w w' (λy=>base<=y)
theorem aQB{most:Nat}(hGw:∀w1,aE w0 w1 (λy=>base<=y)->tY w1)(hwn:win<18446744073709551616)(hx:aE w0 w (λy=>base<=y))(hd:DSt w base p ⟨l,win,most,[],0,0⟩)(hf:f<=2000000)(hl:l.length<=100000)(hf2:l.length<f)(hmost:most<=2000000)(hm:aGR win most f l [] 0 0=mm)(hR:∀r w',aVa base p w0 win most r w' mm->RR r w'):
 EL RR (.pointer (some ⟨p,0,none⟩)) w:=by
 unfold EL Iu;refine aN.rule (λf (t:Unit) w1=>∃l out fr sk,aGR win most f l out fr sk=mm/\l.length<f/\DSt w1 base p ⟨l,win,most,out,fr,sk⟩/\aE w0 w1 (λy=>base<=y)/\out.length<=most/\fr+f<=2000000/\sk+f<=2000000/\l.length<=100000) f
  ⟨l,[],0,0,hm,hf2,hd,hx,by simp,by omega,by omega,hl⟩ ?_
 clear hm hd hx hl hf hf2;rintro f t w ⟨l,out,fr,sk,hm,hf2,hd,hx,hout,hfr,hsk,hl⟩;cases f with
 |zero=>omega
 |succ f=>
  rw[aGR]at hm;unfold aiD aiC;have hd0:=hd;obtain⟨pr,vo,lo,hi,O,o,hr,oo,hp,hlo,hO,q1,hhi⟩:=hd;have hpr:lo<=pr/\pr<hi:=⟨hr.1,hr.2.1⟩;have c0:=o.cell (off:=0);simp only[tH,a1A]at c0;simp(disch:=omega)only[SV,c0];refine(EJ hr).mono ?_;rintro r w1 ⟨rfl,h2⟩;rw[h2];clear h2 w1;by_cases h0:l.length=0
  .rw [if_pos h0]at hm;subst hm;have d1:decide ((l.length:Int)>0)=false:=decide_eq_false (by omega);have d2:decide ((0:Int)<(l.length:Int))=false:=decide_eq_false (by omega);simp(disch:=omega)only[SV,d1,d2];unfold RY;refine hR _ _ ?_;exact⟨rfl,⟨l,hd0⟩,hx⟩
  rw[if_neg h0]at hm;have d1:decide ((l.length:Int)>0)=true:=decide_eq_true (by omega);have d2:decide ((0:Int)<(l.length:Int))=true:=decide_eq_true (by omega);simp(disch:=omega)only[SV,d1,d2];unfold RZ aiB;simp(disch:=omega)only[SV,c0];refine(jV (n:=4) hr (by show l.length<=_;omega) ⟨by omega,by omega⟩).mono ?_;rintro r w1 ⟨rfl,hr1,x1⟩;have o1:=o.ext x1 (λe=>q1 (e▸hpr));have oo1:=oo.ext x1 λb h e=>(hO b h).2.2 (e▸hpr);have z1:=x1.size;have hx1:aE w0 w1 (λy=>base<=y):=hx.seq (x1.mono λy _ h=>by omega);have c1:=o1.cell (off:=0);simp only[tH,a1A]at c1;simp(disch:=omega)only[SV,c1];refine(qD hr1).mono ?_;rintro r w2 ⟨rfl,h2⟩;rw[h2];clear h2 w2;by_cases h4:l.length<4
  .have ht:gH l 0 4=([],l,10):=by unfold gH;rw[if_neg (by decide),if_pos h4]
   rw[if_pos h4]at hm;subst hm;have hr1:Is w1 lo hi pr (gH l 0 4).2.1 (gH l 0 4).2.2:=hr1;have hl':(DM.mk l win most out fr sk).l=l:=rfl;rw[hl',ht];rw[ht]at hr1;have n1:((10:Int) !=0)=true:=rfl;simp(disch:=omega)only[SV,n1,c1];refine(qD hr1).mono ?_;rintro r w2 ⟨rfl,h2⟩;rw[h2];clear h2 w2;refine hR _ _ ?_;exact⟨by decide,rfl,hx1⟩
  rw[if_neg h4]at hm;have ht:gH l 0 4=(l.take 4,l.drop 4,0):=by unfold gH;rw[if_neg (by decide),if_neg h4]
  have hr1:Is w1 lo hi pr (gH l 0 4).2.1 (gH l 0 4).2.2:=hr1;have hl':(DM.mk l win most out fr sk).l=l:=rfl;rw[hl',ht];rw[ht]at hr1;have hr1:Is w1 lo hi pr (l.drop 4) 0:=hr1;have hd1:DSt w1 base p ⟨l.drop 4,win,most,out,fr,sk⟩:=⟨pr,vo,lo,hi,O,o1,hr1,oo1,hp,hlo,hO,q1,by omega⟩;have hl4:(l.drop 4).length=l.length-4:=a1L;obtain⟨n,hn⟩:∃n,n=cG (l.take 4):=⟨_,rfl⟩;have en:cG (l.take 4,l.drop 4,(0:Int)).1=n:=hn.symm;rw[<-hn]at hm;have n0:((0:Int) !=0)=false:=rfl;by_cases hmg:n=4247762216
  .have g1:((n:Int)==4247762216)=true:=by rw[hmg]<;>rfl
   rw[if_pos hmg]at hm;simp(disch:=omega)only[SV,en,n0,g1];refine(aOn (λw2 x=>hGw w2 (hx1.seq x)) hwn hd1 hout (show fr<=2000000 by omega) hmost (by show(l.drop 4).length<=_;omega) rfl).mono ?_;intro r w2 hq;unfold Br;have hq:aLi base p w1 ⟨l.drop 4,win,most,out,fr,sk⟩ r w2 (aDq (l.drop 4) win (most-out.length)):=hq;cases hmb:aDq (l.drop 4) win (most-out.length)with
   |error e=>
    rw[hmb]at hq hm;obtain⟨he,rfl,x2⟩:=hq;subst hm;have n1:(e !=0)=true:=by simp[he]
    simp(disch:=omega)only[SV,n1];refine hR _ _ ?_;exact⟨he,rfl,hx1.seq x2⟩
   |ok t=>
    obtain⟨a,l'⟩:=t;rw[hmb]at hq hm;obtain⟨rfl,hd2,x2⟩:=hq;have hok:=aNt hmb;simp(disch:=omega)only[SV,n0];exact⟨f,by omega,l',out++a,fr+1,sk,hm,by omega,hd2,hx1.seq x2,by rw[a1O];omega,by omega,by omega,by omega⟩
  have g1:((n:Int)==4247762216)=false:=by simp;omega
  rw[if_neg hmg]at hm;by_cases hs:407710288<=n/\n<407710304
  .have g2:decide ((n:Int)≥407710288)=true:=decide_eq_true (by omega);have g3:decide ((407710288:Int)<=(n:Int))=true:=decide_eq_true (by omega);have g4:decide ((n:Int)<407710304)=true:=decide_eq_true (by omega);rw[if_pos hs]at hm;simp(disch:=omega)only[SV,en,n0,g1,g2,g3,g4];refine(aTf hd1 (show sk<=2000000 by omega) (by show(l.drop 4).length<=_;omega)).mono ?_;intro r w2 hq;unfold Br;have hq:aXY base p w1 ⟨l.drop 4,win,most,out,fr,sk⟩ r w2 (aK7 (l.drop 4)):=hq;cases hk:aK7 (l.drop 4)with
   |error e=>
    rw[hk]at hq hm;obtain⟨he,rfl,x2⟩:=hq;subst hm;have n1:(e !=0)=true:=by simp[he]
    simp(disch:=omega)only[SV,n1];refine hR _ _ ?_;exact⟨he,rfl,hx1.seq x2⟩
   |ok l'=>
    rw[hk]at hq hm;obtain⟨rfl,hd2,x2⟩:=hq;have hle:l'.length<=(l.drop 4).length:=by
     unfold aK7 at hk
     repeat' split at hk
     all_goals first|cases hk|skip
     rw[a1L];omega
    simp(disch:=omega)only[SV,n0];exact⟨f,by omega,l',out,fr,sk+1,hm,by omega,hd2,hx1.seq x2,hout,by omega,by omega,by omega⟩
  .rw [if_neg hs]at hm;subst hm;have n1:((11:Int) !=0)=true:=rfl;unfold Br;by_cases h1:407710288<=n
   .have g2:decide ((n:Int)≥407710288)=true:=decide_eq_true (by omega);have g3:decide ((407710288:Int)<=(n:Int))=true:=decide_eq_true (by omega);have g4:decide ((n:Int)<407710304)=false:=decide_eq_false (by omega);simp(disch:=omega)only[SV,en,n0,g1,g2,g3,g4,n1];refine hR _ _ ?_;exact⟨by decide,rfl,hx1⟩
   .have g2:decide ((n:Int)≥407710288)=false:=decide_eq_false (by omega);have g3:decide ((407710288:Int)<=(n:Int))=false:=decide_eq_false (by omega);simp(disch:=omega)only[SV,en,n0,g1,g2,g3,n1];refine hR _ _ ?_;exact⟨by decide,rfl,hx1⟩
theorem aQs{a:List UInt8}{b:Bool}(hg:YI g)(h:aGU l all g win= .ok (a,l',b,g')):a.length<=all.length+131072:=by
 unfold aGU at h;split at h
 .cases h
 split at h
 .cases h
 split at h
 .cases h
 split at h
 .cases h
 split at h
 .split at h
  .cases h
  .rename_i hp;cases h;have:=(aLK hg hp).2.2;omega
 .cases h;rw[a1O];have:(aC7 l).length<=oM l:=by
   unfold aC7;split
   .rw [a2C];omega
   .rw [a1N];omega
  omega
theorem aOX{xa xw:ByteArray}{c:Nat->Nat}{pq most made:Nat}{mm:Except Int (List UInt8×List UInt8)}
 (oh:aT w ph (rZ h)) (og:aT w pq (gR xa xw a c g)) (hne:ph≠pq) (hT:Rb3 w g.t a c) (hw:aM xw=g.w) (hg:YI g) (hb:b.size<=10000) (h1:xa.size<=2000000) (hsz:h.size<2^64) (hwin:h.window<18446744073709551616) (hmost:most<=2000000) (hmade:made<=most)
 (hf:(aM b).length<f) (hm:Qm h (most-made) f (aM b) (aM xa) g=mm) (hk:∀r w',aPG r (aTa h mm)->aE w w' (λy=>y=pq)->RR r w'):
 F4 RR (.string b) (.int .i64 (most:Nat)) (.int .i64 (made:Nat)) (.pointer (some ⟨ph,0,none⟩)) (.pointer (some ⟨pq,0,none⟩)) (.bool false) w:=by
 unfold F4 Mk;refine aN.rule (λn (t:a7C×a7C) w'=>∃x xa xw a c g last,t=(.string x,.bool last)/\aE w w' (λy=>y=pq)/\aT w' pq (gR xa xw a c g)/\Rb3 w' g.t a c/\aM xw=g.w/\YI g/\x.size<=10000/\xa.size<=2000000/\
  (last=false/\(aM x).length<n/\Qm h (most-made) n (aM x) (aM xa) g=mm∨last=true/\mm= .ok (aM xa,aM x))) f
  ⟨b,xa,xw,a,c,g,false,rfl,aE.refl _ _,og,hT,hw,hg,hb,h1,.inl ⟨rfl,hf,hm⟩⟩ ?_
 clear hm hf hT hw hg hb h1 og;rintro n t w1 ⟨x,xa,xw,a,c,g,last,rfl,x1,og,hT,hw,hg,hb,h1,hl⟩;have oh1:=oh.ext x1 hne;unfold avX;rcases hl with⟨rfl,hf,hm⟩|⟨rfl,rfl⟩;rotate_left
 .simp (disch:=omega)only[SV,a3P];exact aOW oh1 og h1 hsz λr w' ho x'=>hk r w' ho (x1.trans x' λy hy h=>h.elim)
 cases n with
 |zero=>omega
 |succ f=>
 rw[Qm,aQq]at hm;have lg:=aiU og;have c0:=oh1.cell (off:=0);simp only[rZ,a1A]at c0;simp(disch:=omega)only[SV,a4Z,lg,c0];refine(aHI hT hw hg hb h1 hwin).mono ?_;rintro r w2 ⟨hB,x2⟩;have og2:=og.ext x2 λh=>h;have oh2:=oh1.ext x2 λh=>h;have x02:aE w w2 (λy=>y=pq):=x1.trans x2 λy hy h=>h.elim;have hlx:=aI x;cases hN:aGU (aM x) (aM xa) g h.window with
 |error e=>
  rw[hN]at hB hm;subst hm;obtain⟨he,x',xa',xw',a',c',g',rfl⟩:=hB;have n1:(e !=0)=true:=by simp[he]
  simp(disch:=omega)only[SV];refine fO og2 (by simp[gR]) (by simp[gR,one]) (by simp[gR]) λw3 o3 x3 s3=> ?_;simp(disch:=omega)only[SV,n1];exact hk _ _ ⟨he,_,rfl⟩ (x02.seq x3)
 |ok t=>
  obtain⟨all,l',last,g'⟩:=t;rw[hN]at hB hm;obtain⟨x',xa',xw',a',c',rfl,hx',hxa',hxw',hT'⟩:=hB;have n1:((0:Int) !=0)=false:=rfl;have hG:=aQq (aM x) (aM xa) g h.window (made+all.length);rw[hN]at hG;simp only at hG hm;rw[if_neg (by omega)]at hG;obtain⟨_,hlt,hg'⟩:=aGT hg hG;have hla:xa'.size=all.length:=by rw[<-aI,hxa']
  have hlx':x'.size=l'.length:=by rw[<-aI,hx']
  have hbnd:all.length<=4000000:=by have:=aQs hg hN;rw[aI]at this;omega
  simp(disch:=omega)only[SV];refine fO og2 (by simp[gR]) (by simp[gR,one]) (by simp[gR]) λw3 o3 x3 s3=> ?_;have o3:aT w3 pq (gR xa' xw' a' c' g'):=o3;have hT3:Rb3 w3 g'.t a' c':=hT'.own og2 o3 (λu x=>by simp[gR]) x3;have oh3:=oh2.ext x3 hne;have g0:=o3.cell (off:=0);have d2:=oh3.cell (off:=2);have d1:=oh3.cell (off:=1);simp only[gR,rZ,a1A,a1B]at g0 d2 d1;have e1:(made:Int)+(xa'.size:Int)=((made+xa'.size:Nat):Int):=by omega
  have w1':IntKind.i64.wrap ((made+xa'.size:Nat):Int)=((made+xa'.size:Nat):Int):=dM (by omega) (by omega);have wl:IntKind.u64.wrap (xa'.size:Int)=(xa'.size:Int):=eL (by omega) (by omega);have x03:=x02.seq x3;by_cases hroom:most-made<all.length
  .have q1:decide (((made+xa'.size:Nat):Int)>(most:Int))=true:=decide_eq_true (by omega);have q2:decide ((most:Int)<((made+xa'.size:Nat):Int))=true:=decide_eq_true (by omega);rw[if_pos hroom]at hm;subst hm;simp(disch:=omega)only[SV,n1,g0,e1,w1',q1,q2];exact hk _ _ ⟨by decide,_,rfl⟩ x03
  have q1:decide (((made+xa'.size:Nat):Int)>(most:Int))=false:=decide_eq_false (by omega);have q2:decide ((most:Int)<((made+xa'.size:Nat):Int))=false:=decide_eq_false (by omega);rw[if_neg hroom]at hm;simp only at hm
  have go:¬(h.known=true/\h.size<all.length)->∃m,m<f+1/\∃y xa xw a c g aLx,((Value.string x',Value.bool last):a7C×a7C)=(.string y,.bool aLx)/\aE w w3 (λy=>y=pq)/\aT w3 pq (gR xa xw a c g)/\Rb3 w3 g.t a c/\aM xw=g.w/\YI g/\y.size<=10000/\xa.size<=2000000/\
      (aLx=false/\(aM y).length<m/\Qm h (most-made) m (aM y) (aM xa) g=mm∨aLx=true/\mm= .ok (aM xa,aM y)):=by
   intro hn;rw[if_neg hn]at hm;cases last with
   |true=>
    rw[if_pos rfl]at hm;exact⟨0,by omega,x',xa',xw',a',c',g',true,rfl,x03,o3,hT3,hxw',hg',by omega,by omega,.inr ⟨rfl,by rw[<-hm,hx',hxa']⟩⟩
   |false=>
    rw[if_neg (by decide)]at hm;exact⟨f,by omega,x',xa',xw',a',c',g',false,rfl,x03,o3,hT3,hxw',hg',by omega,by omega,.inl ⟨rfl,by rw[hx'];omega,by rw[hx',hxa'];exact hm⟩⟩
  cases hkn:h.known with
  |false=>
   rw[hkn]at d2;have:=go (by rw[hkn];simp);simp(disch:=omega)only[SV,n1,g0,e1,w1',q1,q2,d2];exact this
  |true=>
   rw[hkn]at d2;by_cases hlt:h.size<all.length
   .have g1:decide ((xa'.size:Int)>(h.size:Int))=true:=decide_eq_true (by omega);have g2:decide ((h.size:Int)<(xa'.size:Int))=true:=decide_eq_true (by omega);rw[if_pos ⟨hkn,hlt⟩]at hm;subst hm;simp(disch:=omega)only[SV,n1,g0,e1,w1',q1,q2,d2,d1,wl,g1,g2];exact hk _ _ ⟨by decide,_,rfl⟩ x03
   .have g1:decide ((xa'.size:Int)>(h.size:Int))=false:=decide_eq_false (by omega);have g2:decide ((h.size:Int)<(xa'.size:Int))=false:=decide_eq_false (by omega);have:=go (by simp[hlt]);simp(disch:=omega)only[SV,n1,g0,e1,w1',q1,q2,d2,d1,wl,g1,g2];exact this
theorem gR0 :Rb3 w (λ_=>(0,[])) (λ_=>none) (λ_=>0):=λk hk=> .inl ⟨rfl,rfl⟩
theorem aLS{most made:Nat}(hb:b.size<=10000)(hwn:win<18446744073709551616)(hmost:most<=2000000)(hmade:made<=most):
 aL pg Zj #[.string b,.int .u64 (win:Nat),.int .i64 (most:Nat),.int .i64 (made:Nat)] w (λr w'=>aPG r (aDq (aM b) win (most-made))/\aE w w' aP):=by
 refine aEE ?_;generalize hm:aDq (aM b) win (most-made)=mm;obtain⟨RR,hRR⟩:∃RR:a7C->a7B->Prop,RR=λr w'=>aPG r mm/\aE w w' aP:=⟨_,rfl⟩;rw[<-hRR];have hlb:=aI b;unfold aGt avZ avY;refine(aJU (by omega)).mono ?_;rintro r w1 ⟨rfl,x1⟩;unfold aDq at hm;cases hf:QD (aM b)with
 |error e=>
  have he:=aFZ hf;rw[hf]at hm;subst hm;have n1:(e !=0)=true:=by simp[he]
  unfold fRV fhV;simp(disch:=omega)only[SV];refine rF λw2 o2 x2 s2=> ?_;refine fN o2 rfl (by simp[one]) (by simp) λw3 o3 x3 s3=> ?_;simp(disch:=omega)only[SV,n1];rw[hRR];exact⟨⟨he,_,rfl⟩,x1.seq (x2.new x3 (a1J _))⟩
 |ok t=>
  obtain⟨h,n⟩:=t;have hok:=aIT hf;rw[hf]at hm;simp only at hm;have n1:((0:Int) !=0)=false:=rfl;unfold fRV fhV;simp(disch:=omega)only[SV];refine rF λw2 o2 x2 s2=> ?_;obtain⟨ph,hph⟩:∃p,p=w1.heap.size:=⟨_,rfl⟩;rw[<-hph]at o2⊢;refine fN o2 rfl (by simp[one]) (by simp) λw3 o3 x3 s3=> ?_;have o3:aT w3 ph (rZ h):=o3;have x03:aE w w3 aP:=x1.seq (x2.new x3 (by omega));have c0:=o3.cell (off:=0);have c1:=o3.cell (off:=1);have c2:=o3.cell (off:=2);simp only[rZ,a1A,a1B]at c0 c1 c2;have tn:(n:Int).toNat=n:=a1H _;have hdr:aM (b.extract n b.size)=(aM b).drop n:=by rw[cX,a1T (by rw[a1L];omega)]
  have e9:(most:Int)-(made:Int)=((most-made:Nat):Int):=by omega
  have w9:IntKind.u64.wrap ((most-made:Nat):Int)=((most-made:Nat):Int):=eL (by omega) (by omega);by_cases hbig:win<h.window∨(h.known=true/\most-made<h.size)
  .rw [if_pos hbig]at hm;subst hm;have fin:∀{y:ByteArray},RR (.tuple #[.string y,.string ⟨#[]⟩,.int .i64 12]) w3:=by intro y;rw[hRR];exact⟨⟨by decide,_,rfl⟩,x03⟩
   by_cases hw:win<h.window
   .have d1:decide ((h.window:Int)>(win:Int))=true:=decide_eq_true (by omega);have d2:decide ((win:Int)<(h.window:Int))=true:=decide_eq_true (by omega);have iu:isB undef true=false:=rfl;simp(disch:=omega)only[SV,n1,tn,c0,c1,c2,d1,d2,iu];exact fin
   .have hks:=hbig.resolve_left hw;have d1:decide ((h.window:Int)>(win:Int))=false:=decide_eq_false (by omega);have d2:decide ((win:Int)<(h.window:Int))=false:=decide_eq_false (by omega);have d3:decide ((h.size:Int)>((most-made:Nat):Int))=true:=decide_eq_true (by omega);have d4:decide (((most-made:Nat):Int)<(h.size:Int))=true:=decide_eq_true (by omega);rw[hks.1]at c2;simp(disch:=omega)only[SV,n1,tn,c0,c1,c2,d1,d2,d3,d4,e9,w9];exact fin
  .rw [if_neg hbig]at hm;have hw:¬win<h.window:=λh=>hbig (.inl h);have d1:decide ((h.window:Int)>(win:Int))=false:=decide_eq_false (by omega);have d2:decide ((win:Int)<(h.window:Int))=false:=decide_eq_false (by omega);generalize hbl:Qm h (most-made) ((aM b).length+1) ((aM b).drop n) [] ⟨[],λ_=>(0,[]),⟨1,4,8⟩⟩=mb at hm;have main:bF pg (Gc 62) w3 λarQ w=>bF pg (dL 62 arQ (.agg (gR ⟨#[]⟩ ⟨#[]⟩ (λ_=>none) (λ_=>0) ⟨[],λ_=>(0,[]),⟨1,4,8⟩⟩).toArray)) w λ_u w=>F4 RR (.string (b.extract n b.size)) (.int .i64 (most:Nat)) (.int .i64 (made:Nat)) (.pointer (some ⟨ph,0,none⟩)) arQ (.bool false) w:=by
    refine I2 λw4 o4 x4 s4=> ?_;refine fO o4 (by simp[gR]) (by simp[gR,one]) (by simp) λw5 o5 x5 s5=> ?_;have o5:aT w5 w3.heap.size (gR ⟨#[]⟩ ⟨#[]⟩ (λ_=>none) (λ_=>0) ⟨[],λ_=>(0,[]),⟨1,4,8⟩⟩):=o5;have x35:aE w3 w5 aP:=x4.new x5 (a1J _);have z1:=o3.lt;have z3:=x03.size;refine aOX (o3.ext x35 λh=>h) o5 (by omega) gR0 rfl aQQ (by rw[oY _ _ _ (a1J _)];omega) (by decide) hok.1 (by omega) hmost hmade (mm:=mb) (f:=(aM b).length+1) (by rw[hdr,a1L];omega) (by rw[hdr];exact hbl) λr w' ho x'=> ?_;rw[hRR,<-hm];exact⟨ho,(x03.seq x35).trans x' λy hy h=>by omega⟩
   cases hkn:h.known with
   |false=>
    rw[hkn]at c2;simp(disch:=omega)only[SV,n1,tn,c0,c1,c2,d1,d2];exact main
   |true=>
    rw[hkn]at c2;have hns:¬most-made<h.size:=λh'=>hbig (.inr ⟨hkn,h'⟩);have d3:decide ((h.size:Int)>((most-made:Nat):Int))=false:=decide_eq_false (by omega);have d4:decide (((most-made:Nat):Int)<(h.size:Int))=false:=decide_eq_false (by omega);simp(disch:=omega)only[SV,n1,tn,c0,c1,c2,d1,d2,d3,d4,e9,w9];exact main
def aIN(l:List UInt8)(log most:Int):Except Int (List UInt8×Nat×Nat):=if log<10∨22<log∨most<0 then .error 1 else aGR (2^log.toNat) most.toNat (l.length+1) l [] 0 0
theorem aFV(hG:tY w)(hb:Bs w v l)(hl:l.length<=99999)(hmost:most<=2000000)(hm:aIN l log most=mm):
 aL pg UW #[v,.int .i64 log,.int .i64 most] w (λr w'=>∃p,aVa w.heap.size p w (2^log.toNat) most.toNat r w' mm):=by
 refine aBC ?_;obtain⟨RR,hRR⟩:∃RR:a7C->a7B->Prop,RR=λr w'=>∃p,aVa w.heap.size p w (2^log.toNat) most.toNat r w' mm:=⟨_,rfl⟩;rw[<-hRR];unfold aDi ZL ZK;unfold aIN at hm;by_cases b1:log<10
 .have d1:decide (log<10)=true:=decide_eq_true b1;rw[if_pos (.inl b1)]at hm;subst hm;simp(disch:=omega)only[SV,d1];rw[hRR];exact⟨0,by decide,rfl,aE.refl _ _⟩
 have d1:decide (log<10)=false:=decide_eq_false (by omega);by_cases b2:22<log
 .have d2:decide (log>22)=true:=decide_eq_true b2;have d3:decide (22<log)=true:=decide_eq_true b2;rw[if_pos (.inr (.inl b2))]at hm;subst hm;simp(disch:=omega)only[SV,d1,d2,d3];rw[hRR];exact⟨0,by decide,rfl,aE.refl _ _⟩
 have d2:decide (log>22)=false:=decide_eq_false (by omega);have d3:decide (22<log)=false:=decide_eq_false (by omega);by_cases b3:most<0
 .have d4:decide (most<0)=true:=decide_eq_true b3;rw[if_pos (.inr (.inr b3))]at hm;subst hm;simp(disch:=omega)only[SV,d1,d2,d3,d4];rw[hRR];exact⟨0,by decide,rfl,aE.refl _ _⟩
 have d4:decide (most<0)=false:=decide_eq_false (by omega);rw[if_neg (by omega)]at hm;obtain⟨log,rfl⟩:∃n:Nat,log=n:=⟨log.toNat,by omega⟩;obtain⟨most,rfl⟩:∃n:Nat,most=n:=⟨most.toNat,by omega⟩;have t0:(log:Int).toNat=log:=a1H _;have t1:(most:Int).toNat=most:=a1H _;rw[t0,t1]at hm;rw[t0,t1]at hRR;have hlb:2^log<=2^22:=a1K (by omega) (by omega);have e1:(1:Int)*2^min log IntKind.u64.bits=((2^log:Nat):Int):=by
  rw[a2T (by have:IntKind.u64.bits=64:=rfl;omega)];simp
 have e2:IntKind.u64.wrap ((2^log:Nat):Int)=((2^log:Nat):Int):=by
  have:∀W:Nat,W<=2^22->IntKind.u64.wrap (W:Int)=(W:Int):=λW hW=>eL (by omega) (by omega);exact this _ hlb
 have g0:(0:Int)<=(log:Int):=by omega
 simp(disch:=omega)only[SV,d1,d2,d3,d4];have hb1:=hb.ext (aE.dr w aP) (aR _);refine(rN hb1 (by omega)).mono ?_;rintro r w1 ⟨pr,rfl,hr,x1⟩;have zd:=(aE.dr w aP).size;have z1:=x1.size;simp(disch:=omega)only[SV,e1,e2,t0,g0];refine bY λw2 o2 x2 s2=> ?_;have o2:aT w2 w1.heap.size (tH pr DJ ⟨l,2^log,most,[],0,0⟩):=o2;have hz:=o2.lt;have hpr:(dr w).heap.size<=pr/\pr<w1.heap.size:=⟨hr.1,hr.2.1⟩;refine aQB (base:=w.heap.size) (p:=w1.heap.size) (w0:=w) (w:=w2) (f:=l.length+1) (l:=l) (win:=2^log) (most:=most) (mm:=mm) (λw' x=>hG.ext (x.mono λy hy h=>by omega)) (by omega) ((((aE.dr w aP).seq x1).seq x2).mono λ_ _ h=>h.elim) ⟨pr,DJ,(dr w).heap.size,w1.heap.size,(λb=>False),o2,hr.ext x2 (λ_ _ _ h=>h),⟨rfl,.inl ⟨rfl,rfl⟩⟩,by omega,by omega,λb h=>h.elim,by omega,by omega⟩ (by omega) (by omega) (by omega) (by omega) hm λr w' h=> ?_;rw[hRR];exact⟨_,h⟩
def aYU(w:a7B)(r:a7C)(w':a7B):Except Int (List UInt8×Nat×Nat)->Prop
 | .error e=>r= .tuple #[DJ,.int .i64 e]/\aE w w' aP
 | .ok (out,fr,sk)=>∃v,r= .tuple #[v,.int .i64 0]/\Bs w' v out/\aE w w' aP
theorem afN(hG:tY w)(hb:Bs w v l)(hl:l.length<=99999)(hmost:most<=2000000)(hm:aIN l log most=mm):
 aL pg JK #[v,.int .i64 log,.int .i64 most] w (λr w'=>aYU w r w' mm):=by
 refine amM ?_;unfold ahZ TE;refine(aFV hG hb hl hmost hm).mono ?_;rintro r w1 ⟨p,hq⟩;cases mm with
 |error e=>
  obtain⟨he,rfl,x⟩:=hq;have n1:(e !=0)=true:=by simp[he]
  simp(disch:=omega)only[SV,n1];exact⟨rfl,x.mono λy hy h=>by omega⟩
 |ok t=>
  obtain⟨out,fr,sk⟩:=t;obtain⟨rfl,⟨l',hd⟩,x⟩:=hq;obtain⟨pr,vo,lo,hi,O,o,hr,oo,hp,hlo,hO,q1,hhi⟩:=hd;have n1:((0:Int) !=0)=false:=rfl;have c3:=o.cell (off:=3);simp only[tH,a1A,a1B]at c3;simp(disch:=omega)only[SV,n1,c3];exact⟨vo,rfl,aHA oo,x.mono λy hy h=>by omega⟩
def aNu:Except Int (List UInt8×Nat×Nat)->a7C
 | .error e=> .tuple #[.int .i64 0,.int .i64 0,.int .i64 e]
 | .ok (_,fr,sk)=> .tuple #[.int .i64 (fr:Nat),.int .i64 (sk:Nat),.int .i64 0]
theorem axY(hG:tY w)(hb:Bs w v l)(hl:l.length<=99999)(hmost:most<=2000000)(hm:aIN l log most=mm):
 aL pg JL #[v,.int .i64 log,.int .i64 most] w (λr w'=>r=aNu mm/\aE w w' aP):=by
 refine amN ?_;unfold aiA TF;refine(aFV hG hb hl hmost hm).mono ?_;rintro r w1 ⟨p,hq⟩;cases mm with
 |error e=>
  obtain⟨he,rfl,x⟩:=hq;have n1:(e !=0)=true:=by simp[he]
  simp(disch:=omega)only[SV,n1];exact⟨rfl,x.mono λy hy h=>by omega⟩
 |ok t=>
  obtain⟨out,fr,sk⟩:=t;obtain⟨rfl,⟨l',hd⟩,x⟩:=hq;obtain⟨pr,vo,lo,hi,O,o,hr,oo,hp,hlo,hO,q1,hhi⟩:=hd;have n1:((0:Int) !=0)=false:=rfl;have c4:=o.cell (off:=4);have c5:=o.cell (off:=5);have d4:=(aH o).cell (off:=4);have d5:=(aH o).cell (off:=5);simp only[tH,a1A,a1B]at c4 c5 d4 d5;simp(disch:=omega)only[SV,n1,c4,c5,d4,d5];exact⟨rfl,(x.seq (aE.dr w1 _)).mono λy hy h=>by omega⟩
def rdV:Except Int (List UInt8×Nat×Nat)->a7C
 | .error e=> .tuple #[.string ⟨#[]⟩,.int .i64 0,.int .i64 0,.int .i64 e]
 | .ok (out,fr,sk)=> .tuple #[.string ⟨out.toArray⟩,.int .i64 (fr:Nat),.int .i64 (sk:Nat),.int .i64 0]
theorem aLP{most:Nat}(hb:b.size<=10000)(hwn:win<18446744073709551616)(hmost:most<=2000000)(hf2:(aM b).length<f)(hf:f<=20000)(hm:aGR win most f (aM b) [] 0 0=mm)
 (hR:∀w',aE w w' aP->RR (rdV mm) w'):
 Cu RR (.string b) (.int .i64 (most:Nat)) (.int .u64 (win:Nat)) w:=by
 unfold Cu Yw Lj Ct;refine aN.rule (λn (t:a7C×a7C×a7C×a7C) w'=>∃(x y:ByteArray) (fr sk:Nat),t=(.string x,.string y,.int .i64 (fr:Nat),.int .i64 (sk:Nat))/\aGR win most n (aM x) (aM y) fr sk=mm/\(aM x).length<n/\x.size<=10000/\y.size<=most/\fr+n<=20000/\sk+n<=20000/\aE w w' aP) f
  ⟨b,⟨#[]⟩,0,0,rfl,hm,hf2,hb,by simp[ByteArray.size],by omega,by omega,aE.refl _ _⟩ ?_
 clear hm hf2 hf hb;rintro n t w1 ⟨x,y,fr,sk,rfl,hm,hf2,hb,hy,hfr,hsk,x1⟩;have hlx:=aI x;have hly:=aI y;cases n with
 |zero=>omega
 |succ f=>
 rw[aGR]at hm;unfold Yv;by_cases h0:(aM x).length=0
 .rw [if_pos h0]at hm;subst hm;have hx0:x=⟨#[]⟩:=Fs (a2K.1 h0);subst hx0;unfold Li;simp(disch:=omega)only[SV,aRH,Vy,a3P];exact hR _ x1
 rw[if_neg h0]at hm;have hen:=ZM (x:=x) (by omega);simp(disch:=omega)only[SV,aRH,hen,a4Z];refine adQ (x:=x) (e:=0) (s:=(aM x,0)) (n:=4) rfl ⟨by omega,by omega⟩ ?_;rintro r w2 ⟨x',e',rfl,hnx,hsz⟩ x2;simp(disch:=omega)only[SV];refine bD λw3 o3 x3 s3=> ?_;refine aS o3 rfl (by simp[one]) (by simp) λw4 o4 x4 s4=> ?_;have o4:aT w4 w2.heap.size [.string x',.int .i64 e']:=o4;have x24:aE w2 w4 aP:=x3.new x4 (a1J _);have x04:aE w w4 aP:=(x1.seq x2).seq x24;have c0:=o4.cell (off:=0);have c1:=o4.cell (off:=1);have f1:=(aH o4).cell (off:=1);simp only[a1A,a1B]at c0 c1 f1;unfold nxS at hnx;by_cases h4:(aM x).length<4
 .have ht:gH (aM x) 0 4=([],aM x,10):=by unfold gH;rw[if_neg (by decide),if_pos h4]
  rw[ht]at hnx;obtain rfl:e'=10:=by injection hnx with h1 h2;exact h2.symm
  have n1:((10:Int) !=0)=true:=rfl;rw[if_pos h4]at hm;subst hm;simp(disch:=omega)only[SV,c1,n1,f1];exact hR _ (x04.seq (aE.dr w4 aP))
 rw[if_neg h4]at hm;have ht:gH (aM x) 0 4=((aM x).take 4,(aM x).drop 4,0):=by unfold gH;rw[if_neg (by decide),if_neg h4]
 rw[ht]at hnx;obtain⟨hx',rfl⟩:aM x'=(aM x).drop 4/\e'=0:=by injection hnx with h1 h2;exact⟨h1.symm,h2.symm⟩
 have hnv:nvS (aM x,0) 4=cG ((aM x).take 4):=by unfold nvS;rw[ht]
 rw[hnv];rw[<-hx']at hm;have hlx':x'.size=x.size-4:=by rw[<-aI,hx',a1L];omega
 obtain⟨n,hn⟩:∃n,n=cG ((aM x).take 4):=⟨_,rfl⟩;rw[<-hn]at hm⊢;have n0:((0:Int) !=0)=false:=rfl;by_cases hmg:n=4247762216
 .have g1:((n:Int)==4247762216)=true:=by rw[hmg]<;>rfl
  rw[if_pos hmg]at hm;simp(disch:=omega)only[SV,c1,n0,c0,g1];refine(aLS (by omega) hwn hmost hy).mono ?_;rintro r w5 ⟨hO,x5⟩;rw[hly]at hm;cases hF:aDq (aM x') win (most-y.size)with
  |error e=>
   rw[hF]at hO hm;subst hm;obtain⟨he,z,rfl⟩:=hO;have n1:(e !=0)=true:=by simp[he]
   simp(disch:=omega)only[SV,n1];exact hR _ (x04.seq x5)
  |ok t=>
   obtain⟨a,l'⟩:=t;have hok:=aNt hF;rw[hF]at hO hm;obtain⟨z,u,rfl,hz,hu⟩:=hO;have hlz:=aI z;have hlu:=aI u;have hlx2:=aI x';rw[hz]at hlz;rw[hu]at hlu;have e1:(fr:Int)+1=((fr+1:Nat):Int):=by omega
   have w1':IntKind.i64.wrap ((fr+1:Nat):Int)=((fr+1:Nat):Int):=dM (by omega) (by omega);simp(disch:=omega)only[SV,n0,anM,e1,w1'];refine⟨f,by omega,z,y++u,fr+1,sk,rfl, ?_,by rw[hz];omega,by omega, ?_,by omega,by omega,x04.seq x5⟩
   .rw [hz,CR,hu];exact hm
   .rw [<-aI,CR,a1O,hu];omega
 have g1:((n:Int)==4247762216)=false:=beq_eq_false_iff_ne.2 (by omega);rw[if_neg hmg]at hm;by_cases hs:407710288<=n/\n<407710304
 .have g2:decide ((n:Int)<407710288)=false:=decide_eq_false (by omega);have g3:decide ((n:Int)>407710303)=false:=decide_eq_false (by omega);have g4:decide ((407710303:Int)<(n:Int))=false:=decide_eq_false (by omega);rw[if_pos hs]at hm;have lr:=aV (off:=0) o4 (by simp);simp only[a1F,a1C,a1G]at lr;simp(disch:=omega)only[SV,c1,n0,c0,g1,g2,g3,g4,lr];refine adQ (x:=x') (e:=0) (s:=(aM x',0)) (n:=4) rfl ⟨by omega,by omega⟩ ?_;rintro r w5 ⟨x2',e2',rfl,hnx2,hsz2⟩ x5;simp(disch:=omega)only[SV];refine aS (o4.ext x5 λh=>h) rfl (by simp[one]) (by simp) λw6 o6 x6 s6=> ?_;have o6:aT w6 w2.heap.size [.string x2',.int .i64 e2']:=o6;have x06:aE w w6 aP:=(x1.seq x2).trans ((x24.mono λ_ _ h=>h.elim).seq ((x5.mono λ_ _ h=>h.elim).seq x6)) λz hz h=>by have:=(x1.seq x2).size;omega
  have c6:=o6.cell (off:=0);have d6:=o6.cell (off:=1);simp only[a1A,a1B]at c6 d6;have hlx2:=aI x';unfold aK7 at hm;unfold nxS at hnx2;by_cases h8:(aM x').length<4
  .have ht:gH (aM x') 0 4=([],aM x',10):=by unfold gH;rw[if_neg (by decide),if_pos h8]
   rw[ht]at hnx2;obtain rfl:e2'=10:=(congrArg Prod.snd hnx2).symm;have n1:((10:Int) !=0)=true:=rfl;rw[if_pos h8]at hm;subst hm;simp(disch:=omega)only[SV,c6,d6,n1];exact hR _ x06
  rw[if_neg h8]at hm;have ht:gH (aM x') 0 4=((aM x').take 4,(aM x').drop 4,0):=by unfold gH;rw[if_neg (by decide),if_neg h8]
  rw[ht]at hnx2;obtain⟨hx2',rfl⟩:aM x2'=(aM x').drop 4/\e2'=0:=⟨(congrArg Prod.fst hnx2).symm,(congrArg Prod.snd hnx2).symm⟩;have hnv2:nvS (aM x',0) 4=cG ((aM x').take 4):=by unfold nvS;rw[ht]
  have hlt:cG ((aM x').take 4)<2^32:=by
   have:=AE ((aM x').take 4);rw[a1N,a2T (by omega)]at this;exact this
  have hl2:x2'.size=x'.size-4:=by rw[<-aI,hx2',a1L];omega
  rw[hnv2];obtain⟨k,hk⟩:∃k,k=cG ((aM x').take 4):=⟨_,rfl⟩;rw[<-hk]at hm hlt⊢;have wx:IntKind.u64.wrap (x2'.size:Int)=(x2'.size:Int):=eL (by omega) (by omega);have wk:IntKind.i64.wrap (k:Int)=(k:Int):=dM (by omega) (by omega);have tk:(k:Int).toNat=k:=a1H _;by_cases hsh:(aM x').length-4<k
  .have d1:decide ((k:Int)>(x2'.size:Int))=true:=decide_eq_true (by omega);have d2:decide ((x2'.size:Int)<(k:Int))=true:=decide_eq_true (by omega);rw[if_pos hsh]at hm;subst hm;simp(disch:=omega)only[SV,c6,d6,n0,wx,d1,d2];exact hR _ x06
  .have d1:decide ((k:Int)>(x2'.size:Int))=false:=decide_eq_false (by omega);have d2:decide ((x2'.size:Int)<(k:Int))=false:=decide_eq_false (by omega);rw[if_neg hsh]at hm;simp only at hm;have e1:(sk:Int)+1=((sk+1:Nat):Int):=by omega
   have w1':IntKind.i64.wrap ((sk+1:Nat):Int)=((sk+1:Nat):Int):=dM (by omega) (by omega);have hes:(x2'.extract k x2'.size).size=x2'.size-k:=oY _ _ _ (a1J _);have hle:aM (x2'.extract k x2'.size)=(aM x').drop (4+k):=by
    rw[cX,hx2',a3V];exact a1T (by rw[a1L];omega)
   simp(disch:=omega)only[SV,c6,d6,n0,wx,d1,d2,wk,tk,e1,w1'];refine⟨f,by omega,_,y,fr,sk+1,rfl,by rw[hle];exact hm,by rw[aI];omega,by omega,hy,by omega,by omega,x06⟩
 .rw [if_neg hs]at hm;subst hm;by_cases h1:n<407710288
  .have g2:decide ((n:Int)<407710288)=true:=decide_eq_true (by omega);have iu:isB undef false=false:=rfl;simp(disch:=omega)only[SV,c1,n0,c0,g1,g2,iu];exact hR _ x04
  .have g2:decide ((n:Int)<407710288)=false:=decide_eq_false (by omega);have g3:decide ((n:Int)>407710303)=true:=decide_eq_true (by omega);have g4:decide ((407710303:Int)<(n:Int))=true:=decide_eq_true (by omega);simp(disch:=omega)only[SV,c1,n0,c0,g1,g2,g3,g4];exact hR _ x04
theorem alL(hb:b.size<=9999)(hmost:most<=2000000):
 aL pg MI #[.string b,.int .i64 log,.int .i64 most] w (λr w'=>r=rdV (aIN (aM b) log most)/\aE w w' aP):=by
 refine avV ?_;generalize hm:aIN (aM b) log most=mm;obtain⟨RR,hRR⟩:∃RR:a7C->a7B->Prop,RR=λr w'=>r=rdV mm/\aE w w' aP:=⟨_,rfl⟩;rw[<-hRR];unfold avU Uv Uu;unfold aIN at hm;by_cases b1:log<10
 .have d1:decide (log<10)=true:=decide_eq_true b1;rw[if_pos (.inl b1)]at hm;subst hm;simp(disch:=omega)only[SV,d1];rw[hRR];exact⟨rfl,aE.refl _ _⟩
 have d1:decide (log<10)=false:=decide_eq_false (by omega);by_cases b2:22<log
 .have d2:decide (log>22)=true:=decide_eq_true b2;have d3:decide (22<log)=true:=decide_eq_true b2;rw[if_pos (.inr (.inl b2))]at hm;subst hm;simp(disch:=omega)only[SV,d1,d2,d3];rw[hRR];exact⟨rfl,aE.refl _ _⟩
 have d2:decide (log>22)=false:=decide_eq_false (by omega);have d3:decide (22<log)=false:=decide_eq_false (by omega);by_cases b3:most<0
 .have d4:decide (most<0)=true:=decide_eq_true b3;rw[if_pos (.inr (.inr b3))]at hm;subst hm;simp(disch:=omega)only[SV,d1,d2,d3,d4];rw[hRR];exact⟨rfl,aE.refl _ _⟩
 have d4:decide (most<0)=false:=decide_eq_false (by omega);rw[if_neg (by omega)]at hm;obtain⟨log,rfl⟩:∃n:Nat,log=n:=⟨log.toNat,by omega⟩;obtain⟨most,rfl⟩:∃n:Nat,most=n:=⟨most.toNat,by omega⟩;rw[a1H,a1H]at hm;simp(disch:=omega)only[SV,d1,d2,d3,d4];have hp:∀k,k<=22->2^k<=4194304:=λk hk=>a3K (a1K (by omega) hk) (by decide);unfold HU HS Ut Cv;refine aN.rule (λn (t:a7C×a7C) w'=>∃i:Nat,n=log-i/\i<=log/\t=(.int .u64 (2^i:Nat),.int .i64 (i:Nat))/\w'=w) log ⟨0,by omega,by omega,rfl,rfl⟩ ?_;rintro n t w1 ⟨i,rfl,hi,rfl,rfl⟩;unfold Yx;by_cases hlt:i<log
 .have e1:decide ((i:Int)<(log:Int))=true:=decide_eq_true (by omega);have e2:((2^i:Nat):Int)*2=((2^(i+1):Nat):Int):=by rw[a2O];simp
  have e3:(i:Int)+1=((i+1:Nat):Int):=by omega
  have h1:=hp (i+1) (by omega);obtain⟨X,hX⟩:∃X,X=2^(i+1):=⟨_,rfl⟩;rw[<-hX]at e2 h1;have w2:IntKind.u64.wrap (X:Int)=(X:Int):=eL (by omega) (by omega);have w3:IntKind.i64.wrap ((i+1:Nat):Int)=((i+1:Nat):Int):=dM (by omega) (by omega);simp(disch:=omega)only[SV,e1,e2,e3,w2,w3];exact⟨_,by omega,i+1,rfl,by omega,by rw[hX]⟩
 .have e1:decide ((i:Int)<(log:Int))=false:=decide_eq_false (by omega);obtain rfl:i=log:=by omega
  have h1:=hp i (by omega);have hl:=aI b;simp(disch:=omega)only[SV,e1];exact aLP (f:=(aM b).length+1) (by omega) (by omega) (by omega) (by omega) (by omega) hm λw' x=>by rw[hRR];exact⟨rfl,x⟩
theorem aKT(hG:tY w):aL pg Rr #[] w (λr w'=>r= .bool true/\aE w w' aP):=by
 refine ayN ?_;unfold aAX aaD;refine mO (cells:= #[.int .u8 40,.int .u8 181,.int .u8 47,.int .u8 253,.int .u8 32,.int .u8 2,.int .u8 17,.int .u8 0,.int .u8 0,.int .u8 7,.int .u8 8]) (by decide) (by decide) (by kernel_rfl) λw1 o1 x1 s1=> ?_;refine aqX o1 λw2 o2 x2 s2=> ?_;have x02:aE w w2 aP:=x1.new x2 (by omega);have b2:=o2.bs (off:=0) (c:=11) (l:=[40,181,47,253,32,2,17,0,0,7,8]) (by decide) (λi hi=>by
  have:∀i:Fin 11,([.int .u8 40,.int .u8 181,.int .u8 47,.int .u8 253,.int .u8 32,.int .u8 2,.int .u8 17,.int .u8 0,.int .u8 0,.int .u8 7,.int .u8 8]:List a7C)[0+i.val]?=some (kH (([40,181,47,253,32,2,17,0,0,7,8]:List UInt8)[i.val])):=by
   intro i
   match i with
   |⟨0,_⟩=>rfl
   |⟨1,_⟩=>rfl
   |⟨2,_⟩=>rfl
   |⟨3,_⟩=>rfl
   |⟨4,_⟩=>rfl
   |⟨5,_⟩=>rfl
   |⟨6,_⟩=>rfl
   |⟨7,_⟩=>rfl
   |⟨8,_⟩=>rfl
   |⟨9,_⟩=>rfl
   |⟨10,_⟩=>rfl
  exact this ⟨i,hi⟩)
 refine(afN (log:=20) (most:=100) (mm:= .ok ([7,8],1,0)) (hG.ext x02) b2 (by decide) (by omega) (by kernel_rfl)).mono ?_;rintro r w3 ⟨v3,rfl,b3,x3⟩;simp(disch:=omega)only[SV];refine mO (cells:= #[.int .u8 1,.int .u8 2,.int .u8 3]) (by decide) (by decide) (by kernel_rfl) λw4 o4 x4 s4=> ?_;have b4:=o4.bs (off:=0) (c:=3) (l:=[1,2,3]) (by decide) (λi hi=>by
  match i,hi with
  |0,_=>rfl
  |1,_=>rfl
  |2,_=>rfl)
 refine(afN (log:=20) (most:=100) (mm:= .error 10) (hG.ext ((x02.seq x3).seq x4)) b4 (by decide) (by omega) (by kernel_rfl)).mono ?_;rintro r w5 ⟨rfl,x5⟩;unfold DJ;simp(disch:=omega)only[SV];refine(afN (l:=[]) (log:=9) (most:=100) (mm:= .error 1) (hG.ext (((x02.seq x3).seq x4).seq x5)) (Sl.nil _) (by decide) (by omega) (by kernel_rfl)).mono ?_;rintro r w5' ⟨rfl,x5'⟩;have x5:=x5.seq x5';unfold DJ;simp(disch:=omega)only[SV];refine mO (cells:= #[.int .u8 80,.int .u8 42,.int .u8 77,.int .u8 24,.int .u8 1,.int .u8 0,.int .u8 0,.int .u8 0,.int .u8 9]) (by decide) (by decide) (by kernel_rfl) λw6 o6 x6 s6=> ?_;refine aqX o6 λw7 o7 x7 s7=> ?_;have b7:=o7.bs (off:=0) (c:=9) (l:=[80,42,77,24,1,0,0,0,9]) (by decide) (λi hi=>by
  match i,hi with
  |0,_=>rfl
  |1,_=>rfl
  |2,_=>rfl
  |3,_=>rfl
  |4,_=>rfl
  |5,_=>rfl
  |6,_=>rfl
  |7,_=>rfl
  |8,_=>rfl)
 have x57:aE w5' w7 aP:=x6.new x7 (by omega);refine(axY (log:=20) (most:=100) (mm:= .ok ([],0,1)) (hG.ext ((((x02.seq x3).seq x4).seq x5).seq x57)) b7 (by decide) (by omega) (by kernel_rfl)).mono ?_;rintro r w8 ⟨rfl,x8⟩;have b8:=((((b3.ext x4 (aR _)).ext x5 (aR _)).ext x57 (aR _)).ext x8 (aR _));have hs:=cU b8;have e1:((⟨#[7,8]⟩:ByteArray).toList==(⟨#[7,8]⟩:ByteArray).toList)=true:=beq_self_eq_true _;have n0:((0:Int)==0)=true:=rfl;have n1:(((0:Nat):Int)==0)=true:=rfl;have n2:(((1:Nat):Int)==1)=true:=rfl;have n3:((10:Int)==10)=true:=rfl;have n4:((1:Int)==1)=true:=rfl;unfold aNu;simp(disch:=omega)only[SV,hs,e1,oI,n0,n1,n2,n3,n4];exact((((((x02.seq x3).seq x4).seq x5).seq x57).seq x8))
theorem aFk(hG:tY w)(hb:Bs w v l)(hl:l.length<=9223372036854775807):
 aL pg Ba #[v,.int .i64 log,.int .i64 most] w (λr w'=>r= .bool true/\aE w w' aP):=by
 refine VJ ?_;unfold QM JA;refine(aKT hG).mono ?_;rintro r w1 ⟨rfl,x1⟩;obtain⟨va,vc,rfl,hvc⟩:=hb.len;rw[a1M]at*;by_cases h1:300<l.length
 .have d1:decide ((l.length:Int)>300)=true:=decide_eq_true (by omega);have d2:decide ((300:Int)<(l.length:Int))=true:=decide_eq_true (by omega);simp(disch:=omega)only[SV,a3P,d1,d2];exact x1
 have d1:decide ((l.length:Int)>300)=false:=decide_eq_false (by omega);have d2:decide ((300:Int)<(l.length:Int))=false:=decide_eq_false (by omega);by_cases h2:5000<most
 .have d3:decide (most>5000)=true:=decide_eq_true (by omega);have d4:decide ((5000:Int)<most)=true:=decide_eq_true (by omega);simp(disch:=omega)only[SV,a3P,d1,d2,d3,d4];exact x1
 have d3:decide (most>5000)=false:=decide_eq_false (by omega);have d4:decide ((5000:Int)<most)=false:=decide_eq_false (by omega);have hb1:=hb.ext x1 (aR _);simp(disch:=omega)only[SV,a3P,d1,d2,d3,d4];refine(afN (hG.ext x1) hb1 (by omega) (by omega) rfl).mono ?_;intro r w2 hP;have hsz:(⟨l.toArray⟩:ByteArray).size=l.length:=by simp[ByteArray.size]
 have hls:aM ⟨l.toArray⟩=l:=rfl;have ee:∀x:Int,(x==x)=true:=λx=>beq_self_eq_true x;cases hm:aIN l log most with
 |error e=>
  rw[hm]at hP;obtain⟨rfl,x2⟩:=hP;have hb2:=hb1.ext x2 (aR _);have hs2:=cU hb2;unfold DJ;simp(disch:=omega)only[SV,hs2];refine(alL (by omega) (by omega)).mono ?_;rintro r w3 ⟨rfl,x3⟩;rw[hls,hm];unfold rdV;simp(disch:=omega)only[SV];refine(axY (hG.ext ((x1.seq x2).seq x3)) (hb2.ext x3 (aR _)) (by omega) (by omega) rfl).mono ?_;rintro r w4 ⟨rfl,x4⟩;rw[hm];unfold aNu;have hb0:Bs w4 (.slice none 0 0) []:=Sl.nil w4;have hn:=cU hb0;have z0:((⟨([]:List UInt8).toArray⟩:ByteArray).toList==(⟨#[]⟩:ByteArray).toList)=true:=Vy;simp(disch:=omega)only[SV,hn,oI,z0,ee];exact((x1.seq x2).seq x3).seq x4
 |ok t=>
  obtain⟨out,fr,sk⟩:=t;rw[hm]at hP;obtain⟨v,rfl,hv,x2⟩:=hP;have hb2:=hb1.ext x2 (aR _);have hs2:=cU hb2;simp(disch:=omega)only[SV,hs2];refine(alL (by omega) (by omega)).mono ?_;rintro r w3 ⟨rfl,x3⟩;rw[hls,hm];unfold rdV;simp(disch:=omega)only[SV];refine(axY (hG.ext ((x1.seq x2).seq x3)) (hb2.ext x3 (aR _)) (by omega) (by omega) rfl).mono ?_;rintro r w4 ⟨rfl,x4⟩;rw[hm];unfold aNu;have hn:=cU ((hv.ext x3 (aR _)).ext x4 (aR _));have z0:=aR6 ⟨out.toArray⟩;simp(disch:=omega)only[SV,hn,oI,z0,ee];exact((x1.seq x2).seq x3).seq x4
end Go.Proofs.YthohephggmkeeaaGreatDoor

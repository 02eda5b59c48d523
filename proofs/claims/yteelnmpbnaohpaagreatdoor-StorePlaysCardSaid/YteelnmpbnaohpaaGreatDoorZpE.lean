/- Parts of the proof of StorePlays: merged and given short names by a program of ours. -/
import Derived.Deep.Matrix
import Derived.Deep.Slices
import Derived.Deep.Strs
import Derived.Laws.IdiomArrays
import Derived.Test.YteelnmpbnaohpaaGreatDoorZpD
set_option linter.unusedVariables false
set_option linter.unusedSimpArgs false
open Bool renaming false_eq_true → aJM, not_false → aKC, false_and → aKH, true_and → aKM, not_true → aKS, or_eq_true → aKu, and_eq_false_iff → aLR, false_or → aLi
open Int renaming toNat_natCast → aJI
open List renaming getElem?_append_left → aJ0, nil_append → aJ1, getElem?_append_right → aJ2, take_succ_eq_append_getElem → aJ3, getElem?_map → aJ4, mem_cons_self → aJ7, length_replicate → aJ9, length_map → aJC, getElem?_eq_getElem → aJE, length_append → aJF, take_of_length_le → aJH, mem_cons → aJK, getD_eq_getElem?_getD → aJL, mem_nil_iff → aJN, length_take → aJP, length_drop → aJS, mem_cons_of_mem → aJT, map_cons → aJU, set_cons_zero → aJV, append_assoc → aJW, length_cons → aJX, drop_zero → aJY, toList_toArray → aJZ, pairwise_append → aK0, length_range → aK2, nodup_cons → aK3, getElem?_drop → aK7, drop_eq_getElem_cons → aKB, length_nil → aKD, getElem?_take_of_lt → aKE, take_append_drop → aKN, mem_of_getElem? → aKR, map_set → aKW, pairwise_cons → aKX, map_append → aKb, length_eq_zero_iff → aKd, append_nil → aKf, mem_append → aKg, set_append_right → aKj, mem_singleton → aKm, getElem_mem → aKp, mem_map → aKq, length_set → aKr, mem_range → aKv, drop_of_length_le → aKw, flatMap_cons → aKz, mem_flatMap → aLA, map_take → aLD, length_erase_of_mem → aLJ, map_replicate → aLK, getElem?_set → aLN, set_append_left → aLa, pairwise_singleton → aLc, range_succ → aLh, map_drop → aLj, sum_cons → aLk, ext_getElem? → aLl, mem_of_mem_take → aLn, getElem_map → aLq, getElem_of_mem → aLs
open List.Perm renaming refl → aLw
open List.cons renaming injEq → aLu
open Nat renaming zero_add → aJG, le_refl → aJO, le_trans → aK5, add_sub_cancel_left → aKG, le_add_right → aKJ, sub_self → aKT, lt_of_lt_of_le → aKe, add_assoc → aKy, zero_mul → aLZ, mod_lt → aLo
open Option renaming isNone_some → aKI, isNone_none → aKY, map_some → aKs
open Option.some renaming injEq → aKc
namespace Go.Proofs.YteelnmpbnaohpaaGreatDoor
open Go Go.En Go.Pu
set_option maxRecDepth 4000
theorem Vx{m:Gh}{lv:aL1}{w:aL0}{n:Nat}{l:List aL1}(h:Cl w 32 lv n l):(Value.agg (xV m lv).toArray).cells.toList=xV m lv:=by
 obtain⟨a,c,rfl,_⟩:=h
 rfl
theorem aFo{m:Gh}{lv:aL1}{w:aL0}{i:Nat}(hm:CM m)(hv:Cl w 32 lv m.leaves.length (V6 m.leaves))(hi:i<m.leaves.length):∃la off lc,lv= .slice (some ⟨la,off,none⟩) m.leaves.length lc/\∀W,aL w W aT->(aB 70 (.pointer (some ⟨la,off+i*32,none⟩))).run pg W= .ok (.value (.agg ((m.leaves.getD i []).map gT).toArray)) W:=by
 obtain⟨a,c,hlv,hln,hh⟩:=hv
 obtain⟨la,off,rfl,h2⟩:=hh (by omega)
 have hmem:m.leaves.getD i []∈m.leaves:=by
  rw[aJL,aJE hi];exact aKp hi
 refine⟨la,off,c,hlv,λW x=>aaX (by rw[aJC,hm.len _ hmem]) λj hj=> ?_⟩
 rw[aJC,hm.len _ hmem]at hj
 have h3:=h2 (i*32+j) (by rw[hln];omega)
 have hlt:i*32+j<(V6 m.leaves).length:=by rw[hln];omega
 rw[aKy]
 rw[aJE hlt]at h3
 rw[vW h3 x (λh=>h),<-aqH hm.len hi hj,aJE hlt]
theorem ajJ{m:Gh}{lv:aL1}{i:Nat}{b:List UInt8}{w:aL0}(hm:CM m)(hv:Cl w 32 lv m.leaves.length (V6 m.leaves))(hi:i<m.leaves.length)(hl:b.length<=800000):
 aG pg AW #[.agg (xV m lv).toArray,.int .i64 (i:Nat),.string ⟨b.toArray⟩] w (λr w'=>r= .bool (wT aX m i b)/\aL w w' aT):=by
 refine ZY ?_
 obtain⟨RR,hRR⟩:∃RR:aL1->aL0->Prop,RR=λr w'=>r= .bool (wT aX m i b)/\aL w w' aT:=⟨_,rfl⟩
 rw[<-hRR]
 have hc1:=hm.cnt
 have hc2:=hm.max
 have hsz:=hm.size
 have hpt:=hm.part
 have hbz:(⟨b.toArray⟩:ByteArray).size=b.length:=by simp[ByteArray.size]
 unfold abS Sz
 refine cA λw1 o1 x1 s1=> ?_
 rw[Vx hv]at o1
 obtain⟨mb,hmb⟩:∃mb,mb=w.heap.size:=⟨_,rfl⟩
 rw[<-hmb]at o1⊢
 have c0:w1.cell? ⟨mb,0,none⟩=some (.int .u64 (m.size:Nat)):=o1.cell (off:=0)
 have c1:w1.cell? ⟨mb,1,none⟩=some (.int .u32 (m.part:Nat)):=o1.cell (off:=1)
 have e1:IntKind.i64.wrap ((m.part:Nat):Int)=((m.part:Nat):Int):=dG (by omega) (by omega)
 simp(disch:=omega)only[SV,c0,c1,e1]
 refine(ZZ (by omega) hpt.1 hpt.2 hc2 (by omega)).mono ?_
 rintro r w2 ⟨rfl,hw⟩
 rw[hw];clear hw w2
 have n0':((0:Int)==0)=true:=rfl
 obtain⟨N,hN⟩:∃N,N=U7 m.size m.part i:=⟨_,rfl⟩
 have hwb:wT aX m i b=(b.length==N&&aX b==m.leaves.getD i []):=by rw[hN]<;>rfl
 rw[<-hN]
 obtain⟨la,off,lc,hlv,ld⟩:=aFo hm hv hi
 have hllen:(m.leaves.getD i []).length=32:=hm.len _ (by rw[aJL,aJE hi];exact aKp hi)
 by_cases hq:b.length=N
 rotate_left
 .have d1:(((b.length:Nat):Int)==((N:Nat):Int))=false:=by rw[beq_eq_false_iff_ne];omega
  have d2:(b.length==N)=false:=by rw[beq_eq_false_iff_ne];exact hq
  rw[d2,aKH]at hwb
  simp(disch:=omega)only[SV,n0',hbz,d1]
  rw[hRR]
  first
   |exact⟨by rw[hwb],x1⟩
   |exact⟨by rw[hwb],x1.seq (aL.dr _ _)⟩
   |exact⟨by rw[hwb],(x1.seq (aL.dr _ _)).seq (aL.dr _ _)⟩
 have d1:(((b.length:Nat):Int)==((N:Nat):Int))=true:=by rw[beq_iff_eq];omega
 have d2:(b.length==N)=true:=by rw[beq_iff_eq];exact hq
 rw[d2,aKM]at hwb
 simp(disch:=omega)only[SV,n0',hbz,d1]
 have od:=o1.ext (aL.dr w1 aT) (λh=>h)
 have xd:=x1.seq (aL.dr w1 aT)
 refine(aB1 (l:=b) hl).mono ?_
 rintro r w2 ⟨rfl,x2⟩
 have f2:(dr w1).cell? ⟨mb,2,none⟩=some lv:=od.cell (off:=2)
 have g2:w2.cell? ⟨mb,2,none⟩=some lv:=(od.ext x2 (λh=>h)).cell (off:=2)
 rw[hlv]at f2 g2
 have ld1:=ld _ xd
 have ld2:=ld _ (xd.seq x2)
 have hs:=λox oy=>aAr (ox:=ox) (oy:=oy) (a:=aX b) (b:=m.leaves.getD i []) (vS _) hllen w2
 simp(disch:=omega)only[SV,f2,g2,ld1,ld2,hs]
 rw[hRR]
 exact⟨by rw[hwb],xd.seq x2⟩
theorem SA{m:Gh}{lv:aL1}{b:List UInt8}{w:aL0}(hm:CM m)(hv:Cl w 32 lv m.leaves.length (V6 m.leaves))(hl:b.length<=800000):
 aG pg sI #[.agg (xV m lv).toArray,.string ⟨b.toArray⟩] w (λr w'=>mP w' w.heap.size 1 r m.leaves.length ((bQ aX m b).map Value.bool)/\aL w w' aT):=by
 refine Yc ?_
 obtain⟨RR,hRR⟩:∃RR:aL1->aL0->Prop,RR=λr w'=>mP w' w.heap.size 1 r m.leaves.length ((bQ aX m b).map Value.bool)/\aL w w' aT:=⟨_,rfl⟩
 rw[<-hRR]
 have hc1:=hm.cnt
 have hc2:=hm.max
 have hsz:=hm.size
 have hpt:=hm.part
 have hbz:(⟨b.toArray⟩:ByteArray).size=b.length:=by simp[ByteArray.size]
 have hcells:=Vx (m:=m) hv
 obtain⟨la,lc,hlv,_⟩:=id hv
 unfold Yb MC MB
 refine cA λw1 o1 x1 s1=> ?_
 rw[hcells]at o1
 obtain⟨mb,hmb⟩:∃mb,mb=w.heap.size:=⟨_,rfl⟩
 rw[<-hmb]at o1⊢
 unfold EB EA MA Av
 obtain⟨n,hn⟩:∃n,n=m.leaves.length:=⟨_,rfl⟩
 rw[<-hn]at hlv
 refine bM.rule (λq (t:aL1×aL1) W=>∃(i:Nat) (ov:aL1),q=n-i/\i<=n/\t=(ov,.int .i64 (i:Nat))/\mP W (mb+1) 1 ov i ((List.range i).map λj=>Value.bool (wholeAt aX m b j))/\aL w1 W aT) n ⟨0,_,rfl,by omega,rfl,mP.nil _ _ _,aL.refl _ _⟩ ?_
 rintro q t w2 ⟨i,ov,rfl,hi,rfl,o2,x2⟩
 have x02:=x1.seq x2
 have om:=o1.ext x2 (λh=>h)
 have c0:w2.cell? ⟨mb,0,none⟩=some (.int .u64 (m.size:Nat)):=om.cell (off:=0)
 have c1:w2.cell? ⟨mb,1,none⟩=some (.int .u32 (m.part:Nat)):=om.cell (off:=1)
 have c2:w2.cell? ⟨mb,2,none⟩=some lv:=om.cell (off:=2)
 rw[hlv]at c2
 have e1:IntKind.i64.wrap ((m.part:Nat):Int)=((m.part:Nat):Int):=dG (by omega) (by omega)
 unfold GD Pg
 by_cases hlt:i<n
 rotate_left
 .have d1:decide ((i:Int)<(n:Int))=false:=by simp;omega
  obtain rfl:i=n:=by omega
  unfold GA
  simp(disch:=omega)only[SV,c2,d1]
  rw[hRR]
  refine⟨?_,x02⟩
  rw[<-hn]
  have e:(bQ aX m b).map Value.bool=(List.range i).map λj=>Value.bool (wholeAt aX m b j):=by
   unfold bQ;rw[List.map_map,<-hn]<;>rfl
  rw[e]
  exact o2.lower (by omega)
 have d1:decide ((i:Int)<(n:Int))=true:=by simp;omega
 have q7:(i:Int)+1=((i+1:Nat):Int):=by omega
 unfold GC GB Pf
 simp(disch:=omega)only[SV,c2,d1,c0,c1,e1]
 refine(ZZ (by omega) hpt.1 hpt.2 hc2 (by omega)).mono ?_
 rintro r w3 ⟨rfl,hw⟩
 rw[hw];clear hw w3
 obtain⟨P,hP⟩:∃P,P=m.part*i:=⟨_,rfl⟩
 obtain⟨N,hN⟩:∃N,N=U7 m.size m.part i:=⟨_,rfl⟩
 have hPl:P<m.size:=hP▸(Bn (by omega)).1 (by omega)
 have hNl:N<=m.part:=by rw[hN];unfold U7;omega
 rw[<-hP,<-hN]
 have n1:((0:Int)==0)=true:=rfl
 have e2:(P:Int)+(N:Int)=((P+N:Nat):Int):=by omega
 have e3:IntKind.u64.wrap ((N:Nat):Int)=((N:Nat):Int):=gX (by omega) (by omega)
 have e4:IntKind.u64.wrap ((b.length:Nat):Int)=((b.length:Nat):Int):=gX (by omega) (by omega)
 have e5:IntKind.i64.wrap ((P:Nat):Int)=((P:Nat):Int):=dG (by omega) (by omega)
 have e6:IntKind.u64.wrap ((P+N:Nat):Int)=((P+N:Nat):Int):=gX (by omega) (by omega)
 have hwa:wholeAt aX m b i=(decide (P+N<=b.length)&&wT aX m i (CB m.size m.part i b)):=by rw[hP,hN]<;>rfl
 have tail:∀z w3,z=wholeAt aX m b i->aL w2 w3 aT->BA (Bz (λ_ _ bT pY w=>∃q',q'<n-i/\∃(i':Nat) (ov:aL1),q'=n-i'/\i'<=n/\((bT,pY):aL1×aL1)=(ov,.int .i64 (i':Nat))/\mP w (mb+1) 1 ov i' ((List.range i').map λj=>Value.bool (wholeAt aX m b j))/\aL w1 w aT)) (.string ⟨b.toArray⟩) (.pointer (some ⟨mb,0,none⟩)) ov (.int .i64 (i:Nat)) (.bool z) w3:=by
  intro z w3 hz x3
  unfold BA Bz
  refine axL (cells:= #[.bool z]) (by decide) (by decide) (by kernel_rfl) λw4 o4 x4 s4=> ?_
  have z2:=x2.size
  have z3:=x3.size
  refine BJ (m:=1) (news:=[.bool z]) ((o2.ext x3 (λ_ _ h=>h)).ext x4 (λ_ _ h=>h)) (o4.cl (off:=0) (l:=[.bool z]) (n:=1) rfl (λi hi=>by rw[aJG])) (by simp[one]) (by omega) (by omega) λv5 w5 o5 x5=> ?_
  simp(disch:=omega)only[SV,q7]
  refine⟨n-(i+1),by omega,i+1,v5,rfl,by omega,rfl, ?_,((x2.seq x3).seq x4).trans x5 λy hy h=>by omega⟩
  rw[aLh,aKb]
  subst hz
  exact o5
 by_cases hfit:P+N<=b.length
 .have d2:decide (((P+N:Nat):Int)<=(b.length:Int))=true:=by simp only[decide_eq_true_eq];omega
  rw[decide_eq_true hfit,aKM]at hwa
  have hia:((P:Nat):Int).toNat=P:=aJI _
  have hib:((P+N:Nat):Int).toNat=P+N:=aJI _
  have s2:=λw=>tA (k:= .i64) (k':= .i64) (lo:=((P:Nat):Int)) (hi:=((P+N:Nat):Int)) ⟨b.toArray⟩ w (by omega) (by omega) (by rw[hbz];omega)
  have t2:=aAs (b:=b) (i:=P) (j:=P+N)
  have hpc:(b.drop P).take (P+N-P)=CB m.size m.part i b:=by
   rw[aKG];unfold CB;rw[<-hP,<-hN]
  rw[hpc]at t2
  have omd:=om.ext (aL.dr w2 aT) (λh=>h)
  have ldm:(aB 44 (.pointer (some ⟨mb,0,none⟩))).run pg (dr w2)= .ok (.value (.agg (xV m lv).toArray)) (dr w2):=iF (off:=0) omd (by simp)
  simp(disch:=omega)only[SV,n1,e2,e3,e4,e5,e6,hbz,d2,s2,t2,hia,hib,ldm]
  refine(ajJ hm (dS hv (x02.seq (aL.dr w2 aT)) (bC _)) (by omega) (by have:=VB m.size m.part i b;omega)).mono ?_
  rintro r w4 ⟨rfl,x4⟩
  exact tail _ _ hwa.symm ((aL.dr w2 aT).seq x4)
 .have d2:decide (((P+N:Nat):Int)<=(b.length:Int))=false:=by simp only[decide_eq_false_iff_not];omega
  rw[decide_eq_false hfit,aKH]at hwa
  simp(disch:=omega)only[SV,n1,e2,e3,e4,e6,hbz,d2]
  exact tail _ _ hwa.symm (aL.refl _ _)
end Go.Proofs.YteelnmpbnaohpaaGreatDoor
namespace Go.Proofs.YteelnmpbnaohpaaGreatDoor
open Go Go.En Go.Pu
set_option maxRecDepth 4000
variable {Z : Nat -> Prop}
abbrev yU(s:eT)(lv hv:aL1):List aL1:=
 [.string s.nm,.int .u64 (s.man.size:Nat),.int .u32 (s.man.part:Nat),lv,.int .u64 (s.epoch:Nat),hv,.int .i64 (s.log:Nat),.bool s.fin,.int .i64 s.err]
structure Uk(w:aL0)(s:eT)(lv hv:aL1):Prop where
 man:CM s.man
 lv:Cl w 32 lv s.man.leaves.length (V6 s.man.leaves)
 hv:Sl w hv (s.hv.map Value.bool)
 ep:s.epoch<18446744073709551616
 lg:s.log<=900000000
 hl:s.hv.length<=1024
 nl:s.nm.size<=27
theorem Uk.new {w w':aL0}{s:eT}{lv hv:aL1}(h:Uk w s lv hv)(x:aL w w' aT):Uk w' s lv hv:=
 ⟨h.man,dS h.lv x (bC _),h.hv.ext x (bC _),h.ep,h.lg,h.hl,h.nl⟩
theorem lY{w:aL0}{s:eT}{lv hv:aL1}(h:Uk w s lv hv)(s':eT):∀x∈yU s' lv hv,one x=true:=by
 obtain⟨a,c,hl,_⟩:=h.lv
 obtain⟨a',c',hh,_⟩:=h.hv.len
 subst hl;subst hh
 intro x hx
 simp only[aJK,aJN,or_false]at hx
 rcases hx with rfl|rfl|rfl|rfl|rfl|rfl|rfl|rfl|rfl<;>rfl
theorem pS(s:eT)(lv hv:aL1):YO (yU s lv hv)=true:=by simp[YO,Cn]
theorem Tu{w:aL0}{s:eT}{lv hv:aL1}(h:Uk w s lv hv):(Value.agg (yU s lv hv).toArray).cells.toList=yU s lv hv:=by
 obtain⟨a,c,hl,_⟩:=h.lv
 obtain⟨a',c',hh,_⟩:=h.hv.len
 subst hl;subst hh
 rfl
theorem cF{w:aL0}{b:Nat}{cs:List aL1}(o:bD w b cs)(h:cs.length=5):(aB 40 (.pointer (some ⟨b,0,none⟩))).run pg w= .ok (.value (.agg cs.toArray)) w:=by
 have:=bW (off:=0) o (by omega)
 rwa [aJY,aJH (by omega)]at this
theorem eS{w:aL0}{b:Nat}{cs:List aL1}(o:bD w b cs)(h:cs.length=9):(aB 47 (.pointer (some ⟨b,0,none⟩))).run pg w= .ok (.value (.agg cs.toArray)) w:=by
 have:=wL (off:=0) o (by omega)
 rwa [aJY,aJH (by omega)]at this
theorem cR{w:aL0}{b:Nat}{cs xs:List aL1}{K:aL1->aL0->Prop}(o:bD w b cs)(h:cs.length=5)(hx:xs.length=5)(v:∀x∈xs,one x=true)(hk:∀w',bD w' b xs->aL w w' (λx=>x=b)->w'.heap.size=w.heap.size->K undef w'):aA pg (aF 40 (.pointer (some ⟨b,0,none⟩)) (.agg xs.toArray)) w K:=by
 refine dJ o (by simpa using hx) (by simpa using v) (by omega) λw' o' x' s'=> ?_
 rw[aJZ,uZ _ _ (by omega)]at o'
 exact hk w' o' x' s'
theorem fL{w:aL0}{b:Nat}{cs xs:List aL1}{K:aL1->aL0->Prop}(o:bD w b cs)(h:cs.length=9)(hx:xs.length=9)(v:∀x∈xs,one x=true)(hk:∀w',bD w' b xs->aL w w' (λx=>x=b)->w'.heap.size=w.heap.size->K undef w'):aA pg (aF 47 (.pointer (some ⟨b,0,none⟩)) (.agg xs.toArray)) w K:=by
 refine pU o (by simpa using hx) (by simpa using v) (by omega) λw' o' x' s'=> ?_
 rw[aJZ,uZ _ _ (by omega)]at o'
 exact hk w' o' x' s'
theorem aHb{w:aL0}{ra rb:Nat}{c5 c9 d5 d9:List aL1}{e:aL1}{RR:aL1->aL0->Prop}(oa:bD w ra c5)(ob:bD w rb c9)(hab:ra≠rb)(h5:c5.length=5)(h9:c9.length=9)(g5:d5.length=5)(g9:d9.length=9)(v5:∀x∈d5,one x=true)(v9:∀x∈d9,one x=true)
 (hK:∀w',aL w w' (λy=>y=ra∨y=rb)->RR (.tuple #[.agg d5.toArray,.agg d9.toArray,e]) w'):
 aA pg (aF 40 (.pointer (some ⟨ra,0,none⟩)) (.agg d5.toArray)) w λ_ w=>aA pg (aF 47 (.pointer (some ⟨rb,0,none⟩)) (.agg d9.toArray)) w λ_ w=>
  lO pg 40 (.pointer (some ⟨ra,0,none⟩)) w λr0=>lO pg 47 (.pointer (some ⟨rb,0,none⟩)) w λr1=>RR (.tuple #[r0,r1,e]) w:=by
 refine cR oa h5 g5 v5 λw4 o4 x4 s4=> ?_
 refine fL (ob.ext x4 (λh=>hab h.symm)) h9 g9 v9 λw5 o5 x5 s5=> ?_
 refine dW (o4.ext x5 hab) (by omega) ?_
 refine lE o5 (by omega) ?_
 rw[aJY,aJH (by omega),aJY,aJH (by omega)]
 exact hK w5 ((x4.mono λ_ _ h=> .inl h).seq (x5.mono λ_ _ h=> .inr h))
theorem aEa{w:aL0}{db sb ra rb:Nat}{c5 c9 d5 d9:List aL1}{e:aL1}{RR:aL1->aL0->Prop}(od:bD w db d5)(os:bD w sb d9)(oa:bD w ra c5)(ob:bD w rb c9)(hab:ra≠rb)(hs:sb≠ra)(h5:c5.length=5)(h9:c9.length=9)(g5:d5.length=5)(g9:d9.length=9)(v5:∀x∈d5,one x=true)(v9:∀x∈d9,one x=true)
 (hK:∀w',aL w w' (λy=>y=ra∨y=rb)->RR (.tuple #[.agg d5.toArray,.agg d9.toArray,e]) w'):
 aA pg (aB 40 (.pointer (some ⟨db,0,none⟩))) (dr w) λt33 w_=>w_=(dr w)/\
  aA pg (aB 47 (.pointer (some ⟨sb,0,none⟩))) (dr w) λt34 w_=>w_=(dr w)/\
  (dr w)=(dr w)/\
  aA pg (aF 40 (.pointer (some ⟨ra,0,none⟩)) t33) (dr w) λ_u3 YJ=>
  (aP pg (aB 47 (.pointer (some ⟨sb,0,none⟩))) t34 YJ/\True)/\
  aA pg (aF 47 (.pointer (some ⟨rb,0,none⟩)) t34) YJ λ_u4 Te=>
  Te=Te/\
  lO pg 40 (.pointer (some ⟨ra,0,none⟩)) Te λr0=>lO pg 47 (.pointer (some ⟨rb,0,none⟩)) Te λr1=>RR (.tuple #[r0,r1,e]) Te:=by
 have xd:=aL.dr w aT
 have od':=od.ext xd (λh=>h)
 have os':=os.ext xd (λh=>h)
 have l5:=cF od' g5
 have l9:=eS os' g9
 simp(disch:=omega)only[SV,l5,l9]
 refine cR (oa.ext xd (λh=>h)) h5 g5 v5 λw4 o4 x4 s4=> ?_
 have l9':=eS (os'.ext x4 hs) g9
 simp(disch:=omega)only[SV,l9']
 refine fL ((ob.ext xd (λh=>h)).ext x4 (λh=>hab h.symm)) h9 g9 v9 λw5 o5 x5 s5=> ?_
 try simp only[true_and]
 refine dW (o4.ext x5 hab) (by omega) ?_
 refine lE o5 (by omega) ?_
 rw[aJY,aJH (by omega),aJY,aJH (by omega)]
 exact hK w5 ((xd.mono λ_ _ h=>h.elim).seq ((x4.mono λ_ _ h=> .inl h).seq (x5.mono λ_ _ h=> .inr h)))
theorem ajO{N k v:Nat}{S:cG}{s:eT}{dv lv hv:aL1}{w:aL0}(h:uA Z (N+1) w S dv)(hs:Uk w s lv hv)(hk:k=1∨k=2)(hv':v<2^64):
 aG pg yB #[dv,.agg (yU s lv hv).toArray,amC k v] w (λr w'=>∃dv',r= .tuple #[dv',.agg (yU (bZ aY S s k v).2.1 lv hv).toArray,.int .i64 (bZ aY S s k v).2.2]/\uA Z N w' (bZ aY S s k v).1 dv'/\Uk w' {(bZ aY S s k v).2.1 with log:=0} lv hv/\aL w w' aT):=by
 refine Yg ?_
 obtain⟨RR,hRR⟩:∃RR:aL1->aL0->Prop,RR=λr w'=>∃dv',r= .tuple #[dv',.agg (yU (bZ aY S s k v).2.1 lv hv).toArray,.int .i64 (bZ aY S s k v).2.2]/\uA Z N w' (bZ aY S s k v).1 dv'/\Uk w' {(bZ aY S s k v).2.1 with log:=0} lv hv/\aL w w' aT:=⟨_,rfl⟩
 rw[<-hRR]
 obtain⟨cd,rfl,cd5,cdc,cd1,cdn⟩:=h.cs
 unfold Yf Pm Pk
 refine cA λw1 o1 x1 s1=> ?_
 rw[cdc]at o1
 refine cA λw2 o2 x2 s2=> ?_
 rw[Tu hs]at o2
 refine cA λw3 o3 x3 s3=> ?_
 have o3:bD w3 w2.heap.size (qD (k,v)):=o3
 refine aV λw4 o4 x4 s4=> ?_
 refine bP λw5 o5 x5 s5=> ?_
 have ox:=(x3.seq x4).seq x5
 obtain⟨db,hdb⟩:∃db,db=w.heap.size:=⟨_,rfl⟩
 obtain⟨sb,hsb⟩:∃sb,sb=w1.heap.size:=⟨_,rfl⟩
 obtain⟨rb,hrb⟩:∃rb,rb=w2.heap.size:=⟨_,rfl⟩
 obtain⟨ra,hra⟩:∃ra,ra=w3.heap.size:=⟨_,rfl⟩
 obtain⟨rt,hrt⟩:∃rt,rt=w4.heap.size:=⟨_,rfl⟩
 rw[<-hdb]at o1⊢
 rw[<-hsb]at o2⊢
 rw[<-hrb]at o3⊢
 rw[<-hra]at o4⊢
 rw[<-hrt]at o5⊢
 have p1:=o1.ext (x2.seq ox) (λh=>h)
 have p2:=o2.ext ox (λh=>h)
 have p3:=o3.ext (x4.seq x5) (λh=>h)
 have p4:=o4.ext x5 (λh=>h)
 have lr:(aB 123 (.pointer (some ⟨rb,0,none⟩))).run pg w5= .ok (.value (amC k v)) w5:=wK (off:=0) p3 (by simp)
 simp(disch:=omega)only[SV,lr]
 refine(avG (by omega) hv').mono ?_
 rintro r w6 ⟨rfl,x6⟩
 have hrec:aqS k v=pA aY k v:=by unfold aqS;rw[if_pos hk]
 rw[hrec]
 have hn:=hs.nl
 have ld:=cF (p1.ext x6 (λh=>h)) cd5
 have p2':=p2.ext x6 (λh=>h)
 have c0:w6.cell? ⟨sb,0,none⟩=some (.string s.nm):=p2'.cell (off:=0)
 have c6:w6.cell? ⟨sb,6,none⟩=some (.int .i64 (s.log:Nat)):=p2'.cell (off:=6)
 have hcat:=λt ox oy w=>afJ (n:=s.nm) hn t ox oy w
 simp(disch:=omega)only[SV,ld,c0,c6,hcat]
 refine(HU (h.new (((((x1.seq x2).seq x3).seq x4).seq x5).seq x6)) (by rw[oX];omega)).mono ?_
 rintro r w7 ⟨dv',rfl,hd',x7⟩
 obtain⟨cd',rfl,cd5',cdc',cd1',cdn'⟩:=hd'.cs
 simp(disch:=omega)only[SV]
 have q1:=(p1.ext x6 (λh=>h)).ext x7 (λh=>h)
 refine cR q1 cd5 cd5' cd1' λw8 o8 x8 s8=> ?_
 have z6:=x6.size
 have z7:=x7.size
 have p2:=(p2'.ext x7 (λh=>h)).ext x8 (by omega)
 have p4:=((p4.ext x6 (λh=>h)).ext x7 (λh=>h)).ext x8 (by omega)
 have p5:=((o5.ext x6 (λh=>h)).ext x7 (λh=>h)).ext x8 (by omega)
 have x08:aL w w8 aT:=((((((x1.seq x2).seq x3).seq x4).seq x5).seq x6).seq x7).trans x8 λy hy h=>by omega
 have hsV:=hs.new x08
 have z1:=x1.size
 have fin:∀{w9:aL0} {s':eT},bD w9 sb (yU s' lv hv)->(∀x∈yU s' lv hv,one x=true)->aL w8 w9 (λy=>y=sb)->bZ aY S s k v=((zU S (cZ s.nm) s.log (pA aY k v)).1,s',(zU S (cZ s.nm) s.log (pA aY k v)).2)->s'={s with log:=s'.log}->BC RR (.pointer (some ⟨db,0,none⟩)) (.pointer (some ⟨sb,0,none⟩)) (.pointer (some ⟨ra,0,none⟩)) (.pointer (some ⟨rt,0,none⟩)) (.int .i64 (zU S (cZ s.nm) s.log (pA aY k v)).2) w9:=by
  intro w9 s' o9 v9 x9 hr hlog
  unfold BC
  have hne:sb≠ra/\sb≠rt/\db≠sb/\ra≠rt:=by omega
  refine aEa (o8.ext x9 hne.2.2.1) o9 (p4.ext x9 hne.1.symm) (p5.ext x9 hne.2.1.symm) hne.2.2.2 hne.1 rfl rfl cd5' rfl cd1' v9 λwa xa=> ?_
  have x8a:aL w w9 aT:=x08.trans x9 λy hy h=>by omega
  have x0a:aL w wa aT:=x8a.trans xa λy hy h=>by omega
  rw[hRR,hr]
  refine⟨_,rfl, ?_, ?_,x0a⟩
  .refine ((hd'.keep x8 λb hb=> .inl ⟨_,hb▸q1,Mo cdn⟩).keep x9 λb hb=> .inl ⟨_,hb▸p2,pS _ _ _⟩).keep xa λb hb=> ?_
   rcases hb with rfl|rfl
   .exact .inl ⟨_,p4.ext x9 hne.1.symm,rfl⟩
   .exact .inl ⟨_,p5.ext x9 hne.2.1.symm,rfl⟩
  .rw [hlog]
   have:=hs.new x0a
   exact⟨this.man,this.lv,this.hv,this.ep,by show 0<=_;omega,this.hl,this.nl⟩
 by_cases h0:(zU S (cZ s.nm) s.log (pA aY k v)).2=0
 .have k1:((zU S (cZ s.nm) s.log (pA aY k v)).2==0)=true:=by rw[h0]<;>rfl
  have hsz:(⟨(pA aY k v).toArray⟩:ByteArray).size=13:=by rw[show(⟨(pA aY k v).toArray⟩:ByteArray).size=(pA aY k v).length from by simp[ByteArray.size],oX]
  have c6:w8.cell? ⟨sb,6,none⟩=some (.int .i64 (s.log:Nat)):=p2.cell (off:=6)
  have q1:((s.log:Nat):Int)+((13:Nat):Int)=((s.log+13:Nat):Int):=by omega
  have hlg:=hs.lg
  simp(disch:=omega)only[SV,k1,c6,hsz,q1]
  refine DD p2 rfl (by simp) λw9 o9 x9 s9=> ?_
  refine fin (s':={s with log:=s.log+13}) o9 (lY hs _) x9 (by unfold bZ;simp only[h0,if_true]) rfl
 .have k1:((zU S (cZ s.nm) s.log (pA aY k v)).2==0)=false:=beq_eq_false_iff_ne.2 h0
  simp(disch:=omega)only[SV,k1]
  exact fin p2 (lY hs _) (aL.refl _ _) (by unfold bZ;simp only[if_neg h0]) rfl
theorem azB{N:Nat}{S:cG}{s:eT}{dv lv hv:aL1}{w:aL0}(h:uA Z (N+2) w S dv)(hs:Uk w s lv hv)(hbl:∀b,bF (aZ s.nm) S.seen=some b->b.length<=800000):
 aG pg CH #[dv,.agg (yU s lv hv).toArray] w (λr w'=>∃dv',r= .tuple #[dv',.string ⟨(cC S s).2.1.toArray⟩,.int .i64 (cC S s).2.2]/\uA Z N w' (cC S s).1 dv'/\(cC S s).2.1.length<=800000/\aL w w' aT):=by
 refine Ye ?_
 obtain⟨RR,hRR⟩:∃RR:aL1->aL0->Prop,RR=λr w'=>∃dv',r= .tuple #[dv',.string ⟨(cC S s).2.1.toArray⟩,.int .i64 (cC S s).2.2]/\uA Z N w' (cC S s).1 dv'/\(cC S s).2.1.length<=800000/\aL w w' aT:=⟨_,rfl⟩
 rw[<-hRR]
 obtain⟨cd,rfl,cd5,cdc,cd1,cdn⟩:=h.cs
 have hsz:=hs.man.size
 have hn:=hs.nl
 unfold Yd Pj Ph
 refine cA λw1 o1 x1 s1=> ?_
 rw[cdc]at o1
 refine cA λw2 o2 x2 s2=> ?_
 rw[Tu hs]at o2
 refine aV λw3 o3 x3 s3=> ?_
 obtain⟨db,hdb⟩:∃db,db=w.heap.size:=⟨_,rfl⟩
 obtain⟨sb,hsb⟩:∃sb,sb=w1.heap.size:=⟨_,rfl⟩
 obtain⟨ra,hra⟩:∃ra,ra=w2.heap.size:=⟨_,rfl⟩
 rw[<-hdb]at o1⊢
 rw[<-hsb]at o2⊢
 rw[<-hra]at o3⊢
 have p1:=o1.ext (x2.seq x3) (λh=>h)
 have p2:=o2.ext x3 (λh=>h)
 have x03:=(x1.seq x2).seq x3
 have h3:=h.new x03
 have z1:=x1.size
 have c0:w3.cell? ⟨sb,0,none⟩=some (.string s.nm):=p2.cell (off:=0)
 have hcat:=λt ox oy w=>LX (n:=s.nm) hn t ox oy w
 have ld:=cF p1 cd5
 simp(disch:=omega)only[SV,ld,c0,hcat]
 refine(ajN h3).mono ?_
 rintro r w4 ⟨rfl,x4⟩
 obtain⟨B,T,E,hr⟩:∃B T E,bS S (aZ s.nm)=(B,T,E):=⟨_,_,_,rfl⟩
 have hBl:B.length<=800000:=by
  unfold bS at hr
  split at hr
  .cases hr;simp
  .split at hr
   .cases hr;simp
   .rename_i hg
    cases hr
    exact hbl _ hg
 have hf:cC S s=if E≠0 then(S,[],E)else if s.man.size<B.length then(if(Yj S (aZ s.nm)).2≠0 then((Yj S (aZ s.nm)).1,[],(Yj S (aZ s.nm)).2)else((zU (Yj S (aZ s.nm)).1 (aZ s.nm) 0 (List.replicate s.man.size 0)).1,[],(zU (Yj S (aZ s.nm)).1 (aZ s.nm) 0 (List.replicate s.man.size 0)).2))
     else if B.length<s.man.size∨T=false then((zU S (aZ s.nm) B.length (List.replicate (s.man.size-B.length) 0)).1,B,(zU S (aZ s.nm) B.length (List.replicate (s.man.size-B.length) 0)).2)else(S,B,0):=by
  unfold cC
  rw[hr]
 rw[hr]
 have q1:=p1.ext x4 (λh=>h)
 have q2:=p2.ext x4 (λh=>h)
 have q3:=o3.ext x4 (λh=>h)
 have h4:=h3.new x4
 have z4:=x4.size
 have hne:db≠sb/\db≠ra/\sb≠ra:=by omega
 have x04:=x03.seq x4
 have told:∀{w5:aL0} {S':cG} {cd':List aL1} {b:List UInt8} {e:Int},uA Z N w5 S' (.agg cd'.toArray)->bD w5 db cd'->bD w5 ra [Value.int .i64 0,.slice none 0 0,.slice none 0 0,.int .i64 0,.bool false]->cd'.length=5->(∀x∈cd',one x=true)->aL w4 w5 (λy=>y=db)->cC S s=(S',b,e)->b.length<=800000→
     aA pg (aF 40 (.pointer (some ⟨ra,0,none⟩)) (.agg cd'.toArray)) w5 λ_ w=>lO pg 40 (.pointer (some ⟨ra,0,none⟩)) w λr0=>RR (.tuple #[r0,.string ⟨b.toArray⟩,.int .i64 e]) w:=by
  intro w5 S' cd' b e hd od oa h5 v5 x5 hF hb
  refine cR oa rfl h5 v5 λw6 o6 x6 s6=> ?_
  refine dW o6 (by omega) ?_
  rw[aJY,aJH (by omega),hRR,hF]
  exact⟨_,rfl,hd.keep x6 λb hb=> .inl ⟨_,hb▸oa,rfl⟩,hb,(x04.trans x5 λy hy h=>by omega).trans x6 λy hy h=>by omega⟩
 by_cases hE:E=0
 rotate_left
 .have k1:(E !=0)=true:=bne_iff_ne.2 hE
  rw[if_pos hE]at hf
  have ld4:=cF q1 cd5
  simp(disch:=omega)only[SV,k1,ld4]
  exact told (b:=[]) (h4.le (by omega)) q1 q3 cd5 cd1 (aL.refl _ _) hf (by simp)
 subst hE
 rw[if_neg (λh=>h rfl)]at hf
 have k1:((0:Int) !=0)=false:=rfl
 have hBz:(⟨B.toArray⟩:ByteArray).size=B.length:=by simp[ByteArray.size]
 have e1:IntKind.u64.wrap ((B.length:Nat):Int)=((B.length:Nat):Int):=gX (by omega) (by omega)
 have c1:w4.cell? ⟨sb,1,none⟩=some (.int .u64 (s.man.size:Nat)):=q2.cell (off:=1)
 have fin:∀{w5:aL0} {S':cG} {cd':List aL1} {b:List UInt8} {t:Bool},uA Z (N+1) w5 S' (.agg cd'.toArray)->bD w5 db cd'->bD w5 sb (yU s lv hv)->bD w5 ra [Value.int .i64 0,.slice none 0 0,.slice none 0 0,.int .i64 0,.bool false]->cd'.length=5->(∀x∈cd',one x=true)->(∀x∈cd',Cn x=false)->aL w4 w5 (λy=>y=db)->b.length<=s.man.size→
     cC S s=(if b.length<s.man.size∨t=false then((zU S' (aZ s.nm) b.length (List.replicate (s.man.size-b.length) 0)).1,b,(zU S' (aZ s.nm) b.length (List.replicate (s.man.size-b.length) 0)).2)else(S',b,0))->b.length<=800000→
     BB RR (.pointer (some ⟨db,0,none⟩)) (.pointer (some ⟨sb,0,none⟩)) (.pointer (some ⟨ra,0,none⟩)) (.string (aZ s.nm)) (.string ⟨b.toArray⟩) (.bool t) w5:=by
  intro w5 S' cd' b t hd od os oa h5 v5 n5 x5 hbs hF hb
  have hbz:(⟨b.toArray⟩:ByteArray).size=b.length:=by simp[ByteArray.size]
  have e1:IntKind.u64.wrap ((b.length:Nat):Int)=((b.length:Nat):Int):=gX (by omega) (by omega)
  have c1:w5.cell? ⟨sb,1,none⟩=some (.int .u64 (s.man.size:Nat)):=os.cell (off:=1)
  unfold BB
  by_cases hc:b.length<s.man.size∨t=false
  .rw [if_pos hc]at hF
   have xd:=aL.dr w5 aT
   have odd:=od.ext xd (λh=>h)
   have osd:=os.ext xd (λh=>h)
   have oad:=oa.ext xd (λh=>h)
   have c1d:(dr w5).cell? ⟨sb,1,none⟩=some (.int .u64 (s.man.size:Nat)):=osd.cell (off:=1)
   have e2:IntKind.i64.wrap ((s.man.size:Nat):Int)=((s.man.size:Nat):Int):=dG (by omega) (by omega)
   have e3:((s.man.size:Nat):Int)-((b.length:Nat):Int)=((s.man.size-b.length:Nat):Int):=by omega
   have ldd:=cF odd h5
   have k3:(((b.length:Nat):Int)==((s.man.size:Nat):Int))=true->t=false:=λh=>by
    rw[beq_iff_eq]at h
    rcases hc with hc|hc
    .omega
    .exact hc
   have hin:((s.man.size-b.length:Nat):Int).toNat=s.man.size-b.length:=aJI _
   cases hk:(((b.length:Nat):Int)==((s.man.size:Nat):Int))
   case' true=>
    have ht:=k3 hk
    simp(disch:=omega)only[SV,hbz,e1,c1,hk,ht,ldd,c1d,e2,e3]
   case' false=>simp(disch:=omega)only[SV,hbz,e1,c1,hk,ldd,c1d,e2,e3]
   all_goals
    refine RQ (by omega) (by omega) λw6 o6 x6 s6=> ?_
    rw[hin]at o6⊢
    have ob6:bD w6 (dr w5).heap.size ((List.replicate (s.man.size-b.length) (0:UInt8)).map gT):=by rw[aLK];exact o6
    have hcv:=aqJ ob6
    rw[aJ9]at hcv
    have hcv:=eP hcv
    have od6:=odd.ext x6 (λh=>h)
    have ld6:=cF od6 h5
    simp(disch:=omega)only[SV,ld6,hcv]
    refine(HU (N:=N) (k:=aZ s.nm) (a:=(b.length:Nat)) (l:=List.replicate (s.man.size-b.length) 0) ((hd.new xd).new x6) (by rw[aJ9];omega)).mono ?_
    rintro r w7 ⟨dv',rfl,hd',x7⟩
    obtain⟨ce,rfl,ce5,cec,ce1,cen⟩:=hd'.cs
    simp(disch:=omega)only[SV]
    refine cR (od6.ext x7 (λh=>h)) h5 ce5 ce1 λw8 o8 x8 s8=> ?_
    have ld8:=cF o8 ce5
    simp(disch:=omega)only[SV,ld8]
    have x58:aL w5 w8 (λy=>y=db):=((((xd.seq x6).seq x7).mono λ_ _ h=>h.elim)).seq x8
    exact told (hd'.keep x8 λb hb=> .inl ⟨_,hb▸od6.ext x7 (λh=>h),Mo n5⟩) o8 (((oad.ext x6 (λh=>h)).ext x7 (λh=>h)).ext x8 hne.2.1.symm) ce5 ce1 (x5.seq x58) hF hb
  .rw [if_neg hc]at hF
   have hk:(((b.length:Nat):Int)==((s.man.size:Nat):Int))=true:=by rw[beq_iff_eq];omega
   have ht:t=true:=by
    cases t with
    |true=>rfl
    |false=>exact absurd (.inr rfl) hc
   have ldd:=cF od h5
   simp(disch:=omega)only[SV,hbz,e1,c1,hk,ht,ldd]
   exact told (hd.le (by omega)) od oa h5 v5 x5 hF hb
 by_cases hgt:s.man.size<B.length
 .have d1:decide (((s.man.size:Nat):Int)<((B.length:Nat):Int))=true:=by simp only[decide_eq_true_eq];omega
  rw[if_pos hgt]at hf
  have ld4:=cF q1 cd5
  simp(disch:=omega)only[SV,k1,hBz,e1,c1,d1,ld4]
  refine(azC h4).mono ?_
  rintro r w5 ⟨dv',rfl,hd',x5⟩
  obtain⟨cd',rfl,cd5',cdc',cd1',cdn'⟩:=hd'.cs
  simp(disch:=omega)only[SV]
  refine cR (q1.ext x5 (λh=>h)) cd5 cd5' cd1' λw6 o6 x6 s6=> ?_
  have r2:=(q2.ext x5 (λh=>h)).ext x6 hne.1.symm
  have r3:=(q3.ext x5 (λh=>h)).ext x6 hne.2.1.symm
  have hd6:=hd'.keep x6 λb hb=> .inl ⟨_,hb▸q1.ext x5 (λh=>h),Mo cdn⟩
  have x46:aL w4 w6 (λy=>y=db):=(x5.mono λ_ _ h=>h.elim).seq x6
  by_cases hE:(Yj S (aZ s.nm)).2=0
  .have k2:((Yj S (aZ s.nm)).2 !=0)=false:=by rw[hE]<;>rfl
   rw[if_neg (λh=>h hE)]at hf
   simp(disch:=omega)only[SV,k2]
   exact fin (b:=[]) (t:=false) hd6 o6 r2 r3 cd5' cd1' cdn' x46 (by simp) (by rw[hf,if_pos (.inr rfl)]<;>rfl) (by simp)
  .have k2:((Yj S (aZ s.nm)).2 !=0)=true:=bne_iff_ne.2 hE
   rw[if_pos hE]at hf
   have ld6:=cF o6 cd5'
   simp(disch:=omega)only[SV,k2,ld6]
   exact told (b:=[]) (hd6.le (by omega)) o6 r3 cd5' cd1' x46 hf (by simp)
 .have d1:decide (((s.man.size:Nat):Int)<((B.length:Nat):Int))=false:=by simp only[decide_eq_false_iff_not];omega
  rw[if_neg hgt]at hf
  simp(disch:=omega)only[SV,k1,hBz,e1,c1,d1]
  exact fin (h4.le (by omega)) q1 q2 q3 cd5 cd1 cdn (aL.refl _ _) (by omega) hf hBl
abbrev Z5:List aL1:=[.int .i64 0,.slice none 0 0,.slice none 0 0,.int .i64 0,.bool false]
abbrev Z9:List aL1:=[.string ⟨#[]⟩,.int .u64 0,.int .u32 0,.slice none 0 0,.int .u64 0,.slice none 0 0,.int .i64 0,.bool false,.int .i64 0]
structure Q4 (w:aL0)(n0 db sb ra rb:Nat)(cd cs:List aL1):Prop where
 d:bD w db cd
 s:bD w sb cs
 a:bD w ra Z5
 b:bD w rb Z9
 ne:n0<=db/\n0<=sb/\n0<=ra/\n0<=rb/\db≠sb/\db≠ra/\db≠rb/\sb≠ra/\sb≠rb/\ra≠rb
 h5:cd.length=5
 h9:cs.length=9
 v5:∀x∈cd,one x=true
 v9:∀x∈cs,one x=true
 n5:∀x∈cd,Cn x=false
 n9:YO cs=true
theorem Q4.new {w w':aL0}{n0 db sb ra rb:Nat}{cd cs:List aL1}(q:Q4 w n0 db sb ra rb cd cs)(x:aL w w' aT):Q4 w' n0 db sb ra rb cd cs:=
 ⟨q.d.ext x (λh=>h),q.s.ext x (λh=>h),q.a.ext x (λh=>h),q.b.ext x (λh=>h),q.ne,q.h5,q.h9,q.v5,q.v9,q.n5,q.n9⟩
theorem Q4.setD {w w':aL0}{n0 db sb ra rb:Nat}{cd ce cs:List aL1}(q:Q4 w n0 db sb ra rb cd cs)(x:aL w w' (λy=>y=db))(o:bD w' db ce)(h5:ce.length=5)(v5:∀x∈ce,one x=true)(n5:∀x∈ce,Cn x=false):Q4 w' n0 db sb ra rb ce cs:=by
 have hne:=q.ne
 exact⟨o,q.s.ext x (by omega),q.a.ext x (by omega),q.b.ext x (by omega),q.ne,h5,q.h9,v5,q.v9,n5,q.n9⟩
theorem Q4.setS {w w':aL0}{n0 db sb ra rb:Nat}{cd ce cs:List aL1}(q:Q4 w n0 db sb ra rb cd cs)(x:aL w w' (λy=>y=sb))(o:bD w' sb ce)(h9:ce.length=9)(v9:∀x∈ce,one x=true)(n9:YO ce=true):Q4 w' n0 db sb ra rb cd ce:=by
 have hne:=q.ne
 exact⟨q.d.ext x (by omega),o,q.a.ext x (by omega),q.b.ext x (by omega),q.ne,q.h5,h9,q.v5,v9,q.n5,n9⟩
theorem Q4.keep {w w':aL0}{n n0 db sb ra rb:Nat}{cd cs:List aL1}{S:cG}{dv:aL1}{M:Nat->Prop}(q:Q4 w n0 db sb ra rb cd cs)(h:uA Z n w S dv)(x:aL w w' M)(hM:∀b,M b->b=db∨b=sb∨b=ra∨b=rb∨w.heap.size<=b):uA Z n w' S dv:=by
 refine h.keep x λb hb=> ?_
 rcases hM b hb with rfl|rfl|rfl|rfl|h
 .exact .inl ⟨_,q.d,Mo q.n5⟩
 .exact .inl ⟨_,q.s,q.n9⟩
 .exact .inl ⟨_,q.a,rfl⟩
 .exact .inl ⟨_,q.b,rfl⟩
 .exact .inr h
theorem U1 {w:aL0}{n0 db sb ra rb:Nat}{cd cs d5 d9:List aL1}{e:aL1}{RR:aL1->aL0->Prop}(q:Q4 w n0 db sb ra rb cd cs)(g5:d5.length=5)(g9:d9.length=9)(v5:∀x∈d5,one x=true)(v9:∀x∈d9,one x=true)
 (G:aL0->Prop) (hG:∀w',aL w w' (λy=>y=ra)->G w')
 (hK:∀w',aL w w' (λy=>y=ra∨y=rb)->RR (.tuple #[.agg d5.toArray,.agg d9.toArray,e]) w'):
 aA pg (aF 40 (.pointer (some ⟨ra,0,none⟩)) (.agg d5.toArray)) w λ_ w=>G w/\aA pg (aF 47 (.pointer (some ⟨rb,0,none⟩)) (.agg d9.toArray)) w λ_ w=>
  lO pg 40 (.pointer (some ⟨ra,0,none⟩)) w λr0=>lO pg 47 (.pointer (some ⟨rb,0,none⟩)) w λr1=>RR (.tuple #[r0,r1,e]) w:=by
 have hab:=q.ne.2.2.2.2.2.2.2.2.2
 refine cR q.a rfl g5 v5 λw4 o4 x4 s4=> ?_
 refine⟨hG w4 x4, ?_⟩
 refine fL (q.b.ext x4 (λh=>hab h.symm)) rfl g9 v9 λw5 o5 x5 s5=> ?_
 refine dW (o4.ext x5 hab) (by omega) ?_
 refine lE o5 (by omega) ?_
 rw[aJY,aJH (by omega),aJY,aJH (by omega)]
 exact hK w5 ((x4.mono λ_ _ h=> .inl h).seq (x5.mono λ_ _ h=> .inr h))
theorem Q4.ret {w:aL0}{n0 db sb ra rb:Nat}{cd cs:List aL1}{e:aL1}{RR:aL1->aL0->Prop}(q:Q4 w n0 db sb ra rb cd cs)(hK:∀w',aL w w' (λy=>y=ra∨y=rb)->RR (.tuple #[.agg cd.toArray,.agg cs.toArray,e]) w'):
 aA pg (aB 40 (.pointer (some ⟨db,0,none⟩))) (dr w) λt33 w_=>w_=(dr w)/\
  aA pg (aB 47 (.pointer (some ⟨sb,0,none⟩))) (dr w) λt34 w_=>w_=(dr w)/\
  (dr w)=(dr w)/\
  aA pg (aF 40 (.pointer (some ⟨ra,0,none⟩)) t33) (dr w) λ_u3 YJ=>
  (aP pg (aB 47 (.pointer (some ⟨sb,0,none⟩))) t34 YJ/\True)/\
  aA pg (aF 47 (.pointer (some ⟨rb,0,none⟩)) t34) YJ λ_u4 Te=>
  Te=Te/\
  lO pg 40 (.pointer (some ⟨ra,0,none⟩)) Te λr0=>lO pg 47 (.pointer (some ⟨rb,0,none⟩)) Te λr1=>RR (.tuple #[r0,r1,e]) Te:=
 aEa q.d q.s q.a q.b q.ne.2.2.2.2.2.2.2.2.2 q.ne.2.2.2.2.2.2.2.1 rfl rfl q.h5 q.h9 q.v5 q.v9 hK
def HvN(w0 w:aL0)(s:eT)(hv hv':aL1):Prop:=hv'=hv∨mP w w0.heap.size 1 hv' s.hv.length (s.hv.map Value.bool)
theorem auQ{N i:Nat}{e:Int}{S':cG}{s s1:eT}{cd:List aL1}{lv hv:aL1}{w w1:aL0}{n0 db sb ra rb:Nat}{RR:aL1->aL0->Prop}(hn0:n0=w.heap.size)(hs:Uk w s lv hv)(x1:aL w w1 aT)(q:Q4 w1 n0 db sb ra rb cd (yU s1 lv hv))(hd:uA Z N w1 S' (.agg cd.toArray))(hs1:s1={s with log:=s1.log})(hi:i<s.hv.length)(hf:s.hv.getD i false=false)(hlg:s1.log<=900000000)
 (hK:∀w' hv' dv',uA Z N w' S' dv'->Uk w' {s1 with err:=e,hv:=s1.hv.set i (e==0)} lv hv'->HvN w w' {s1 with err:=e,hv:=s1.hv.set i (e==0)} hv hv'->aL w w' aT->RR (.tuple #[dv',.agg (yU {s1 with err:=e,hv:=s1.hv.set i (e==0)} lv hv').toArray,.int .i64 e]) w'):
 HB RR (.int .i64 (i:Nat)) (.pointer (some ⟨db,0,none⟩)) (.pointer (some ⟨sb,0,none⟩)) (.pointer (some ⟨ra,0,none⟩)) (.pointer (some ⟨rb,0,none⟩)) (.int .i64 e) w1:=by
 have hne:=q.ne
 have z1:=x1.size
 have hhv:s1.hv=s.hv:=by rw[hs1]
 have hl1024:=hs.hl
 unfold HB X6
 simp(disch:=omega)only[SV]
 refine vC q.s rfl (by simp) λw2 o2 x2 s2=> ?_
 have o2:bD w2 sb (yU {s1 with err:=e} lv hv):=o2
 have q2:=q.setS x2 o2 rfl (lY hs _) (pS _ _ _)
 have hd2:=q.keep hd x2 λb hb=>by omega
 have x02:aL w w2 aT:=x1.trans x2 λy hy h=>by omega
 by_cases he:e=0
 rotate_left
 .have k1:(e==0)=false:=beq_eq_false_iff_ne.2 he
  simp(disch:=omega)only[SV,k1]
  unfold HA
  refine q2.ret λw3 x3=> ?_
  have x03:aL w w3 aT:=x02.trans x3 λy hy h=>by omega
  have hset:s1.hv.set i (e==0)=s1.hv:=by
   rw[k1,hhv]
   refine aLl λj=> ?_
   rw[aLN]
   split
   .rename_i hij
    subst hij
    rw[aJE hi]
    rw[aJL,aJE hi]at hf
    have hf:s.hv[i]=false:=hf
    rw[hf]
   .rfl
  have hR:=hs.new x03
  have:=hK w3 hv (.agg cd.toArray) (q2.keep hd2 x3 λb hb=>by omega) ⟨by rw[hs1];exact hR.man,by rw[hs1];exact hR.lv,by show Sl w3 hv ((s1.hv.set i (e==0)).map Value.bool);rw[hset,hhv];exact hR.hv,by rw[hs1];exact hR.ep,hlg,by show(s1.hv.set i (e==0)).length<=1024;rw[hset,hhv];exact hR.hl,by rw[hs1];exact hR.nl⟩ (.inl rfl) x03
  exact this
 subst he
 have k1:((0:Int)==0)=true:=rfl
 have c5:w2.cell? ⟨sb,5,none⟩=some hv:=o2.cell (off:=5)
 simp(disch:=omega)only[SV,k1,c5]
 have hS2:=(hs.new x02).hv
 have hcl:=hS2.cl
 rw[aJC]at hcl
 refine BJ (m:=s.hv.length) (news:=s.hv.map Value.bool) (mP.nil w2 w2.heap.size 1) hcl (λy hy=>by obtain⟨z,-,rfl⟩:=aKq.1 hy;rfl) (aJO _) (by omega) λv3 w3 o3 x3=> ?_
 rw[aJ1,aJG]at o3
 obtain⟨h3l,h3⟩:=o3
 rcases h3 with⟨_,h0⟩|⟨vb,c,rest,rfl,hvb,ov,hol,hc⟩
 .omega
 have hin:(i:Int).toNat=i:=aJI _
 have z2:=x2.size
 have z3:=x3.size
 have x3n:aL w2 w3 aT:=(aL.refl w2 aT).trans x3 λy hy h=>by omega
 simp(disch:=omega)only[SV,hin,aJG]
 refine vD ov rfl (by rw[aJF,aJC];omega) λw4 o4 x4 s4=> ?_
 have x4n:aL w2 w4 aT:=x3n.trans x4 λy hy h=>by omega
 have q4:=q2.new x4n
 refine EL q4.s rfl (by simp) λw5 o5 x5 s5=> ?_
 have o5:bD w5 sb (yU {s1 with err:=0,hv:=s1.hv.set i true} lv (.slice (some ⟨vb,0,none⟩) s.hv.length c)):=o5
 have hlt:=q2.s.lt
 have hvv:∀x∈yU {s1 with err:=0,hv:=s1.hv.set i true} lv (.slice (some ⟨vb,0,none⟩) s.hv.length c),one x=true:=by
  intro x hx
  obtain⟨a,c',hl,_⟩:=hs.lv
  subst hl
  simp only[aJK,aJN,or_false]at hx
  rcases hx with rfl|rfl|rfl|rfl|rfl|rfl|rfl|rfl|rfl<;>rfl
 have q5:=q4.setS x5 o5 rfl hvv (pS _ _ _)
 unfold HA
 refine q5.ret λw6 x6=> ?_
 have x05:aL w w5 aT:=(x02.seq x4n).trans x5 λy hy h=>by omega
 have x06:aL w w6 aT:=x05.trans x6 λy hy h=>by omega
 have hlt2:=q2.a.lt
 have hlt3:=q2.b.lt
 have ov6:bD w6 vb (((s.hv.map Value.bool)++rest).set i (.bool true)):=(o4.ext x5 (by omega)).ext x6 (by omega)
 have hos:mP w6 w.heap.size 1 (.slice (some ⟨vb,0,none⟩) s.hv.length c) (s1.hv.set i true).length ((s1.hv.set i true).map Value.bool):=by
  rw[aKr,hhv]
  refine⟨by rw[aJC,aKr];omega,.inr ⟨vb,c,rest,rfl,by omega, ?_, ?_,hc⟩⟩
  .rw [aLa _ _ (by rw[aJC];exact hi)]at ov6
   rw[aKW];exact ov6
  .rw [aJF,aJC]at hol⊢
   rw[aKr];exact hol
 have hR:=hs.new x06
 have:=hK w6 (.slice (some ⟨vb,0,none⟩) s.hv.length c) (.agg cd.toArray) (q5.keep (q4.keep (hd2.new x4n) x5 λb hb=>by omega) x6 λb hb=>by omega) ⟨by rw[hs1];exact hR.man,by rw[hs1];exact hR.lv,hos.sl,by rw[hs1];exact hR.ep,hlg,by show(s1.hv.set i true).length<=1024;rw[aKr,hhv];exact hR.hl,by rw[hs1];exact hR.nl⟩ (.inr hos) x06
 exact this
def aGQ(s1:eT)(e:Int)(i:Nat):eT:={s1 with err:=e,hv:=s1.hv.set i (e==0)}
def PK(Z:Nat->Prop)(N:Nat)(w:aL0)(S':cG)(s':eT)(lv hv:aL1)(e:Int)(RR:aL1->aL0->Prop):Prop:=
 ∀w' hv' dv',uA Z N w' S' dv'->Uk w' s' lv hv'->HvN w w' s' hv hv'->aL w w' aT->RR (.tuple #[dv',.agg (yU s' lv hv').toArray,.int .i64 e]) w'
def c5 (S:cG)(s:eT)(e:Int):cG×eT×Int:=if e=0 then((AP S).1,s,(AP S).2)else(S,s,e)
def c7 (S:cG)(s:eT)(e:Int)(i:Nat):cG×eT×Int:=if e=0 then c5 (bZ aY S s 2 i).1 (bZ aY S s 2 i).2.1 (bZ aY S s 2 i).2.2 else(S,s,e)
def c9 (S:cG)(s:eT)(e:Int)(i:Nat):cG×eT×Int:=if e=0 then c7 (AP S).1 s (AP S).2 i else(S,s,e)
theorem aCS(S:cG)(s:eT)(i:Nat)(b:List UInt8):fD aY S s i b=c9 (zU S (aZ s.nm) (s.man.part*i:Nat) b).1 s (zU S (aZ s.nm) (s.man.part*i:Nat) b).2 i:=by
 unfold fD c9 c7 c5
 simp only[ne_eq,ite_not]
section
variable{N i:Nat}{e:Int}{S':cG}{s s1:eT}{cd:List aL1}{lv hv:aL1}{w w1:aL0}{n0 db sb ra rb:Nat}{RR:aL1->aL0->Prop}
theorem aAH(hn0:n0=w.heap.size)(hs:Uk w s lv hv)(x1:aL w w1 aT)(q:Q4 w1 n0 db sb ra rb cd (yU s1 lv hv))(hd:uA Z N w1 S' (.agg cd.toArray))(hs1:s1={s with log:=s1.log})(hi:i<s.hv.length)(hf:s.hv.getD i false=false)(hlg:s1.log<=900000000)
 (hK:PK Z N w (c5 S' s1 e).1 (aGQ (c5 S' s1 e).2.1 (c5 S' s1 e).2.2 i) lv hv (c5 S' s1 e).2.2 RR):
 HC RR (.int .i64 (i:Nat)) (.pointer (some ⟨db,0,none⟩)) (.pointer (some ⟨sb,0,none⟩)) (.pointer (some ⟨ra,0,none⟩)) (.pointer (some ⟨rb,0,none⟩)) (.int .i64 e) w1:=by
 unfold HC X7
 unfold c5 at hK
 by_cases he:e=0
 .rw [if_pos he]at hK
  have k1:(e==0)=true:=by rw[he]<;>rfl
  have ld:=cF q.d q.h5
  simp(disch:=omega)only[SV,k1,ld]
  refine(Yk hd).mono ?_
  rintro r w2 ⟨dv',rfl,hd',x2⟩
  obtain⟨ce,rfl,ce5,cec,ce1,cen⟩:=hd'.cs
  have q2:=q.new x2
  have hne:=q.ne
  have z1:=x1.size
  simp(disch:=omega)only[SV]
  refine cR q2.d q.h5 ce5 ce1 λw3 o3 x3 s3=> ?_
  exact auQ hn0 hs ((x1.seq x2).trans x3 λy hy h=>by omega) (q2.setD x3 o3 ce5 ce1 cen) (q2.keep hd' x3 λb hb=>by omega) hs1 hi hf hlg hK
 .rw [if_neg he]at hK
  have k1:(e==0)=false:=beq_eq_false_iff_ne.2 he
  simp(disch:=omega)only[SV,k1]
  exact auQ hn0 hs x1 q hd hs1 hi hf hlg hK
theorem aAI(hn0:n0=w.heap.size)(hs:Uk w s lv hv)(x1:aL w w1 aT)(q:Q4 w1 n0 db sb ra rb cd (yU s lv hv))(hd:uA Z (N+1) w1 S' (.agg cd.toArray))(hi:i<s.hv.length)(hf:s.hv.getD i false=false)(hlg:s.log+13<=900000000)
 (hK:PK Z N w (c7 S' s e i).1 (aGQ (c7 S' s e i).2.1 (c7 S' s e i).2.2 i) lv hv (c7 S' s e i).2.2 RR):
 HD RR (.int .i64 (i:Nat)) (.pointer (some ⟨db,0,none⟩)) (.pointer (some ⟨sb,0,none⟩)) (.pointer (some ⟨ra,0,none⟩)) (.pointer (some ⟨rb,0,none⟩)) (.int .i64 e) w1:=by
 unfold HD X8
 unfold c7 at hK
 have hl1024:=hs.hl
 by_cases he:e=0
 .rw [if_pos he]at hK
  have k1:(e==0)=true:=by rw[he]<;>rfl
  have ld:=cF q.d q.h5
  have l9:=eS q.s q.h9
  have e1:IntKind.u64.wrap ((i:Nat):Int)=((i:Nat):Int):=gX (by omega) (by omega)
  simp(disch:=omega)only[SV,k1,ld,l9,e1]
  refine(ajO (k:=2) (v:=i) hd (hs.new x1) (.inr rfl) (by omega)).mono ?_
  rintro r w2 ⟨dv',rfl,hd',hs2,x2⟩
  have hrl:(bZ aY S' s 2 i).2.1={s with log:=(bZ aY S' s 2 i).2.1.log}/\(bZ aY S' s 2 i).2.1.log<=900000000:=by
   unfold bZ
   simp only
   split
   .exact ⟨rfl,by show s.log+13<=_;omega⟩
   .exact ⟨rfl,by show s.log<=_;omega⟩
  obtain⟨R,hR⟩:∃R,R=bZ aY S' s 2 i:=⟨_,rfl⟩
  rw[<-hR]at hK hd' hrl⊢
  obtain⟨ce,rfl,ce5,cec,ce1,cen⟩:=hd'.cs
  have q2:=q.new x2
  have hne:=q.ne
  have z1:=x1.size
  simp(disch:=omega)only[SV]
  refine cR q2.d q.h5 ce5 ce1 λw3 o3 x3 s3=> ?_
  have q3:=q2.setD x3 o3 ce5 ce1 cen
  have hd3:=q2.keep hd' x3 λb hb=>by omega
  refine fL q3.s q.h9 (xs:=yU R.2.1 lv hv) rfl (lY hs _) λw4 o4 x4 s4=> ?_
  exact aAH hn0 hs (((x1.seq x2).trans x3 λy hy h=>by omega).trans x4 λy hy h=>by omega) (q3.setS x4 o4 rfl (lY hs _) (pS _ _ _)) (q3.keep hd3 x4 λb hb=>by omega) hrl.1 hi hf hrl.2 hK
 .rw [if_neg he]at hK
  have k1:(e==0)=false:=beq_eq_false_iff_ne.2 he
  simp(disch:=omega)only[SV,k1]
  have h5:c5 S' s e=(S',s,e):=by unfold c5;rw[if_neg he]
  exact aAH hn0 hs x1 q (hd.le (Nat.le_succ N)) rfl hi hf (by omega) (by rw[h5];exact hK)
end
theorem aFO{N:Nat}{i:Int}{S:cG}{s:eT}{b:List UInt8}{dv lv hv:aL1}{w:aL0}(h:uA Z (N+2) w S dv)(hs:Uk w s lv hv)(hlen:s.hv.length=s.man.leaves.length)(hlg:s.log+13<=900000000)(hbl:b.length<=800000):
 aG pg J4 #[dv,.agg (yU s lv hv).toArray,.int .i64 i,.string ⟨b.toArray⟩] w (λr w'=>∃dv' hv',r= .tuple #[dv',.agg (yU (yT aX aY S s i b).2.1 lv hv').toArray,.int .i64 (yT aX aY S s i b).2.2]/\uA Z N w' (yT aX aY S s i b).1 dv'/\Uk w' (yT aX aY S s i b).2.1 lv hv'/\HvN w w' (yT aX aY S s i b).2.1 hv hv'/\aL w w' aT):=by
 refine ajE ?_
 obtain⟨P,hP⟩:∃P,P=yT aX aY S s i b:=⟨_,rfl⟩
 rw[<-hP]
 obtain⟨RR,hRR⟩:∃RR:aL1->aL0->Prop,RR=λr w'=>∃dv' hv',r= .tuple #[dv',.agg (yU P.2.1 lv hv').toArray,.int .i64 P.2.2]/\uA Z N w' P.1 dv'/\Uk w' P.2.1 lv hv'/\HvN w w' P.2.1 hv hv'/\aL w w' aT:=⟨_,rfl⟩
 rw[<-hRR]
 have hPK:PK Z N w P.1 P.2.1 lv hv P.2.2 RR:=λw' hv' dv' h1 h2 h3 h4=>by rw[hRR];exact⟨dv',hv',rfl,h1,h2,h3,h4⟩
 obtain⟨cd,rfl,cd5,cdc,cd1,cdn⟩:=h.cs
 have hm:=hs.man
 have hsz:=hm.size
 have hpt:=hm.part
 have hc1:=hm.cnt
 have hc2:=hm.max
 have hn:=hs.nl
 obtain⟨hva,hvc,hhv,_⟩:=hs.hv.len
 rw[aJC]at hhv
 have hlvs:(V6 s.man.leaves).length=s.man.leaves.length*32:=aAA hm.len
 unfold aoJ Ya X9
 refine cA λw1 o1 x1 s1=> ?_
 rw[cdc]at o1
 refine cA λw2 o2 x2 s2=> ?_
 rw[Tu hs]at o2
 refine aV λw3 o3 x3 s3=> ?_
 refine bP λw4 o4 x4 s4=> ?_
 obtain⟨db,hdb⟩:∃db,db=w.heap.size:=⟨_,rfl⟩
 obtain⟨sb,hsb⟩:∃sb,sb=w1.heap.size:=⟨_,rfl⟩
 obtain⟨ra,hra⟩:∃ra,ra=w2.heap.size:=⟨_,rfl⟩
 obtain⟨rb,hrb⟩:∃rb,rb=w3.heap.size:=⟨_,rfl⟩
 rw[<-hdb]at o1⊢
 rw[<-hsb]at o2⊢
 rw[<-hra]at o3⊢
 rw[<-hrb]at o4⊢
 have q:Q4 w4 w.heap.size db sb ra rb cd (yU s lv hv):=⟨o1.ext ((x2.seq x3).seq x4) (λh=>h),o2.ext (x3.seq x4) (λh=>h),o3.ext x4 (λh=>h),o4,by omega,cd5,rfl,cd1,lY hs _,cdn,pS _ _ _⟩
 have x04:aL w w4 aT:=((x1.seq x2).seq x3).seq x4
 have z4:=x04.size
 have xd:=aL.dr w4 aT
 have h4:=h.new x04
 have c8:w4.cell? ⟨sb,8,none⟩=some (.int .i64 s.err):=q.s.cell (off:=8)
 have qd:=q.new xd
 have c8d:(dr w4).cell? ⟨sb,8,none⟩=some (.int .i64 s.err):=qd.s.cell (off:=8)
 have l5d:=cF qd.d cd5
 have l9d:=eS qd.s rfl
 have hne:=q.ne
 have same:∀{w':aL0} {e:Int},P=(S,s,e)->aL (dr w4) w' (λy=>y=ra∨y=rb)->RR (.tuple #[.agg cd.toArray,.agg (yU s lv hv).toArray,.int .i64 e]) w':=λ{w' e} hPe x=>by
  have x0:aL w w' aT:=(x04.seq xd).trans x λy hy h=>by omega
  rw[hPe]at hPK
  exact hPK w' hv _ (qd.keep ((h4.new xd).le (by omega)) x λb hb=>by omega) (hs.new x0) (.inl rfl) x0
 have st9:∀{w':aL0},aL (dr w4) w' (λy=>y=ra)->(aB 47 (.pointer (some ⟨sb,0,none⟩))).run pg w'= .ok (.value (.agg (yU s lv hv).toArray)) w':=λ{w'} x=>eS (qd.s.ext x hne.2.2.2.2.2.2.2.1) rfl
 unfold yT at hP
 by_cases he:s.err=0
 rotate_left
 .rw [if_pos he]at hP
  have k1:(s.err !=0)=true:=bne_iff_ne.2 he
  simp(disch:=omega)only[SV,c8,c8d,k1,l5d,l9d]
  refine cR qd.a rfl cd5 cd1 λw5 o5 x5 s5=> ?_
  have q5:bD w5 sb (yU s lv hv):=qd.s.ext x5 hne.2.2.2.2.2.2.2.1
  have c85:w5.cell? ⟨sb,8,none⟩=some (.int .i64 s.err):=q5.cell (off:=8)
  have l95:=eS q5 rfl
  simp(disch:=omega)only[SV,c85,l95]
  refine fL (qd.b.ext x5 (λh=>hne.2.2.2.2.2.2.2.2.2 h.symm)) rfl rfl (lY hs _) λw6 o6 x6 s6=> ?_
  have c86:w6.cell? ⟨sb,8,none⟩=some (.int .i64 s.err):=(q5.ext x6 hne.2.2.2.2.2.2.2.2.1).cell (off:=8)
  simp(disch:=omega)only[SV,c86]
  refine dW (o5.ext x6 hne.2.2.2.2.2.2.2.2.2) (by omega) ?_
  refine lE o6 (by simp) ?_
  rw[aJY,aJH (by omega)]
  exact same hP ((x5.mono λ_ _ h=> .inl h).seq (x6.mono λ_ _ h=> .inr h))
 have k1:(s.err !=0)=false:=by rw[he]<;>rfl
 rw[if_neg (λh=>h he)]at hP
 have c5':w4.cell? ⟨sb,5,none⟩=some hv:=q.s.cell (off:=5)
 rw[hhv]at c5'
 by_cases hr:i<0∨(s.hv.length:Int)<=i
 .rw [if_pos hr]at hP
  have fin:=λ(w':aL0) (x:aL (dr w4) w' (λy=>y=ra∨y=rb))=>same (e:=17) hP x
  by_cases h0:i<0
  .have d1:decide (i<0)=true:=decide_eq_true h0
   simp(disch:=omega)only[SV,c8,k1,d1,l5d,l9d]
   exact U1 qd cd5 rfl cd1 (lY hs _) _ (λw' x=>st9 x) fin
  .have d1:decide (i<0)=false:=decide_eq_false h0
   have d2:decide ((s.hv.length:Int)<=i)=true:=decide_eq_true (by omega)
   simp(disch:=omega)only[SV,c8,k1,d1,c5',d2,l5d,l9d]
   exact U1 qd cd5 rfl cd1 (lY hs _) _ (λw' x=>st9 x) fin
 rw[if_neg hr]at hP
 obtain⟨j,rfl⟩:∃j:Nat,i=(j:Int):=⟨i.toNat,by omega⟩
 have hj:j<s.hv.length:=by omega
 have hjt:(j:Int).toNat=j:=aJI _
 rw[hjt]at hP
 have d1:decide ((j:Int)<0)=false:=decide_eq_false (by omega)
 have d2:decide ((s.hv.length:Int)<=(j:Int))=false:=decide_eq_false (by omega)
 have c7':w4.cell? ⟨sb,7,none⟩=some (.bool s.fin):=q.s.cell (off:=7)
 obtain⟨kb,koff,hka,hcell⟩:∃kb koff,hva=some ⟨kb,koff,none⟩/\w4.cell? ⟨kb,koff+j,none⟩=some (.bool (s.hv.getD j false)):=by
  obtain⟨a',n',c',he',hn',hc',hh⟩:=(hs.new x04).hv
  rw[hhv]at he'
  simp only[Value.slice.injEq]at he'
  obtain⟨rfl,rfl,rfl⟩:=he'
  obtain⟨kb,koff,rfl,h2⟩:=hh (by omega)
  refine⟨kb,koff,rfl, ?_⟩
  rw[h2 j (by omega),aJ4,aJE hj,aJL,aJE hj]
  rfl
 subst hka
 by_cases hfh:(s.fin||s.hv.getD j false)=true
 .rw [if_pos hfh]at hP
  have fin:=λ(w':aL0) (x:aL (dr w4) w' (λy=>y=ra∨y=rb))=>same (e:=0) hP x
  cases hfi:s.fin with
  |true=>
   rw[hfi]at c7'
   simp(disch:=omega)only[SV,c8,k1,d1,c5',d2,c7',l5d,l9d]
   exact U1 qd cd5 rfl cd1 (lY hs _) _ (λw' x=>st9 x) fin
  |false=>
   rw[hfi]at c7'
   rw[hfi,aLi]at hfh
   rw[hfh]at hcell
   simp(disch:=omega)only[SV,c8,k1,d1,c5',d2,c7',hjt,hcell,l5d,l9d]
   exact U1 qd cd5 rfl cd1 (lY hs _) _ (λw' x=>st9 x) fin
 rw[if_neg hfh]at hP
 rw[aKu,not_or,Bool.not_eq_true,Bool.not_eq_true]at hfh
 rw[hfh.1]at c7'
 rw[hfh.2]at hcell
 have ldm:(aB 44 (.pointer (some ⟨sb,1,none⟩))).run pg w4= .ok (.value (.agg (xV s.man lv).toArray)) w4:=iF (off:=1) q.s (by simp)
 simp(disch:=omega)only[SV,c8,k1,d1,c5',d2,c7',hjt,hcell,ldm]
 refine(ajJ hm (hs.new x04).lv (by omega) hbl).mono ?_
 rintro r w5 ⟨rfl,x5⟩
 have q5:=q.new x5
 have x05:=x04.seq x5
 cases hw:wT aX s.man j b with
 |false=>
  rw[if_pos hw]at hP
  have xd5:=aL.dr w5 aT
  have qd5:=q5.new xd5
  have l5d5:=cF qd5.d cd5
  have l9d5:=eS qd5.s rfl
  simp(disch:=omega)only[SV,l5d5,l9d5]
  refine U1 qd5 cd5 rfl cd1 (lY hs _) _ (λw' x=>eS (qd5.s.ext x hne.2.2.2.2.2.2.2.1) rfl) λw' x=> ?_
  have z5:=x5.size
  have x0:aL w w' aT:=(x05.seq xd5).trans x λy hy h=>by omega
  rw[hP]at hPK
  exact hPK w' hv _ (qd5.keep (((h4.new x5).new xd5).le (by omega)) x λb hb=>by omega) (hs.new x0) (.inl rfl) x0
 |true=>
  rw[if_neg (by rw[hw];decide)]at hP
  have f1:w5.cell? ⟨sb,1,none⟩=some (.int .u64 (s.man.size:Nat)):=q5.s.cell (off:=1)
  have f2:w5.cell? ⟨sb,2,none⟩=some (.int .u32 (s.man.part:Nat)):=q5.s.cell (off:=2)
  have e1:IntKind.i64.wrap ((s.man.part:Nat):Int)=((s.man.part:Nat):Int):=dG (by omega) (by omega)
  simp(disch:=omega)only[SV,f1,f2,e1]
  refine(ZZ (by omega) hpt.1 hpt.2 hc2 (by omega)).mono ?_
  rintro r w6 ⟨rfl,hw6⟩
  rw[hw6];clear hw6 w6
  have hki:=(Bn (L:=s.man.size) (k:=s.man.part) (i:=j) (by omega)).1 (by omega)
  have hch:=aCS S s j b
  obtain⟨T,hT⟩:∃T,T=s.man.part*j:=⟨_,rfl⟩
  rw[<-hT]at hki hch⊢
  have e2:IntKind.i64.wrap ((T:Nat):Int)=((T:Nat):Int):=dG (by omega) (by omega)
  have l55:=cF q5.d cd5
  have f0:w5.cell? ⟨sb,0,none⟩=some (.string s.nm):=q5.s.cell (off:=0)
  have hcat:=λt ox oy w=>LX (n:=s.nm) hn t ox oy w
  simp(disch:=omega)only[SV,l55,f0,hcat,e2]
  refine(HU (N:=N+1) (k:=aZ s.nm) (a:=(T:Nat)) (l:=b) (h4.new x5) (by omega)).mono ?_
  rintro r w6 ⟨dv',rfl,hd',x6⟩
  obtain⟨ce,rfl,ce5,cec,ce1,cen⟩:=hd'.cs
  have q6:=q5.new x6
  have z5:=x05.size
  have z6:=x6.size
  simp(disch:=omega)only[SV]
  refine cR q6.d cd5 ce5 ce1 λw7 o7 x7 s7=> ?_
  have q7:=q6.setD x7 o7 ce5 ce1 cen
  have hd7:=q6.keep hd' x7 λb hb=>by omega
  have x07:aL w w7 aT:=(x05.seq x6).trans x7 λy hy h=>by omega
  have hPc:P=((fD aY S s j b).1,aGQ (fD aY S s j b).2.1 (fD aY S s j b).2.2 j,(fD aY S s j b).2.2):=hP
  rw[hch]at hPc
  unfold c9 at hPc
  by_cases hE:(zU S (aZ s.nm) (T:Nat) b).2=0
  .have k2:((zU S (aZ s.nm) (T:Nat) b).2==0)=true:=by rw[hE]<;>rfl
   rw[if_pos hE]at hPc
   have l57:=cF o7 ce5
   simp(disch:=omega)only[SV,k2,l57]
   refine(Yk hd7).mono ?_
   rintro r w8 ⟨dv',rfl,hd8,x8⟩
   obtain⟨cf,rfl,cf5,cfc,cf1,cfn⟩:=hd8.cs
   have q8:=q7.new x8
   simp(disch:=omega)only[SV]
   refine cR q8.d ce5 cf5 cf1 λw9 o9 x9 s9=> ?_
   rw[hPc]at hPK
   exact aAI rfl hs ((x07.seq x8).trans x9 λy hy h=>by omega) (q8.setD x9 o9 cf5 cf1 cfn) (q8.keep hd8 x9 λb hb=>by omega) hj hfh.2 hlg hPK
  .have k2:((zU S (aZ s.nm) (T:Nat) b).2==0)=false:=beq_eq_false_iff_ne.2 hE
   rw[if_neg hE]at hPc
   have h7:c7 (zU S (aZ s.nm) (T:Nat) b).1 s (zU S (aZ s.nm) (T:Nat) b).2 j=((zU S (aZ s.nm) (T:Nat) b).1,s,(zU S (aZ s.nm) (T:Nat) b).2):=by unfold c7;rw[if_neg hE]
   simp(disch:=omega)only[SV,k2]
   rw[hPc]at hPK
   exact aAI rfl hs x07 q7 hd7 hj hfh.2 hlg (by rw[h7];exact hPK)
theorem aHe{N:Nat}{S:cG}{dv:aL1}{n:ByteArray}{w:aL0}(h:uA Z N w S dv):
 aG pg Ac #[dv,.string n] w (λr w'=>(if S.down then r= .tuple #[.string ⟨#[]⟩,.int .i64 20]else match bF n S.seen with
  |none=>r= .tuple #[.string ⟨#[]⟩,.int .i64 21]
  |some b=>r= .tuple #[.string ⟨b.toArray⟩,.int .i64 0])/\aL w w' aT):=by
 obtain⟨D,sv,wv,rfl,h2,h3⟩:=h
 refine(aAR h2 h3.rb).mono ?_
 rintro r w' ⟨rfl,x⟩
 refine⟨?_,x⟩
 rw[awA h3.sim]
 by_cases hd:S.down=true
 .rw [if_pos hd,if_pos hd]
 .rw [if_neg hd,if_neg hd]
  cases bF n S.seen<;>rfl
section
variable{N:Nat}{e:Int}{S':cG}{s:eT}{cd:List aL1}{lv hv hv2:aL1}{W:List Bool}{w w1:aL0}{n0 db sb ra rb:Nat}{RR:aL1->aL0->Prop}
theorem MD(hs:Uk w s lv hv)(o:mP w1 n0 1 hv2 W.length (W.map Value.bool))(s':eT):∀x∈yU s' lv hv2,one x=true:=by
 obtain⟨a,c,hl,_⟩:=hs.lv
 obtain⟨a',c',hh,_⟩:=o.sl.len
 subst hl;subst hh
 intro x hx
 simp only[aJK,aJN,or_false]at hx
 rcases hx with rfl|rfl|rfl|rfl|rfl|rfl|rfl|rfl|rfl<;>rfl
theorem Uk.hvs (hs:Uk w s lv hv)(x:aL w w1 aT)(o:mP w1 n0 1 hv2 W.length (W.map Value.bool))(hW:W.length<=1024)(b:Bool)(e:Int):Uk w1 {s with hv:=W,fin:=b,err:=e} lv hv2:=
 have h:=hs.new x
 ⟨h.man,h.lv,o.sl,h.ep,h.lg,hW,h.nl⟩
theorem asT(hn0:n0=w.heap.size)(hs:Uk w s lv hv)(x1:aL w w1 aT)(o:mP w1 (rb+1) 1 hv2 W.length (W.map Value.bool))(hrb:db<rb/\sb<rb/\ra<rb)(hW:W.length<=1024)(q:Q4 w1 n0 db sb ra rb cd (yU {s with hv:=W} lv hv2))(hd:uA Z N w1 S' (.agg cd.toArray))
 (hK:PK Z N w S' {s with hv:=W,fin:=(e==0),err:=e} lv hv e RR):
 By RR (.pointer (some ⟨db,0,none⟩)) (.pointer (some ⟨sb,0,none⟩)) (.pointer (some ⟨ra,0,none⟩)) (.pointer (some ⟨rb,0,none⟩)) (.int .i64 e) w1:=by
 have hne:=q.ne
 have z1:=x1.size
 unfold By
 simp(disch:=omega)only[SV]
 refine vC q.s rfl (by simp) λw2 o2 x2 s2=> ?_
 have o2:bD w2 sb (yU {s with hv:=W,err:=e} lv hv2):=o2
 have q2:=q.setS x2 o2 rfl (MD hs o _) (pS _ _ _)
 have hd2:=q.keep hd x2 λb hb=>by omega
 refine vD q2.s rfl (by simp) λw3 o3 x3 s3=> ?_
 have o3:bD w3 sb (yU {s with hv:=W,fin:=(e==0),err:=e} lv hv2):=o3
 have q3:=q2.setS x3 o3 rfl (MD hs o _) (pS _ _ _)
 have hd3:=q2.keep hd2 x3 λb hb=>by omega
 have qd:=q3.new (aL.dr w3 aT)
 have l5:=cF qd.d q.h5
 have l9:=eS qd.s rfl
 simp(disch:=omega)only[SV,l5,l9]
 refine U1 qd q.h5 rfl q.v5 (MD hs o _) _ (λw' x=>eS (qd.s.ext x hne.2.2.2.2.2.2.2.1) rfl) λw4 xd4=> ?_
 have x4:aL w3 w4 (λy=>y=ra∨y=rb):=((aL.dr w3 aT).mono λ_ _ h=>h.elim).seq xd4
 have x14:aL w1 w4 (λy=>y<=rb):=((x2.mono λy _ h=>by omega).seq (x3.mono λy _ h=>by omega)).seq (x4.mono λy _ h=>by omega)
 have x04:aL w w4 aT:=((x1.trans x2 λy hy h=>by omega).trans x3 λy hy h=>by omega).trans x4 λy hy h=>by omega
 have o':=o.ext x14 λb hb h=>by omega
 exact hK w4 hv2 _ (q3.keep hd3 x4 λb hb=>by omega) (hs.hvs x04 o' hW _ _) (.inr (o'.lower (by omega))) x04
end
theorem azA{N:Nat}{S:cG}{s:eT}{dv lv hv:aL1}{w:aL0}(h:uA Z (N+1) w S dv)(hs:Uk w s lv hv)(hbl:∀b,bF (aZ s.nm) S.seen=some b->b.length<=800000):
 aG pg CG #[dv,.agg (yU s lv hv).toArray] w (λr w'=>∃dv' hv',r= .tuple #[dv',.agg (yU (dV aX S s).2.1 lv hv').toArray,.int .i64 (dV aX S s).2.2]/\uA Z N w' (dV aX S s).1 dv'/\Uk w' (dV aX S s).2.1 lv hv'/\HvN w w' (dV aX S s).2.1 hv hv'/\aL w w' aT):=by
 refine XY ?_
 obtain⟨P,hP⟩:∃P,P=dV aX S s:=⟨_,rfl⟩
 rw[<-hP]
 obtain⟨RR,hRR⟩:∃RR:aL1->aL0->Prop,RR=λr w'=>∃dv' hv',r= .tuple #[dv',.agg (yU P.2.1 lv hv').toArray,.int .i64 P.2.2]/\uA Z N w' P.1 dv'/\Uk w' P.2.1 lv hv'/\HvN w w' P.2.1 hv hv'/\aL w w' aT:=⟨_,rfl⟩
 rw[<-hRR]
 have hPK:PK Z N w P.1 P.2.1 lv hv P.2.2 RR:=λw' hv' dv' h1 h2 h3 h4=>by rw[hRR];exact⟨dv',hv',rfl,h1,h2,h3,h4⟩
 obtain⟨cd,rfl,cd5,cdc,cd1,cdn⟩:=h.cs
 have hm:=hs.man
 have hc1:=hm.cnt
 have hc2:=hm.max
 have hn:=hs.nl
 have hl1024:=hs.hl
 unfold XX Pe Pd
 refine cA λw1 o1 x1 s1=> ?_
 rw[cdc]at o1
 refine cA λw2 o2 x2 s2=> ?_
 rw[Tu hs]at o2
 refine aV λw3 o3 x3 s3=> ?_
 refine bP λw4 o4 x4 s4=> ?_
 obtain⟨db,hdb⟩:∃db,db=w.heap.size:=⟨_,rfl⟩
 obtain⟨sb,hsb⟩:∃sb,sb=w1.heap.size:=⟨_,rfl⟩
 obtain⟨ra,hra⟩:∃ra,ra=w2.heap.size:=⟨_,rfl⟩
 obtain⟨rb,hrb⟩:∃rb,rb=w3.heap.size:=⟨_,rfl⟩
 rw[<-hdb]at o1⊢
 rw[<-hsb]at o2⊢
 rw[<-hra]at o3⊢
 rw[<-hrb]at o4⊢
 have q:Q4 w4 w.heap.size db sb ra rb cd (yU s lv hv):=⟨o1.ext ((x2.seq x3).seq x4) (λh=>h),o2.ext (x3.seq x4) (λh=>h),o3.ext x4 (λh=>h),o4,by omega,cd5,rfl,cd1,lY hs _,cdn,pS _ _ _⟩
 have x04:aL w w4 aT:=((x1.seq x2).seq x3).seq x4
 have z4:=x04.size
 have xd:=aL.dr w4 aT
 have h4:=h.new x04
 have c8:w4.cell? ⟨sb,8,none⟩=some (.int .i64 s.err):=q.s.cell (off:=8)
 have c7':w4.cell? ⟨sb,7,none⟩=some (.bool s.fin):=q.s.cell (off:=7)
 have qd:=q.new xd
 have c8d:(dr w4).cell? ⟨sb,8,none⟩=some (.int .i64 s.err):=qd.s.cell (off:=8)
 have l5d:=cF qd.d cd5
 have l9d:=eS qd.s rfl
 have hne:=q.ne
 have hord:db<rb/\sb<rb/\ra<rb:=by omega
 have same:∀{w' w'':aL0} {S1:cG} {s1:eT} {e:Int} (q':Q4 w' w.heap.size db sb ra rb cd (yU s1 lv hv)),aL w w' aT->uA Z N w' S1 (.agg cd.toArray)->s1={s with err:=s1.err}->P=(S1,s1,e)->aL w' w'' (λy=>y=ra∨y=rb)->RR (.tuple #[.agg cd.toArray,.agg (yU s1 lv hv).toArray,.int .i64 e]) w'':=λ{w' w'' S1 s1 e} q' x' hd' hs1 hPe x=>by
  have x0:aL w w'' aT:=x'.trans x λy hy h=>by omega
  rw[hPe]at hPK
  have hR:=hs.new x0
  exact hPK w'' hv _ (q'.keep hd' x λb hb=>by omega) (by rw[hs1];exact⟨hR.man,hR.lv,hR.hv,hR.ep,hR.lg,hR.hl,hR.nl⟩) (.inl rfl) x0
 unfold dV at hP
 by_cases hq:s.err≠0∨s.fin=true
 .have hP':P=(S,s,s.err):=by
   by_cases he:s.err=0
   .rcases hq with hq|hq
    .exact absurd he hq
    .rw [hP,if_neg (λh=>h he),if_pos hq,he]
   .rw [hP,if_pos he]
  cases hk1:(s.err !=0)
  case' true=>simp(disch:=omega)only[SV,c8,c8d,hk1,l5d,l9d]
  case' false=>
   have hfi:s.fin=true:=by
    rcases hq with hq|hq
    .rw [bne_eq_false_iff_eq]at hk1;exact absurd hk1 hq
    .exact hq
   rw[hfi]at c7'
   simp(disch:=omega)only[SV,c8,c8d,c7',hk1,l5d,l9d]
  all_goals
   refine cR qd.a rfl cd5 cd1 λw5 o5 x5 s5=> ?_
   have q5:bD w5 sb (yU s lv hv):=qd.s.ext x5 hne.2.2.2.2.2.2.2.1
   have c85:w5.cell? ⟨sb,8,none⟩=some (.int .i64 s.err):=q5.cell (off:=8)
   have l95:=eS q5 rfl
   simp(disch:=omega)only[SV,c85,l95]
   refine fL (qd.b.ext x5 (λh=>hne.2.2.2.2.2.2.2.2.2 h.symm)) rfl rfl (lY hs _) λw6 o6 x6 s6=> ?_
   have c86:w6.cell? ⟨sb,8,none⟩=some (.int .i64 s.err):=(q5.ext x6 hne.2.2.2.2.2.2.2.2.1).cell (off:=8)
   simp(disch:=omega)only[SV,c86]
   refine dW (o5.ext x6 hne.2.2.2.2.2.2.2.2.2) (by omega) ?_
   refine lE o6 (by simp) ?_
   rw[aJY,aJH (by omega)]
   exact same qd (x04.seq xd) ((h4.new xd).le (Nat.le_succ N)) rfl hP' ((x5.mono λ_ _ h=> .inl h).seq (x6.mono λ_ _ h=> .inr h))
 rw[not_or,Bool.not_eq_true]at hq
 obtain⟨he,hfi⟩:=hq
 have he:s.err=0:=Classical.not_not.1 he
 rw[if_neg (λh=>h he),if_neg (by rw[hfi];decide)]at hP
 have k1:(s.err !=0)=false:=by rw[he]<;>rfl
 have c5':w4.cell? ⟨sb,5,none⟩=some hv:=q.s.cell (off:=5)
 rw[hfi]at c7'
 simp(disch:=omega)only[SV,c8,k1,c7',c5']
 refine(ajG (hs.new x04).hv (by omega)).mono ?_
 rintro r w5 ⟨rfl,hw5⟩
 rw[hw5];clear hw5 w5
 cases hall:Ae s.hv with
 |false=>
  rw[if_pos hall]at hP
  simp(disch:=omega)only[SV,l5d,l9d]
  exact U1 qd cd5 rfl cd1 (lY hs _) _ (λw' x=>eS (qd.s.ext x hne.2.2.2.2.2.2.2.1) rfl) λw' x=>same qd (x04.seq xd) ((h4.new xd).le (Nat.le_succ N)) rfl hP x
 |true=>
 rw[if_neg (by rw[hall];decide)]at hP
 have l54:=cF q.d cd5
 have f0:w4.cell? ⟨sb,0,none⟩=some (.string s.nm):=q.s.cell (off:=0)
 have hcat:=λt ox oy w=>LX (n:=s.nm) hn t ox oy w
 simp(disch:=omega)only[SV,l54,f0,hcat]
 refine(aHe h4).mono ?_
 rintro r w5 ⟨hr,x5⟩
 have q5:=q.new x5
 have x05:=x04.seq x5
 have h5:=h4.new x5
 have z5:=x5.size
 have cases2:(∃e:Int,e≠0/\r= .tuple #[.string ⟨#[]⟩,.int .i64 e]/\P=(S,{s with err:=e},e))∨(∃b,r= .tuple #[.string ⟨b.toArray⟩,.int .i64 0]/\bF (aZ s.nm) S.seen=some b/\P=(if Ae (bQ aX s.man b)=false then(S,{s with hv:=bQ aX s.man b},13)
     else if(JX S (aZ s.nm) s.nm).2≠0 then((JX S (aZ s.nm) s.nm).1,{s with hv:=bQ aX s.man b,err:=(JX S (aZ s.nm) s.nm).2,fin:=false},(JX S (aZ s.nm) s.nm).2)else((AP (JX S (aZ s.nm) s.nm).1).1,{s with hv:=bQ aX s.man b,err:=(AP (JX S (aZ s.nm) s.nm).1).2,fin:=(AP (JX S (aZ s.nm) s.nm).1).2==0},(AP (JX S (aZ s.nm) s.nm).1).2))):=by
  by_cases hdn:S.down=true
  .rw [if_pos hdn]at hr hP
   exact .inl ⟨20,by decide,hr,hP⟩
  .rw [if_neg hdn]at hr hP
   cases hg:bF (aZ s.nm) S.seen with
   |none=>
    rw[hg]at hr hP
    exact .inl ⟨21,by decide,hr,hP⟩
   |some b=>
    rw[hg]at hr hP
    exact .inr ⟨b,hr,rfl,hP⟩
 clear hr hP
 rcases cases2 with⟨e,he0,rfl,hP⟩|⟨b,rfl,hg,hP⟩
 .have k2:(e !=0)=true:=bne_iff_ne.2 he0
  simp(disch:=omega)only[SV,k2]
  refine vC q5.s rfl (by simp) λw6 o6 x6 s6=> ?_
  have o6:bD w6 sb (yU {s with err:=e} lv hv):=o6
  have q6:=q5.setS x6 o6 rfl (lY hs _) (pS _ _ _)
  have qd6:=q6.new (aL.dr w6 aT)
  have l5:=cF qd6.d cd5
  have l9:=eS qd6.s rfl
  simp(disch:=omega)only[SV,l5,l9]
  exact U1 qd6 cd5 rfl cd1 (lY hs _) _ (λw' x=>eS (qd6.s.ext x hne.2.2.2.2.2.2.2.1) rfl) λw' x=>same (s1:={s with err:=e}) qd6 ((x05.trans x6 λy hy h=>by omega).seq (aL.dr w6 aT)) (((q5.keep h5 x6 λb hb=>by omega).new (aL.dr w6 aT)).le (Nat.le_succ N)) rfl hP x
 have hb8:=hbl b hg
 have k2:((0:Int) !=0)=false:=rfl
 have ldm:(aB 44 (.pointer (some ⟨sb,1,none⟩))).run pg w5= .ok (.value (.agg (xV s.man lv).toArray)) w5:=iF (off:=1) q5.s (by simp)
 simp(disch:=omega)only[SV,k2,ldm]
 refine(SA hm (hs.new x05).lv hb8).mono ?_
 rintro hv2 w6 ⟨o6,x6⟩
 obtain⟨W,hW⟩:∃W,W=bQ aX s.man b:=⟨_,rfl⟩
 have hWl:W.length=s.man.leaves.length:=by rw[hW];unfold bQ;simp
 rw[<-hW]at hP o6
 have z6:=x6.size
 have hlt:=q5.b.lt
 rw[<-hWl]at o6
 have o6:mP w6 (rb+1) 1 hv2 W.length (W.map Value.bool):=o6.lower (by omega)
 have q6:=q5.new x6
 have h6:=h5.new x6
 obtain⟨va,vc,hva⟩:∃a c,hv2= .slice a W.length c:=by
  obtain⟨a,c,h,_⟩:=o6.sl.len
  rw[aJC]at h
  exact⟨a,c,h⟩
 refine EL q6.s (by rw[hva]<;>rfl) (by simp) λw7 o7 x7 s7=> ?_
 have o7:bD w7 sb (yU {s with hv:=W} lv hv2):=o7
 have ov7:=o6.ext x7 λb hb h=>by omega
 have q7:=q6.setS x7 o7 rfl (MD hs ov7 _) (pS _ _ _)
 have h7:=q6.keep h6 x7 λb hb=>by omega
 have x07:aL w w7 aT:=(x05.seq x6).trans x7 λy hy h=>by omega
 have c57:w7.cell? ⟨sb,5,none⟩=some hv2:=o7.cell (off:=5)
 simp(disch:=omega)only[SV,c57]
 refine(ajG ov7.sl (by omega)).mono ?_
 rintro r w8 ⟨rfl,hw8⟩
 rw[hw8];clear hw8 w8
 cases hall2:Ae W with
 |false=>
  rw[if_pos hall2]at hP
  have qd7:=q7.new (aL.dr w7 aT)
  have l5:=cF qd7.d cd5
  have l9:=eS qd7.s rfl
  simp(disch:=omega)only[SV,l5,l9]
  refine U1 qd7 cd5 rfl cd1 (MD hs ov7 _) _ (λw' x=>eS (qd7.s.ext x hne.2.2.2.2.2.2.2.1) rfl) λw' x=> ?_
  have x0:aL w w' aT:=(x07.seq (aL.dr w7 aT)).trans x λy hy h=>by have:=x07.size;omega
  have o':=(ov7.ext (aL.dr w7 aT) (λ_ _ h=>h)).ext x λb hb h=>by omega
  rw[hP]at hPK
  have hR:=hs.hvs x0 o' (by omega) s.fin s.err
  exact hPK w' hv2 _ (qd7.keep ((h7.new (aL.dr w7 aT)).le (Nat.le_succ N)) x λb hb=>by omega) hR (.inr (o'.lower (by omega))) x0
 |true=>
 rw[if_neg (by rw[hall2];decide)]at hP
 have l57:=cF q7.d cd5
 have f07:w7.cell? ⟨sb,0,none⟩=some (.string s.nm):=o7.cell (off:=0)
 simp(disch:=omega)only[SV,l57,f07,hcat]
 refine(azD (N:=N) (k:=aZ s.nm) (j:=s.nm) h7).mono ?_
 rintro r w8 ⟨dv',rfl,hd8,x8⟩
 obtain⟨ce,rfl,ce5,cec,ce1,cen⟩:=hd8.cs
 have q8:=q7.new x8
 have z7:=x07.size
 have z8:=x8.size
 simp(disch:=omega)only[SV]
 refine cR q8.d cd5 ce5 ce1 λw9 o9 x9 s9=> ?_
 have q9:=q8.setD x9 o9 ce5 ce1 cen
 have h9:=q8.keep hd8 x9 λb hb=>by omega
 have ov9:=(ov7.ext x8 (λ_ _ h=>h)).ext x9 λb hb h=>by omega
 have x09:aL w w9 aT:=(x07.seq x8).trans x9 λy hy h=>by omega
 by_cases hE:(JX S (aZ s.nm) s.nm).2=0
 .have k3:((JX S (aZ s.nm) s.nm).2==0)=true:=by rw[hE]<;>rfl
  rw[if_neg (λh=>h hE)]at hP
  have l59:=cF o9 ce5
  simp(disch:=omega)only[SV,k3,l59]
  refine(Yk h9).mono ?_
  rintro r wa ⟨dv',rfl,hda,xa⟩
  obtain⟨cf,rfl,cf5,cfc,cf1,cfn⟩:=hda.cs
  have qa:=q9.new xa
  have za:=x09.size
  simp(disch:=omega)only[SV]
  refine cR qa.d ce5 cf5 cf1 λwb ob xb sb'=> ?_
  rw[hP]at hPK
  exact asT rfl hs ((x09.seq xa).trans xb λy hy h=>by omega) ((ov9.ext xa (λ_ _ h=>h)).ext xb λb hb h=>by omega) hord (by omega) (qa.setD xb ob cf5 cf1 cfn) (qa.keep hda xb λb hb=>by omega) hPK
 .have k3:((JX S (aZ s.nm) s.nm).2==0)=false:=beq_eq_false_iff_ne.2 hE
  rw[if_pos hE]at hP
  simp(disch:=omega)only[SV,k3]
  rw[hP]at hPK
  exact asT rfl hs x09 ov9 hord (by omega) q9 h9 (by rw[k3];exact hPK)
theorem aAE{w:aL0}{S:Nat->Prop}{l:List (Nat×Nat)}{o:aL1}(h:DJ w S 2 o l.length (l.flatMap qD)){i:Nat}(hi:i<l.length):∃b c,o= .slice (some ⟨b,0,none⟩) l.length c/\S b/\w.cell? ⟨b,i*2,none⟩=some (.int .u8 (l[i].1:Nat))/\w.cell? ⟨b,i*2+1,none⟩=some (.int .u64 (l[i].2:Nat)):=by
 rcases h.2 with⟨_,h0⟩|⟨b,c,rest,hv,hb,ob,hbl,hbc⟩
 .omega
 have hl:=RX l
 have key:=ZF hi
 have k0:∀j,j<2->(l.flatMap qD++rest)[i*2+j]?=(qD l[i])[j]?:=λj hj=>by
  rw[<-key,List.getElem?_take,if_pos hj,aK7,aJ0 (by omega)]
 refine⟨b,c,hv,hb, ?_, ?_⟩
 .rw [ob.cell]
  exact k0 0 (by omega)
 .rw [ob.cell]
  exact k0 1 (by omega)
section
variable{N n:Nat}{S:cG}{s:eT}{cd rest:List aL1}{lv hv o wv:aL1}{W:List Bool}{l:List (Nat×Nat)}{w w1:aL0}{n0 hb K c db sb ra rb:Nat}{RR:aL1->aL0->Prop}
theorem aBS{d m t6 t7 nn ss:aL1}{k0:aL1->aL1->aL1->aL1->aL1->aL1->aL1->aL1->aL0->Prop}(os:DJ w (λb=>K<b) 2 o l.length (l.flatMap qD))(hl:l.length<=100000000)(ho:∀r∈l,okR r)(hk:k0 d m t6 t7 nn ss o (.int .u64 (dU 1 l:Nat)) w):
 sZ k0 d m t6 t7 nn ss o (.int .u64 0) (.int .i64 0) w:=by
 obtain⟨oa,oc,hoe⟩:=yQ os
 unfold sZ
 refine bM.rule (λq (t:aL1×aL1) w'=>∃i:Nat,q=l.length-i/\i<=l.length/\t=(.int .u64 (dU 1 (l.take i):Nat),.int .i64 (i:Nat))/\w'=w) l.length ⟨0,rfl,by omega,rfl,rfl⟩ ?_
 rintro q t w' ⟨i,rfl,hi,rfl,hw⟩
 rw[hw];clear hw w'
 unfold Je Sv
 by_cases hlt:i<l.length
 rotate_left
 .have d1:decide ((i:Int)<(l.length:Int))=false:=by simp;omega
  rw[aJH (by omega),hoe]
  rw[hoe]at hk
  simp(disch:=omega)only[SV,d1]
  exact hk
 have d1:decide ((i:Int)<(l.length:Int))=true:=by simp;omega
 have hin:(i:Int).toNat=i:=aJI _
 have q1:(i:Int)+1=((i+1:Nat):Int):=by omega
 obtain⟨b,c,he,hb,h0,h1⟩:=aAE os hlt
 have hlast:=ahP (k:=1) hlt
 obtain⟨M,hM⟩:∃M,M=dU 1 (l.take i):=⟨_,rfl⟩
 rw[<-hM]at hlast⊢
 obtain⟨a,v⟩:(Nat×Nat):=l[i]
 rw[he]
 unfold Jd
 generalize l[i]=r at*
 by_cases hq:r.1=1
 .have n1:(((r.1:Nat):Int)==1)=true:=by rw[hq]<;>rfl
  rw[if_pos hq]at hlast
  by_cases hgt:M<r.2
  .have d2:decide (((M:Nat):Int)<((r.2:Nat):Int))=true:=by simp only[decide_eq_true_eq];omega
   simp(disch:=omega)only[SV,d1,hin,h0,h1,n1,d2,q1,aJG]
   exact⟨l.length-(i+1),by omega,i+1,rfl,by omega,by rw[hlast,Nat.max_eq_left (by omega)]⟩
  .have d2:decide (((M:Nat):Int)<((r.2:Nat):Int))=false:=by simp only[decide_eq_false_iff_not];omega
   simp(disch:=omega)only[SV,d1,hin,h0,h1,n1,d2,q1,aJG]
   exact⟨l.length-(i+1),by omega,i+1,rfl,by omega,by rw[hlast,Nat.max_eq_right (by omega)]⟩
 .have n1:(((r.1:Nat):Int)==1)=false:=by rw[beq_eq_false_iff_ne];omega
  rw[if_neg hq]at hlast
  simp(disch:=omega)only[SV,d1,hin,h0,h1,n1,q1,aJG]
  exact⟨l.length-(i+1),by omega,i+1,rfl,by omega,by rw[hlast]⟩
theorem aBT{d t6 t7 nn ss ww:aL1}{i:Nat}{k4:aL1->aL1->aL1->aL1->aL1->aL1->aL1->aL1->aL1->aL0->Prop}(os:DJ w (λb=>K<b) 2 o l.length (l.flatMap qD))(hl:l.length<=100000000)(hi:i<=100000000)(hk:k4 d t6 t7 nn ss o ww (.int .i64 (i:Nat)) (.bool (l.any λr=>r.1==2&&r.2==i)) w):
 vZ k4 d t6 t7 nn ss o ww (.int .i64 (i:Nat)) (.bool false) (.int .i64 0) w:=by
 obtain⟨oa,oc,hoe⟩:=yQ os
 unfold vZ
 refine bM.rule (λq (t:aL1×aL1) w'=>∃j:Nat,q=l.length-j/\j<=l.length/\t=(.bool ((l.take j).any λr=>r.1==2&&r.2==i),.int .i64 (j:Nat))/\w'=w) l.length ⟨0,rfl,by omega,rfl,rfl⟩ ?_
 rintro q t w' ⟨j,rfl,hj,rfl,hw⟩
 rw[hw];clear hw w'
 unfold Lz
 by_cases hlt:j<l.length
 rotate_left
 .have d1:decide ((j:Int)<(l.length:Int))=false:=by simp;omega
  rw[aJH (by omega),hoe]
  rw[hoe]at hk
  simp(disch:=omega)only[SV,d1]
  exact hk
 have d1:decide ((j:Int)<(l.length:Int))=true:=by simp;omega
 have hin:(j:Int).toNat=j:=aJI _
 have q1:(j:Int)+1=((j+1:Nat):Int):=by omega
 have e1:IntKind.u64.wrap ((i:Nat):Int)=((i:Nat):Int):=gX (by omega) (by omega)
 obtain⟨b,c,he,hb,h0,h1⟩:=aAE os hlt
 have hstep:((l.take (j+1)).any λr=>r.1==2&&r.2==i)=(((l.take j).any λr=>r.1==2&&r.2==i)||(l[j].1==2&&l[j].2==i)):=by
  rw[aJ3 hlt,List.any_append];simp
 rw[he]
 generalize l[j]=r at*
 cases hT:((l.take j).any λr=>r.1==2&&r.2==i)with
 |true=>
  rw[hT,Bool.true_or]at hstep
  simp(disch:=omega)only[SV,d1,q1]
  exact⟨l.length-(j+1),by omega,j+1,rfl,by omega,by rw[hstep];exact⟨rfl,rfl⟩⟩
 |false=>
  rw[hT,aLi]at hstep
  by_cases hq:r.1=2
  .have n1:(((r.1:Nat):Int)==2)=true:=by rw[hq]<;>rfl
   have n2:(((r.2:Nat):Int)==((i:Nat):Int))=(r.2==i):=by
    by_cases h:r.2=i
    .rw [h];simp
    .rw [beq_eq_false_iff_ne.2 h,beq_eq_false_iff_ne];omega
   have n3:(r.1==2)=true:=by rw[hq]<;>rfl
   rw[n3,aKM]at hstep
   simp(disch:=omega)only[SV,d1,hin,h0,h1,n1,n2,e1,q1,aJG]
   exact⟨l.length-(j+1),by omega,j+1,rfl,by omega,by rw[hstep]⟩
  .have n1:(((r.1:Nat):Int)==2)=false:=by rw[beq_eq_false_iff_ne];omega
   have n3:(r.1==2)=false:=beq_eq_false_iff_ne.2 hq
   rw[n3,aKH]at hstep
   simp(disch:=omega)only[SV,d1,hin,h0,h1,n1,q1,aJG]
   exact⟨l.length-(j+1),by omega,j+1,rfl,by omega,by rw[hstep]⟩
theorem aEt{W hv0:List Bool}{i:Nat}(hl:hv0.length=n)(hi:i<n):(((List.range i).map λj=>l.any (λr=>r.1==2&&r.2==j)&&W.getD j false)++hv0.drop i).set i (l.any (λr=>r.1==2&&r.2==i)&&W.getD i false)=((List.range (i+1)).map λj=>l.any (λr=>r.1==2&&r.2==j)&&W.getD j false)++hv0.drop (i+1):=by
 rw[aKj _ _ (by simp),aJC,aK2,aKT,aKB (by omega),aJV,aLh,aKb,aJW]
 rfl
theorem aBR{t6 t7:aL1}{hv0:List Bool}{k2:aL1->aL1->aL1->aL1->aL0->Prop}(os:DJ w1 (λb=>K<b) 2 o l.length (l.flatMap qD))(hl:l.length<=100000000)(ow:mP w1 (K+1) 1 wv n (W.map Value.bool))(hn:n<=1024)(hv0l:hv0.length=n)
 (osb:bD w1 sb (yU s lv (.slice (some ⟨hb,0,none⟩) n c))) (oh:bD w1 hb (hv0.map Value.bool++rest)) (hbK:hb<=K) (hne:hb≠sb)
 (hk:∀w2,bD w2 hb ((nH l W n).map Value.bool++rest)->aL w1 w2 (λy=>y=hb)->k2 (.pointer (some ⟨db,0,none⟩)) t6 t7 (.pointer (some ⟨sb,0,none⟩)) w2):
 pH k2 (.pointer (some ⟨db,0,none⟩)) t6 t7 (.int .i64 (n:Nat)) (.pointer (some ⟨sb,0,none⟩)) o wv (.int .i64 0) w1:=by
 unfold pH
 refine bM.rule (λq (t:aL1) w'=>∃i:Nat,q=n-i/\i<=n/\t= .int .i64 (i:Nat)/\bD w' hb ((((List.range i).map λj=>l.any (λr=>r.1==2&&r.2==j)&&W.getD j false)++hv0.drop i).map Value.bool++rest)/\aL w1 w' (λy=>y=hb)) n ⟨0,rfl,by omega,rfl,oh,aL.refl _ _⟩ ?_
 rintro q t w2 ⟨i,rfl,hi,rfl,o2,x2⟩
 unfold Dm I9
 by_cases hlt:i<n
 rotate_left
 .have d1:decide ((i:Int)<(n:Int))=false:=by simp;omega
  simp(disch:=omega)only[SV,d1]
  obtain rfl:i=n:=by omega
  refine hk w2 ?_ x2
  rw[aKw (by omega),aKf]at o2
  exact o2
 have d1:decide ((i:Int)<(n:Int))=true:=by simp;omega
 have hin:(i:Int).toNat=i:=aJI _
 have q1:(i:Int)+1=((i+1:Nat):Int):=by omega
 unfold I8 I7 Sp
 simp(disch:=omega)only[SV,d1]
 unfold LB LA UZ vZ
 refine aBT (os.ext x2 λb hb h=>by omega) hl (by omega) ?_
 have hcut:=aEt (W:=W) (l:=l) hv0l hlt
 unfold Ly Lx
 have xd:=x2.seq (aL.dr w2 _)
 have osd:=osb.ext xd (λh=>hne h.symm)
 have c5:(dr w2).cell? ⟨sb,5,none⟩=some (.slice (some ⟨hb,0,none⟩) n c):=osd.cell (off:=5)
 have od:=dB o2
 obtain⟨vb,vc,rest2,hwv,hvb,ov,_⟩:∃b c rest,wv= .slice (some ⟨b,0,none⟩) n c/\K+1<=b/\bD (dr w2) b (W.map Value.bool++rest)/\True:=by
  rcases(ow.ext xd λb hb h=>by omega).2 with⟨_,h0⟩|⟨b,c,rest,h1,h2,h3,_⟩
  .omega
  .exact ⟨b,c,rest,h1,h2,h3,trivial⟩
 subst hwv
 have hWl:W.length=n:=by have:=ow.1;rw[aJC]at this;omega
 have cw:(dr w2).cell? ⟨vb,i,none⟩=some (.bool (W.getD i false)):=by
  rw[ov.cell,aJ0 (by rw[aJC];omega),aJ4,aJE (by omega),aJL,aJE (by omega)]
  rfl
 have hsz:∀z:Bool,z=(l.any (λr=>r.1==2&&r.2==i)&&W.getD i false)->∀w3,bD w3 hb (((((List.range i).map λj=>l.any (λr=>r.1==2&&r.2==j)&&W.getD j false)++hv0.drop i).map Value.bool++rest).set i (.bool z))->bD w3 hb ((((List.range (i+1)).map λj=>l.any (λr=>r.1==2&&r.2==j)&&W.getD j false)++hv0.drop (i+1)).map Value.bool++rest):=by
  intro z hz w3 o3
  rw[aLa _ _ (by simp;omega),<-aKW,hz,hcut]at o3
  exact o3
 cases hT:(l.any λr=>r.1==2&&r.2==i)with
 |false=>
  rw[hT,aKH]at hsz
  simp(disch:=omega)only[SV,c5,hin,aJG]
  refine vD od rfl (by simp;omega) λw3 o3 x3 s3=> ?_
  have o3:=hsz false rfl w3 o3
  simp(disch:=omega)only[SV,q1]
  exact⟨n-(i+1),by omega,i+1,rfl,by omega,rfl,o3,xd.seq x3⟩
 |true=>
  rw[hT,aKM]at hsz
  simp(disch:=omega)only[SV,c5,hin,cw,aJG]
  refine vD od rfl (by simp;omega) λw3 o3 x3 s3=> ?_
  have o3:=hsz _ rfl w3 o3
  simp(disch:=omega)only[SV,q1]
  exact⟨n-(i+1),by omega,i+1,rfl,by omega,rfl,o3,xd.seq x3⟩
end
theorem Q4.ext {w w':aL0}{n0 db sb ra rb:Nat}{cd cs:List aL1}{M:Nat->Prop}(q:Q4 w n0 db sb ra rb cd cs)(x:aL w w' M)(hM:¬M db/\¬M sb/\¬M ra/\¬M rb):Q4 w' n0 db sb ra rb cd cs:=
 ⟨q.d.ext x hM.1,q.s.ext x hM.2.1,q.a.ext x hM.2.2.1,q.b.ext x hM.2.2.2,q.ne,q.h5,q.h9,q.v5,q.v9,q.n5,q.n9⟩
def aFk:aL1->Bool| .bool _=>true|_=>false
theorem asO{w w':aL0}{sz n hb:Nat}{v:aL1}{l rest:List aL1}{bs bs':List Bool}(h:Cl w sz v n l)(hl:∀y∈l,aFk y=false)(o:bD w hb (bs.map Value.bool++rest))(o':bD w' hb (bs'.map Value.bool++rest))(hlen:bs'.length=bs.length)(x:aL w w' (λy=>y=hb)):Cl w' sz v n l:=by
 obtain⟨a,c,rfl,hln,hh⟩:=h
 refine⟨a,c,rfl,hln,λh0=> ?_⟩
 obtain⟨b,off,rfl,h2⟩:=hh h0
 refine⟨b,off,rfl,λi hi=> ?_⟩
 have h3:=h2 i hi
 have hy:=hl _ (aKp hi)
 rw[aJE hi]at h3⊢
 generalize l[i]=y at*
 by_cases hb':b=hb
 .subst hb'
  rw[o.cell]at h3
  rw[o'.cell]
  by_cases hlt:off+i<bs.length
  .rw [aJ0 (by rw[aJC];omega),aJ4,aJE hlt]at h3
   simp only[aKs,aKc]at h3
   rw[<-h3]at hy
   cases hy
  .rw [aJ2 (by rw[aJC];omega),aJC]at h3⊢
   rw[hlen];exact h3
 .rw [vW h3 x hb']
theorem uA.keepB {n hb:Nat}{w w':aL0}{S:cG}{dv:aL1}{rest:List aL1}{bs bs':List Bool}(h:uA Z n w S dv)(o:bD w hb (bs.map Value.bool++rest))(o':bD w' hb (bs'.map Value.bool++rest))(hlen:bs'.length=bs.length)(x:aL w w' (λy=>y=hb)):uA Z n w' S dv:=by
 obtain⟨D,sv,wv,h1,h2,h3⟩:=h
 refine⟨D,sv,wv,h1,⟨⟨asO h2.sure.1 (λy hy=> ?_) o o' hlen x,h2.sure.2.1,λb hb=>aKe (h2.sure.2.2 b hb) x.size⟩,asO h2.way (λy hy=> ?_) o o' hlen x,h2.wz⟩,h3⟩
 .obtain ⟨p,-,hy⟩:=aLA.1 hy
  simp only[aJK,aJN,or_false]at hy
  rcases hy with rfl|rfl<;>rfl
 .obtain ⟨p,-,hy⟩:=aLA.1 hy
  simp only[aJK,aJN,or_false]at hy
  rcases hy with rfl|rfl|rfl|rfl|rfl<;>rfl
def aBj(Z:Nat->Prop)(N:Nat)(w:aL0)(lv:aL1)(R:cG×Option eT×Int)(r:aL1)(w':aL0):Prop:=
 ∃dv' sv',r= .tuple #[dv',sv',.int .i64 R.2.2]/\uA Z N w' R.1 dv'/\aL w w' aT/\match R.2.1 with
  |some s=>∃hv,sv'= .agg (yU s lv hv).toArray/\Uk w' s lv hv/\mP w' w.heap.size 1 hv s.hv.length (s.hv.map Value.bool)
  |none=>sv'= .agg Z9.toArray
structure OSt(w w1:aL0)(sb:Nat)(s:eT)(lv hv:aL1):Prop where
 man:CM s.man
 lv:Cl w 32 lv s.man.leaves.length (V6 s.man.leaves)
 hv:mP w1 (sb+1) 1 hv s.hv.length (s.hv.map Value.bool)
 ep:s.epoch<18446744073709551616
 lg:s.log<=900000000
 hl:s.hv.length<=1024
 nl:s.nm.size<=27
theorem OSt.rs {w w1:aL0}{sb:Nat}{s:eT}{lv hv:aL1}(h:OSt w w1 sb s lv hv)(x:aL w w1 aT):Uk w1 s lv hv:=
 ⟨h.man,dS h.lv x (bC _),h.hv.sl,h.ep,h.lg,h.hl,h.nl⟩
theorem OSt.ext {w w1 w2:aL0}{sb:Nat}{s:eT}{lv hv:aL1}{M:Nat->Prop}(h:OSt w w1 sb s lv hv)(x:aL w1 w2 M)(hM:∀b,sb<b->¬M b):OSt w w2 sb s lv hv:=
 ⟨h.man,h.lv,h.hv.ext x (λb hb hm=>hM b (by omega) hm),h.ep,h.lg,h.hl,h.nl⟩
section
variable{N:Nat}{S:cG}{s:eT}{cd:List aL1}{lv hv o:aL1}{l:List (Nat×Nat)}{w w1:aL0}{n0 db sb ra rb:Nat}{RR:aL1->aL0->Prop}
theorem Mr{e:Int}(hn0:n0=w.heap.size)(hord:w.heap.size<=db/\w.heap.size<=ra/\w.heap.size<=rb/\db≠ra/\ra≠rb)(x1:aL w w1 aT)(oa:bD w1 ra Z5)(ob:bD w1 rb Z9)(hd:uA Z N w1 S (.agg cd.toArray))(h5:cd.length=5)(v5:∀x∈cd,one x=true)
 (hK:∀r w',aBj Z N w lv (S,none,e) r w'->RR r w'):
 aA pg (aF 40 (.pointer (some ⟨ra,0,none⟩)) (.agg cd.toArray)) w1 λ_ w=>aA pg (aF 47 (.pointer (some ⟨rb,0,none⟩)) (.agg Z9.toArray)) w λ_ w=>
  lO pg 40 (.pointer (some ⟨ra,0,none⟩)) w λr0=>lO pg 47 (.pointer (some ⟨rb,0,none⟩)) w λr1=>RR (.tuple #[r0,r1,.int .i64 e]) w:=by
 have z1:=x1.size
 refine aHb oa ob hord.2.2.2.2 rfl rfl h5 rfl v5 (by intro x hx;simp only[aJK,aJN,or_false]at hx;rcases hx with rfl|rfl|rfl|rfl|rfl|rfl|rfl|rfl|rfl<;>rfl) λw' x=> ?_
 refine hK _ _ ⟨_,_,rfl,hd.keep x λb hb=> ?_,x1.trans x λy hy h=>by omega,rfl⟩
 rcases hb with rfl|rfl
 .exact .inl ⟨_,oa,rfl⟩
 .exact .inl ⟨_,ob,rfl⟩
theorem aiC(hn0:n0=w.heap.size)(hord:db<sb/\ra<sb/\rb<sb)(x1:aL w w1 aT)(q:Q4 w1 n0 db sb ra rb cd (yU s lv hv))(hd:uA Z N w1 S (.agg cd.toArray))(ho:OSt w w1 sb s lv hv)
 (hK:∀r w',aBj Z N w lv (if(AP S).2≠0 then((AP S).1,none,(AP S).2)else((AP S).1,some s,0)) r w'->RR r w'):
 Fv RR (.pointer (some ⟨db,0,none⟩)) (.pointer (some ⟨ra,0,none⟩)) (.pointer (some ⟨rb,0,none⟩)) (.pointer (some ⟨sb,0,none⟩)) w1:=by
 have hne:=q.ne
 have z1:=x1.size
 unfold Fv
 have ld:=cF q.d q.h5
 simp(disch:=omega)only[SV,ld]
 refine(Yk hd).mono ?_
 rintro r w2 ⟨dv',rfl,hd2,x2⟩
 obtain⟨ce,rfl,ce5,cec,ce1,cen⟩:=hd2.cs
 have q2:=q.new x2
 simp(disch:=omega)only[SV]
 refine cR q2.d q.h5 ce5 ce1 λw3 o3 x3 s3=> ?_
 have q3:=q2.setD x3 o3 ce5 ce1 cen
 have hd3:=q2.keep hd2 x3 λb hb=>by omega
 have x03:aL w w3 aT:=(x1.seq x2).trans x3 λy hy h=>by omega
 have ho3:=(ho.ext x2 λb hb h=>h).ext x3 λb hb h=>by omega
 by_cases hE:(AP S).2=0
 .have k1:((AP S).2 !=0)=false:=by rw[hE]<;>rfl
  rw[if_neg (λh=>h hE)]at hK
  have qd:=q3.new (aL.dr w3 aT)
  have l5:=cF qd.d ce5
  have l9:=eS qd.s rfl
  simp(disch:=omega)only[SV,k1,l5,l9]
  refine U1 qd ce5 rfl ce1 q.v9 _ (λw' x=>eS (qd.s.ext x hne.2.2.2.2.2.2.2.1) rfl) λw4 x4=> ?_
  have x04:aL w w4 aT:=(x03.seq (aL.dr w3 aT)).trans x4 λy hy h=>by omega
  have ho4:=(ho3.ext (aL.dr w3 aT) λb hb h=>h).ext x4 λb hb h=>by omega
  exact hK _ _ ⟨_,_,rfl,qd.keep (hd3.new (aL.dr w3 aT)) x4 λb hb=>by omega,x04,hv,rfl,ho4.rs x04,ho4.hv.lower (by omega)⟩
 .have k1:((AP S).2 !=0)=true:=bne_iff_ne.2 hE
  rw[if_pos hE]at hK
  have l5:=cF q3.d ce5
  simp(disch:=omega)only[SV,k1,l5]
  have hb1:w.heap.size<=db/\w.heap.size<=ra/\w.heap.size<=rb/\db≠ra/\ra≠rb:=by omega
  exact Mr hn0 hb1 x03 q3.a q3.b hd3 ce5 ce1 hK
theorem aDN{mb n:Nat}(hn0:n0=w.heap.size)(hord:db<sb/\ra<sb/\rb<sb)(x1:aL w w1 aT)(q:Q4 w1 n0 db sb ra rb cd (yU s lv hv))(hd:uA Z (N+2) w1 S (.agg cd.toArray))(ho:OSt w w1 sb s lv hv)(om:bD w1 mb (xV s.man lv))(hmb:mb<sb/\mb≠db/\w.heap.size<=mb)(hn:n=s.man.leaves.length)(hhl:s.hv.length=n)
 {K:Nat} (ol:DJ w1 (λb=>K<b) 2 o l.length (l.flatMap qD)) (hK1:sb<=K/\K<w1.heap.size) (hhK:∀b c,hv= .slice (some ⟨b,0,none⟩) n c->b<=K) (hll:l.length<=100000000) (hbl:∀b,bF (aZ s.nm) S.seen=some b->b.length<=800000)
 (hK:∀r w',aBj Z N w lv (KS S s l) r w'->RR r w'):
 Dn RR (.pointer (some ⟨db,0,none⟩)) (.pointer (some ⟨mb,0,none⟩)) (.pointer (some ⟨ra,0,none⟩)) (.pointer (some ⟨rb,0,none⟩)) (.int .i64 (n:Nat)) (.pointer (some ⟨sb,0,none⟩)) o w1:=by
 have hne:=q.ne
 have z1:=x1.size
 have hm:=ho.man
 have c7':w1.cell? ⟨sb,7,none⟩=some (.bool s.fin):=q.s.cell (off:=7)
 unfold KS at hK
 unfold Dn Jb St Ja
 cases hfi:s.fin with
 |true=>
  rw[hfi]at c7'
  rw[if_pos hfi]at hK
  unfold Ss
  simp(disch:=omega)only[SV,c7']
  exact aiC hn0 hord x1 q (hd.le (by omega)) ho hK
 |false=>
 rw[hfi]at c7'
 rw[if_neg (by rw[hfi];decide)]at hK
 unfold Sr Sq
 have l5:=cF q.d q.h5
 have l9:=eS q.s rfl
 simp(disch:=omega)only[SV,c7',l5,l9]
 refine(azB hd (ho.rs x1) hbl).mono ?_
 rintro r w2 ⟨dv',rfl,hd2,hb8,x2⟩
 obtain⟨ce,rfl,ce5,cec,ce1,cen⟩:=hd2.cs
 have q2:=q.new x2
 simp(disch:=omega)only[SV]
 refine cR q2.d q.h5 ce5 ce1 λw3 o3 x3 s3=> ?_
 have q3:=q2.setD x3 o3 ce5 ce1 cen
 have hd3:=q2.keep hd2 x3 λb hb=>by omega
 have x03:aL w w3 aT:=(x1.seq x2).trans x3 λy hy h=>by omega
 have ho3:=(ho.ext x2 λb hb h=>h).ext x3 λb hb h=>by omega
 have om3:=(om.ext x2 (λh=>h)).ext x3 hmb.2.1
 by_cases hE:(cC S s).2.2=0
 rotate_left
 .have k1:((cC S s).2.2 !=0)=true:=bne_iff_ne.2 hE
  rw[if_pos hE]at hK
  have l5:=cF q3.d ce5
  simp(disch:=omega)only[SV,k1,l5]
  have hb1:w.heap.size<=db/\w.heap.size<=ra/\w.heap.size<=rb/\db≠ra/\ra≠rb:=by omega
  exact Mr hn0 hb1 x03 q3.a q3.b hd3 ce5 ce1 hK
 have k1:((cC S s).2.2 !=0)=false:=by rw[hE]<;>rfl
 rw[if_neg (λh=>h hE)]at hK
 have ldm:(aB 44 (.pointer (some ⟨mb,0,none⟩))).run pg w3= .ok (.value (.agg (xV s.man lv).toArray)) w3:=iF (off:=0) om3 (by simp)
 simp(disch:=omega)only[SV,k1,ldm]
 refine(SA hm (dS ho.lv x03 (bC _)) hb8).mono ?_
 rintro wv w4 ⟨o4,x4⟩
 have x04:=x03.seq x4
 have q4:=q3.new x4
 have hd4:=hd3.new x4
 have ho4:=ho3.ext x4 λb hb h=>h
 rw[<-hn]at o4
 unfold pH
 have z2:=x2.size
 have z3:=x3.size
 have z4:=x4.size
 have hlt:=q3.s.lt
 have ol4:DJ w4 (λb=>K<b) 2 o l.length (l.flatMap qD):=((ol.ext x2 λb hb h=>h).ext x3 λb hb h=>by omega).ext x4 λb hb h=>h
 have hcn:=hm.cnt
 have hcm:=hm.max
 rcases ho4.hv.2 with⟨hv0,h0⟩|⟨hb,c,rest,hve,hhb,ov,hvl,hvc⟩
 .
  have hn0':n=0:=by omega
  have d1:decide (((0:Nat):Int)<((0:Nat):Int))=false:=rfl
  have htl:nH l (bQ aX s.man (cC S s).2.1) s.man.leaves.length=s.hv:=by
   rw[<-hn,hn0',aKd.1 h0]<;>rfl
  rw[htl]at hK
  rw[hn0']
  try unfold pH
  refine bM.rule (λq (t:aL1) w'=>t= .int .i64 0/\w'=w4) 0 ⟨rfl,rfl⟩ ?_
  rintro q0 t w' ⟨rfl,hw⟩
  rw[hw];clear hw w'
  have d2:decide ((0:Int)<0)=false:=rfl
  unfold Dm I9
  simp(disch:=omega)only[SV,d1,d2]
  exact aiC hn0 hord x04 q4 hd4 ho4 hK
 .have hbK:=hhK hb c (by rw[<-hhl];exact hve)
  have qs:=q4.s
  rw[hve,hhl]at qs
  refine aBR (l:=l) (W:=bQ aX s.man (cC S s).2.1) (hv0:=s.hv) ol4 hll (o4.lower (by omega)) (by omega) hhl qs ov hbK (by omega) λw5 o5 x5=> ?_
  have x05:aL w w5 aT:=x04.trans x5 λy hy h=>by omega
  have q5:=q4.ext x5 (by omega)
  have hd5:=hd4.keepB ov o5 (by rw[Gg];omega) x5
  have hT:mP w5 (sb+1) 1 hv (nH l (bQ aX s.man (cC S s).2.1) n).length ((nH l (bQ aX s.man (cC S s).2.1) n).map Value.bool):=by
   rw[Gg]
   refine⟨by rw[aJC,Gg];omega,.inr ⟨hb,c,rest,by rw[hve,hhl],hhb,o5, ?_,by omega⟩⟩
   rw[aJF,aJC]at hvl⊢
   rw[Gg,<-hhl];exact hvl
  rw[<-hn]at hK
  exact aiC (s:={s with hv:=nH l (bQ aX s.man (cC S s).2.1) n}) hn0 hord x05 q5 hd5 ⟨hm,ho.lv,hT,ho.ep,ho.lg,by show(nH _ _ _).length<=1024;rw[Gg];omega,ho.nl⟩ hK
end
end Go.Proofs.YteelnmpbnaohpaaGreatDoor
namespace Go.Proofs.YteelnmpbnaohpaaGreatDoor
open Go Go.En Go.Pu
set_option maxRecDepth 4000
set_option maxHeartbeats 2000000
variable {Z : Nat -> Prop}
theorem aG0 {w:aL0}{base sz n b o c n':Nat}{v:aL1}{l:List aL1}(h:mP w base sz v n l)(he:v= .slice (some ⟨b,o,none⟩) n' c):b<w.heap.size:=by
 rcases h.2 with⟨h1,_⟩|⟨b',c',rest,h1,_,h3,_⟩
 .rw [h1]at he;cases he
 .rw [h1]at he;cases he;exact h3.lt
theorem vR{N:Nat}{S:cG}{nm:ByteArray}{m:Gh}{dv lv:aL1}{w:aL0}(h:uA Z (N+3) w S dv)(hm:CM m)(hlv:Cl w 32 lv m.leaves.length (V6 m.leaves))(hnm:1<=nm.size/\nm.size<=27)
 (hb1:∀b,bF nm S.seen=some b->b.length<=800000) (hb2:∀b,bF (cZ nm) S.seen=some b->b.length<=800000) (hb3:∀b,bF (aZ nm) S.seen=some b->b.length<=800000):
 aG pg fM #[dv,.string nm,.agg (xV m lv).toArray] w (aBj Z N w lv (sY aX aY S nm m)):=by
 refine aeN ?_
 obtain⟨RR,hRR⟩:∃RR:aL1->aL0->Prop,RR=aBj Z N w lv (sY aX aY S nm m):=⟨_,rfl⟩
 rw[<-hRR]
 have hO:=Er S nm m
 have hK:∀r w',aBj Z N w lv (sY aX aY S nm m) r w'->RR r w':=λr w' h=>by rw[hRR];exact h
 rw[hO]at hK
 obtain⟨cd,rfl,cd5,cdc,cd1,cdn⟩:=h.cs
 have hm1:=hm.size
 have hm2:=hm.part
 have hm3:=hm.cnt
 have hm4:=hm.max
 unfold ajD Sy Sx
 refine cA λw1 o1 x1 s1=> ?_
 rw[cdc]at o1
 refine cA λw2 o2 x2 s2=> ?_
 rw[Vx hlv]at o2
 refine aV λw3 o3 x3 s3=> ?_
 refine bP λw4 o4 x4 s4=> ?_
 obtain⟨db,hdb⟩:∃db,db=w.heap.size:=⟨_,rfl⟩
 obtain⟨mb,hmb⟩:∃mb,mb=w1.heap.size:=⟨_,rfl⟩
 obtain⟨ra,hra⟩:∃ra,ra=w2.heap.size:=⟨_,rfl⟩
 obtain⟨rb,hrb⟩:∃rb,rb=w3.heap.size:=⟨_,rfl⟩
 rw[<-hdb]at o1⊢
 rw[<-hmb]at o2⊢
 rw[<-hra]at o3⊢
 rw[<-hrb]at o4⊢
 have od:=o1.ext ((x2.seq x3).seq x4) (λh=>h)
 have om:=o2.ext (x3.seq x4) (λh=>h)
 have oa:=o3.ext x4 (λh=>h)
 have oa:bD w4 ra Z5:=oa
 have o4:bD w4 rb Z9:=o4
 have x04:aL w w4 aT:=((x1.seq x2).seq x3).seq x4
 have z4:=x04.size
 have hbk:w.heap.size<=db/\w.heap.size<=ra/\w.heap.size<=rb/\db≠ra/\ra≠rb:=by omega
 have k0:(nm.toList==(⟨#[]⟩:ByteArray).toList)=false:=by rw[arI,decide_eq_false (by omega)]
 have d1:decide ((27:Int)<(nm.size:Int))=false:=decide_eq_false (by omega)
 have c0:w4.cell? ⟨mb,0,none⟩=some (.int .u64 (m.size:Nat)):=om.cell (off:=0)
 have c1:w4.cell? ⟨mb,1,none⟩=some (.int .u32 (m.part:Nat)):=om.cell (off:=1)
 have c2:w4.cell? ⟨mb,2,none⟩=some lv:=om.cell (off:=2)
 obtain⟨la,lc,hlve,_⟩:=id hlv
 rw[hlve]at c2
 have e1:IntKind.i64.wrap ((m.part:Nat):Int)=((m.part:Nat):Int):=dG (by omega) (by omega)
 simp(disch:=omega)only[SV,Lg,k0,d1,c0,c1,e1]
 refine(ajH (by omega) hm2.1 hm2.2 hm4).mono ?_
 rintro r w5 ⟨rfl,hw5⟩
 rw[hw5];clear hw5 w5
 have n0:((0:Int) !=0)=false:=rfl
 have n1:(((lD m.size m.part:Nat):Int) !=((m.leaves.length:Nat):Int))=false:=by rw[hm3];simp
 have ldm:(aB 44 (.pointer (some ⟨mb,0,none⟩))).run pg w4= .ok (.value (.agg (xV m lv).toArray)) w4:=iF (off:=0) om (by simp)
 rw[<-hm3]at*
 simp(disch:=omega)only[SV,n0,n1,c2,ldm]
 refine bP λw5 o5 x5 s5=> ?_
 obtain⟨sb,hsb⟩:∃sb,sb=w4.heap.size:=⟨_,rfl⟩
 rw[<-hsb]at o5⊢
 have hs0:Uk w ⟨nm,m,0,[],0,false,0⟩ lv (.slice none 0 0):=⟨hm,hlv,Sl.nil _,by show(0:Nat)<_;omega,by show(0:Nat)<=_;omega,by show(0:Nat)<=_;omega,hnm.2⟩
 refine fL (xs:=yU ⟨nm,m,0,[],0,false,0⟩ lv (.slice none 0 0)) o5 rfl rfl (lY hs0 _) λw6 o6 x6 s6=> ?_
 have x46:aL w4 w6 aT:=x5.trans x6 λy hy h=>by omega
 have q6:Q4 w6 w.heap.size db sb ra rb cd (yU ⟨nm,m,0,[],0,false,0⟩ lv (.slice none 0 0)):=⟨od.ext x46 (λh=>h),o6,oa.ext x46 (λh=>h),o4.ext x46 (λh=>h),by omega,cd5,rfl,cd1,lY hs0 _,cdn,pS _ _ _⟩
 have x06:=x04.seq x46
 have om6:=om.ext x46 (λh=>h)
 have hd6:=h.new x06
 have l5:=cF q6.d cd5
 simp(disch:=omega)only[SV,l5]
 refine(ajN hd6).mono ?_
 rintro r w7 ⟨rfl,x7⟩
 have x07:=x06.seq x7
 have q7:=q6.new x7
 have om7:=om6.ext x7 (λh=>h)
 have hd7:=hd6.new x7
 obtain⟨B,T,E,hr⟩:∃B T E,bS S nm=(B,T,E):=⟨_,_,_,rfl⟩
 have hBl:B.length<=800000:=by
  unfold bS at hr
  split at hr
  .cases hr;simp
  .split at hr
   .cases hr;simp
   .rename_i hg
    cases hr
    exact hb1 _ hg
 have hini:qA S nm m=⟨nm,m,0,bQ aX m B,0,T&&B.length==m.size&&Ae (bQ aX m B),0⟩:=by unfold qA;rw[hr]
 rw[hini]at hK
 rw[hr]at hK⊢
 by_cases hE:E=0
 rotate_left
 .have k1:(E !=0)=true:=bne_iff_ne.2 hE
  rw[if_pos hE]at hK
  have l5:=cF q7.d cd5
  simp(disch:=omega)only[SV,k1,l5]
  exact Mr rfl hbk x07 q7.a q7.b (hd7.le (by omega)) cd5 cd1 hK
 have k1:(E !=0)=false:=by rw[hE]<;>rfl
 rw[if_neg (λh=>h hE)]at hK
 have ldm7:(aB 44 (.pointer (some ⟨mb,0,none⟩))).run pg w7= .ok (.value (.agg (xV m lv).toArray)) w7:=iF (off:=0) om7 (by simp)
 simp(disch:=omega)only[SV,k1,ldm7]
 refine(SA hm (dS hlv x07 (bC _)) hBl).mono ?_
 rintro hv w8 ⟨o8,x8⟩
 obtain⟨W,hW⟩:∃W,W=bQ aX m B:=⟨_,rfl⟩
 have hWl:W.length=m.leaves.length:=by rw[hW];unfold bQ;simp
 rw[<-hW]at hK o8
 have z7:=x7.size
 have hlt:=q7.s.lt
 rw[<-hWl]at o8
 obtain⟨va,vc,hva⟩:∃a c,hv= .slice a W.length c:=by
  obtain⟨a,c,h,_⟩:=o8.sl.len
  rw[aJC]at h
  exact⟨a,c,h⟩
 have q8:=q7.new x8
 refine EL q8.s (by rw[hva]<;>rfl) (by simp) λw9 o9 x9 s9=> ?_
 have o9:bD w9 sb (yU ⟨nm,m,0,W,0,false,0⟩ lv hv):=o9
 have ov9:mP w9 (sb+1) 1 hv W.length (W.map Value.bool):=(o8.ext x9 λb hb h=>by omega).lower (by omega)
 have hvV:∀s',∀x∈yU s' lv hv,one x=true:=λs'=>MD hs0 ov9 s'
 have q9:=q8.setS x9 o9 rfl (hvV _) (pS _ _ _)
 have x08:=x07.seq x8
 have hd8:=hd7.new x8
 have z8:=x08.size
 have hd9:=q8.keep hd8 x9 λb hb=>by omega
 have x09:aL w w9 aT:=x08.trans x9 λy hy h=>by omega
 have om9:=(om7.ext x8 (λh=>h)).ext x9 (by omega)
 have c09:w9.cell? ⟨mb,0,none⟩=some (.int .u64 (m.size:Nat)):=om9.cell (off:=0)
 have c59:w9.cell? ⟨sb,5,none⟩=some hv:=o9.cell (off:=5)
 have hBz:(⟨B.toArray⟩:ByteArray).size=B.length:=by simp[ByteArray.size]
 have e2:IntKind.u64.wrap ((B.length:Nat):Int)=((B.length:Nat):Int):=gX (by omega) (by omega)
 obtain⟨fin,hfin⟩:∃fin,fin=(T&&B.length==m.size&&Ae W):=⟨_,rfl⟩
 rw[<-hfin]at hK
 have hkk:(((B.length:Nat):Int)==((m.size:Nat):Int))=(B.length==m.size):=by
  by_cases h:B.length=m.size
  .rw [h];simp
  .rw [beq_eq_false_iff_ne.2 h,beq_eq_false_iff_ne];omega
 have hcat:=λt ox oy w=>afJ (n:=nm) hnm.2 t ox oy w
 cases hT:T
 case' false=>
  rw[hT,aKH,aKH]at hfin
  simp(disch:=omega)only[SV]
 case' true=>
  rw[hT,aKM]at hfin
  cases hL:(B.length==m.size)
  case' false=>
   rw[hL,aKH]at hfin
   rw[hL]at hkk
   simp(disch:=omega)only[SV,hBz,e2,c09,hkk]
  case' true=>
   rw[hL,aKM]at hfin
   rw[hL]at hkk
   simp(disch:=omega)only[SV,hBz,e2,c09,hkk,c59]
   refine(ajG ov9.sl (by omega)).mono ?_
   rintro r w10 ⟨rfl,hw10⟩
   rw[hw10];clear hw10 w10
   rw[<-hfin]
 all_goals
  refine vD o9 rfl (by simp) λw10 o10 x10 s10=> ?_
  have o10:bD w10 sb (yU ⟨nm,m,0,W,0,fin,0⟩ lv hv):=by first|exact o10|(rw[hfin];exact o10)
  have q10:=q9.setS x10 o10 rfl (hvV _) (pS _ _ _)
  have hd10:=q9.keep hd9 x10 λb hb=>by omega
  have x010:aL w w10 aT:=x09.trans x10 λy hy h=>by omega
  have om10:=om9.ext x10 (by omega)
  have ov10:=ov9.ext x10 λb hb h=>by omega
  have l5:=cF q10.d cd5
  simp(disch:=omega)only[SV,l5,hcat]
  refine(ajN hd10).mono ?_
  rintro r w11 ⟨rfl,x11⟩
  obtain⟨G,T2,E2,hr2⟩:∃G T2 E2,bS S (cZ nm)=(G,T2,E2):=⟨_,_,_,rfl⟩
  have hGl:G.length<=800000:=by
   unfold bS at hr2
   split at hr2
   .cases hr2;simp
   .split at hr2
    .cases hr2;simp
    .rename_i hg
     cases hr2
     exact hb2 _ hg
  have hB:fU S ⟨nm,m,0,W,0,fin,0⟩=if E2≠0 then(S,⟨nm,m,0,W,0,fin,0⟩,E2,[])else if dU 1 (gB aY G)=18446744073709551615 then(S,⟨nm,m,0,W,0,fin,0⟩,23,[])else
      ((bZ aY S ⟨nm,m,dU 1 (gB aY G)+1,W,13*(gB aY G).length,fin,0⟩ 1 (dU 1 (gB aY G)+1)).1,(bZ aY S ⟨nm,m,dU 1 (gB aY G)+1,W,13*(gB aY G).length,fin,0⟩ 1 (dU 1 (gB aY G)+1)).2.1,(bZ aY S ⟨nm,m,dU 1 (gB aY G)+1,W,13*(gB aY G).length,fin,0⟩ 1 (dU 1 (gB aY G)+1)).2.2,gB aY G):=by
   unfold fU
   rw[hr2]
  rw[hr2]
  have q11:=q10.new x11
  have hd11:=hd10.new x11
  have om11:=om10.ext x11 (λh=>h)
  have x011:=x010.seq x11
  have ov11:=ov10.ext x11 λb hb h=>h
  by_cases hE2:E2=0
  rotate_left
  .have k2:(E2 !=0)=true:=bne_iff_ne.2 hE2
   rw[if_pos hE2]at hB
   rw[hB,if_pos hE2]at hK
   have l5:=cF q11.d cd5
   simp(disch:=omega)only[SV,k2,l5]
   exact Mr rfl hbk x011 q11.a q11.b (hd11.le (by omega)) cd5 cd1 hK
  have k2:(E2 !=0)=false:=by rw[hE2]<;>rfl
  rw[if_neg (λh=>h hE2)]at hB
  simp(disch:=omega)only[SV,k2]
  refine(aD8 (l:=G) (by omega)).mono ?_
  rintro r w12 ⟨o,rfl,ho,x12⟩
  obtain⟨l,hl⟩:∃l,l=gB aY G:=⟨_,rfl⟩
  have hll:13*l.length<=G.length:=by rw[hl];exact RC aY _ _
  have hok:∀r∈l,okR r:=by rw[hl];exact afR aY _ _
  rw[<-hl]at hB ho⊢
  have q12:=q11.new x12
  have x012:=x011.seq x12
  simp(disch:=omega)only[SV]
  refine DD q12.s rfl (by simp) λw13 o13 x13 s13=> ?_
  have o13:bD w13 sb (yU ⟨nm,m,0,W,13*l.length,fin,0⟩ lv hv):=o13
  have q13:=q12.setS x13 o13 rfl (hvV _) (pS _ _ _)
  have z11:=x011.size
  have z12:=x12.size
  have hlt11:=q11.s.lt
  have ho13:DJ w13 (λb=>w11.heap.size<=b) 2 o l.length (l.flatMap qD):=DJ.ext ho x13 λb hb h=>by omega
  have hd13:=q12.keep (hd11.new x12) x13 λb hb=>by omega
  have x013:aL w w13 aT:=x012.trans x13 λy hy h=>by omega
  have om13:=(om11.ext x12 (λh=>h)).ext x13 (by omega)
  have ov13:=(ov11.ext x12 (λ_ _ h=>h)).ext x13 λb hb h=>by omega
  unfold Jg Jf Sw sZ
  refine aBS (K:=w11.heap.size-1) (afT ho13 λb hb=>by omega) (by omega) hok ?_
  have hlast:=ahN (k:=1) hok
  unfold Jc Su
  obtain⟨V,hV⟩:∃V,V=dU 1 l:=⟨_,rfl⟩
  rw[<-hV]at hB hlast⊢
  by_cases hw:V=18446744073709551615
  .have k3:(((V:Nat):Int)==18446744073709551615)=true:=by rw[hw]<;>rfl
   rw[if_pos hw]at hB
   rw[hB,if_pos (show(23:Int)≠0 by decide)]at hK
   have l5:=cF q13.d cd5
   simp(disch:=omega)only[SV,k3,l5]
   exact Mr rfl hbk x013 q13.a q13.b (hd13.le (by omega)) cd5 cd1 hK
  have k3:(((V:Nat):Int)==18446744073709551615)=false:=by rw[beq_eq_false_iff_ne];omega
  rw[if_neg hw]at hB
  have e5:((V:Nat):Int)+1=((V+1:Nat):Int):=by omega
  have e6:IntKind.u64.wrap ((V+1:Nat):Int)=((V+1:Nat):Int):=gX (by omega) (by omega)
  simp(disch:=omega)only[SV,k3,e5,e6]
  refine MU q13.s rfl (by simp) λw14 o14 x14 s14=> ?_
  have o14:bD w14 sb (yU ⟨nm,m,V+1,W,13*l.length,fin,0⟩ lv hv):=o14
  have q14:=q13.setS x14 o14 rfl (hvV _) (pS _ _ _)
  have hd14:=q13.keep hd13 x14 λb hb=>by omega
  have z13:=x013.size
  have x014:aL w w14 aT:=x013.trans x14 λy hy h=>by omega
  have om14:=om13.ext x14 (by omega)
  have ov14:=ov13.ext x14 λb hb h=>by omega
  have ho14:DJ w14 (λb=>w11.heap.size<=b) 2 o l.length (l.flatMap qD):=DJ.ext ho13 x14 λb hb h=>by omega
  have hS14:OSt w w14 sb ⟨nm,m,V+1,W,13*l.length,fin,0⟩ lv hv:=⟨hm,hlv,ov14,by show V+1<_;omega,by show 13*l.length<=_;omega,by show W.length<=_;omega,hnm.2⟩
  have c4:w14.cell? ⟨sb,4,none⟩=some (.int .u64 ((V+1:Nat):Int)):=o14.cell (off:=4)
  have l5:=cF q14.d cd5
  have l9:=eS q14.s rfl
  simp(disch:=omega)only[SV,l5,l9,c4]
  refine(ajO (N:=N+2) (k:=1) (v:=V+1) hd14 (hS14.rs x014) (.inl rfl) (by omega)).mono ?_
  rintro r w15 ⟨dv',rfl,hd15,hs15,x15⟩
  obtain⟨Q,hQ⟩:∃Q,Q=bZ aY S ⟨nm,m,V+1,W,13*l.length,fin,0⟩ 1 (V+1):=⟨_,rfl⟩
  have hQs:Q.2.1=⟨nm,m,V+1,W,Q.2.1.log,fin,0⟩/\Q.2.1.log<=900000000:=by
   rw[hQ]
   unfold bZ
   simp only
   split
   .exact ⟨rfl,by show 13*l.length+13<=_;omega⟩
   .exact ⟨rfl,by show 13*l.length<=_;omega⟩
  have hQp:bF (aZ nm) Q.1.seen=bF (aZ nm) S.seen:=by
   rw[hQ]
   rcases avB (S:=S) (s:=⟨nm,m,V+1,W,13*l.length,fin,0⟩) (k:=1) (v:=V+1)with h|⟨u,h⟩
   .rw [h]
   .rw [h,Md,if_neg (aGr _)]
  rw[<-hQ]at hB hd15⊢
  obtain⟨ce,rfl,ce5,cec,ce1,cen⟩:=hd15.cs
  have q15:=q14.new x15
  simp(disch:=omega)only[SV]
  refine cR q15.d cd5 ce5 ce1 λw16 o16 x16 s16=> ?_
  have q16:=q15.setD x16 o16 ce5 ce1 cen
  have hd16:=q15.keep hd15 x16 λb hb=>by omega
  refine fL q16.s rfl (xs:=yU Q.2.1 lv hv) rfl (hvV _) λw17 o17 x17 s17=> ?_
  have q17:=q16.setS x17 o17 rfl (hvV _) (pS _ _ _)
  have hd17:=q16.keep hd16 x17 λb hb=>by omega
  have z14:=x014.size
  have z15:=x15.size
  have x017:aL w w17 aT:=((x014.seq x15).trans x16 λy hy h=>by omega).trans x17 λy hy h=>by omega
  have om17:=((om14.ext x15 (λh=>h)).ext x16 (by omega)).ext x17 (by omega)
  have ov17:=((ov14.ext x15 (λ_ _ h=>h)).ext x16 λb hb h=>by omega).ext x17 λb hb h=>by omega
  have ho17:DJ w17 (λb=>w11.heap.size<=b) 2 o l.length (l.flatMap qD):=DJ.ext (DJ.ext (DJ.ext ho14 x15 λb hb h=>h) x16 λb hb h=>by omega) x17 λb hb h=>by omega
  by_cases hE3:Q.2.2=0
  rotate_left
  .have k4:(Q.2.2 !=0)=true:=bne_iff_ne.2 hE3
   rw[hB,if_pos hE3]at hK
   have l5:=cF q17.d ce5
   simp(disch:=omega)only[SV,k4,l5]
   exact Mr rfl hbk x017 q17.a q17.b (hd17.le (by omega)) ce5 ce1 hK
  have k4:(Q.2.2 !=0)=false:=by rw[hE3]<;>rfl
  rw[hB,if_neg (λh=>h hE3)]at hK
  obtain⟨lg,hQ2,hlg⟩:∃lg,Q.2.1=⟨nm,m,V+1,W,lg,fin,0⟩/\lg<=900000000:=⟨_,hQs.1,hQs.2⟩
  rw[hQ2]at hK q17
  simp(disch:=omega)only[SV,k4]
  exact aDN (mb:=mb) (K:=w11.heap.size-1) rfl (by omega) x017 q17 hd17 ⟨hm,hlv,ov17,by show V+1<_;omega,hlg,by show W.length<=_;omega,hnm.2⟩ om17 (by omega) rfl hWl (afT ho17 λb hb=>by omega) (by have:=x17.size;have:=x16.size;omega) (λb c hbc=>by have:=aG0 ov11 hbc;omega) (by omega) (by rw[hQp];exact hb3) hK
end Go.Proofs.YteelnmpbnaohpaaGreatDoor
namespace Go.Proofs.YteelnmpbnaohpaaGreatDoor
open Go Go.En Go.Pu
set_option maxRecDepth 4000
variable {Z : Nat -> Prop}
theorem aFN{N:Nat}{room:Int}{w:aL0}(h0:0<=room)(h1:room<=16777216)(hN:N<=50000)(hZ:∀b,Z b->b<w.heap.size):
 aG pg J3 #[.int .i64 room] w (λr w'=>∃dv,r= .tuple #[dv,.int .i64 0]/\uA Z N w' (Xd room) dv/\aL w w' aT):=by
 refine aiU ?_
 unfold aoG XR
 refine aV λw1 o1 x1 s1=> ?_
 have d1:decide (room<0)=false:=decide_eq_false (by omega)
 have d2:decide ((16777216:Int)<room)=false:=decide_eq_false (by omega)
 simp(disch:=omega)only[SV,d1,d2]
 refine cR (xs:=[.int .i64 room,.slice none 0 0,.slice none 0 0,.int .i64 (-1),.bool false]) o1 rfl rfl (by intro x hx;simp only[aJK,aJN,or_false]at hx;rcases hx with rfl|rfl|rfl|rfl|rfl<;>rfl) λw2 o2 x2 s2=> ?_
 refine dW o2 (by simp) ?_
 have x02:aL w w2 aT:=x1.trans x2 λy hy h=>by omega
 refine⟨_,rfl,⟨⟨room,[],[],-1,false⟩,.slice none 0 0,.slice none 0 0,rfl,⟨⟨⟨none,0,rfl,rfl,λh=>absurd h (Nat.lt_irrefl 0)⟩,λh=>h,λb hb=>aKe (hZ b hb) x02.size⟩,⟨none,0,rfl,rfl,λh=>absurd h (Nat.lt_irrefl 0)⟩,λh=>h⟩, ?_⟩,x02⟩
 refine⟨aFV room,⟨⟨by show-1<=(-1:Int)/\(-1:Int)<=9223372036854775807;decide,by show 0<=1099511627776;decide,by show 0<=1000000;decide,⟨h0,h1⟩⟩,by show 0<=1000000000;decide,by show 0+N<=1000000;omega⟩,⟨λn b h=>(nomatch h),λo ho=>(nomatch ho),by show 0+0<=50000;decide⟩,by show 0+0+N<=50000;omega⟩
theorem aB6 {N:Nat}{S:cG}{dv kv:aL1}{ks:List Bool}{w:aL0}(h:uA Z N w S dv)(hk:Sl w kv (ks.map Value.bool))(hkl:ks.length<=9223372036854775807)(hs:bN (crS S ks).seen<=1000000000):
 aG pg AU #[dv,kv] w (λr w'=>uA Z N w' (crS S ks) r/\aL w w' aT):=by
 obtain⟨D,sv,wv,rfl,h2,h3⟩:=h
 refine(aD1 h2 h3.rb hk hkl).mono ?_
 rintro r w' ⟨sv',wv',rfl,hv,x⟩
 refine⟨⟨_,_,_,rfl,hv, ?_⟩,x⟩
 obtain⟨hfb,hfl⟩:=ayU (ks:=ks) h3.rb.fs h3.rb.ops D.way.length
 have hl:=h3.len
 have hr:=h3.bk.bd.room
 have hu:=h3.bk.un
 refine⟨aCc h3.sim ks,⟨⟨by show-1<=(-1:Int)/\(-1:Int)<=9223372036854775807;decide,by omega,by show 0<=1000000;decide,hr⟩,hs,by show 0+N<=1000000;omega⟩,⟨hfb,λo ho=>(nomatch ho), ?_⟩, ?_⟩
 .show (TX D.way ks D.sure D.way.length).length+0<=50000;omega
 .show (TX D.way ks D.sure D.way.length).length+0+N<=50000;omega
end Go.Proofs.YteelnmpbnaohpaaGreatDoor
namespace Go.Proofs.YteelnmpbnaohpaaGreatDoor
open Go Go.En Go.Pu
set_option maxRecDepth 4000
def V5 (w0:aL0)(N:Nat->Prop):Nat->Prop:=λy=>w0.heap.size<=y/\¬N y
def D8 (w0:aL0)(N:Nat->Prop)(w:aL0)(p:Nat)(S:cG):Prop:=∃X D,fS w p X D S/\(∀b,X b->w0.heap.size<=b/\¬N b)/\aL w0 w aT/\∀b,N b->D b
def KH(w0:aL0)(N:Nat->Prop)(w:aL0)(q p:Nat)(S:cG)(s:eT):Prop:=∃X D Y lv hv,eC w0.heap.size w q p X D Y S s lv hv/\aL w0 w aT/\∀b,N b->D b/\¬(X b∨Y b)
theorem KH.new {w0:aL0}{N:Nat->Prop}{w w':aL0}{q p:Nat}{S:cG}{s:eT}(h:KH w0 N w q p S s)(x:aL w w' aT):KH w0 N w' q p S s:=by
 obtain⟨X,D,Y,lv,hv,h,x0,hN⟩:=h
 exact⟨X,D,Y,lv,hv,h.new x,x0.seq x,hN⟩
theorem D8.new {w0:aL0}{N:Nat->Prop}{w w':aL0}{p:Nat}{S:cG}(h:D8 w0 N w p S)(x:aL w w' aT):D8 w0 N w' p S:=by
 obtain⟨X,D,h,hX,x0,hN⟩:=h
 exact⟨X,D,h.new x,hX,x0.seq x,hN⟩
theorem KH.x {w0:aL0}{N:Nat->Prop}{w:aL0}{q p:Nat}{S:cG}{s:eT}(h:KH w0 N w q p S s):aL w0 w aT:=by
 obtain⟨_,_,_,_,_,_,x0,_⟩:=h;exact x0
theorem D8.x {w0:aL0}{N:Nat->Prop}{w:aL0}{p:Nat}{S:cG}(h:D8 w0 N w p S):aL w0 w aT:=by
 obtain⟨_,_,_,_,x0,_⟩:=h;exact x0
theorem KH.lt {w0:aL0}{N:Nat->Prop}{w:aL0}{q p:Nat}{S:cG}{s:eT}(h:KH w0 N w q p S s):∀b,N b->b<w.heap.size:=by
 obtain⟨X,D,Y,lv,hv,h,x0,hN⟩:=h
 exactλb hb=>fS.lt h.dsk b (hN b hb).1
theorem D8.lt {w0:aL0}{N:Nat->Prop}{w:aL0}{p:Nat}{S:cG}(h:D8 w0 N w p S):∀b,N b->b<w.heap.size:=by
 obtain⟨X,D,h,hX,x0,hN⟩:=h
 exactλb hb=>fS.lt h b (hN b hb)
theorem KH.add {w0:aL0}{N:Nat->Prop}{w w':aL0}{q p b:Nat}{S:cG}{s:eT}(h:KH w0 N w q p S s)(x:aL w w' aT)(hb:w.heap.size<=b)(hb':b<w'.heap.size):KH w0 (λy=>N y∨y=b) w' q p S s:=by
 obtain⟨X,D,Y,lv,hv,h,x0,hN⟩:=h
 have hlt:=eC.lt h
 have h1:=h.new x
 have z:=x.size
 refine⟨X,λy=>D y∨y=b,Y,lv,hv,⟨h1.glob,h1.g0,h1.lo,h1.hi,h.dsk.more x hb hb',h1.yq,λy hy=>⟨.inl (h.yd y hy).1,(h.yd y hy).2⟩,h1.own,h1.man,h1.lv,h1.hv,h1.ep,h1.lg,h1.hl,h1.nl⟩,x0.seq x,λy hy=> ?_⟩
 rcases hy with hy|hy
 .exact ⟨.inl (hN y hy).1,(hN y hy).2⟩
 .exact ⟨.inr hy,λhx=>by have:=hlt y hx;omega⟩
theorem D8.add {w0:aL0}{N:Nat->Prop}{w w':aL0}{p b:Nat}{S:cG}(h:D8 w0 N w p S)(x:aL w w' aT)(hb:w.heap.size<=b)(hb':b<w'.heap.size):D8 w0 (λy=>N y∨y=b) w' p S:=by
 obtain⟨X,D,h,hX,x0,hN⟩:=h
 refine⟨X,λy=>D y∨y=b,h.more x hb hb',λy hy=>⟨(hX y hy).1,λhn=>hn.elim (hX y hy).2 λe=> ?_⟩,x0.seq x,λy hy=>hy.imp (hN y) id⟩
 have:=fS.lt h y (fS.xd' h y hy)
 omega
theorem D8.post {w0:aL0}{N:Nat->Prop}{w w':aL0}{p:Nat}{X D:Nat->Prop}{S S':cG}(h:fS w p X D S)(hX:∀b,X b->w0.heap.size<=b/\¬N b)(x0:aL w0 w aT)(hN:∀b,N b->D b)(hp:CA w p X D S' w'):D8 w0 N w' p S'/\aL w w' (V5 w0 N):=by
 obtain⟨X',D',h1,h2,h3,x⟩:=hp
 have z:=x0.size
 refine⟨⟨X',D',h1,λb hb=> ?_,x0.trans x λy hy hm=>by have:=(hX y hm).1;omega,λb hb=>h3 b (hN b hb)⟩,x.mono λb _ hb=>hX b hb⟩
 rcases h2 b hb with h4|h4
 .exact hX b h4
 .exact ⟨by omega,λhn=>by have:=fS.lt h b (hN b hn);omega⟩
theorem KH.post {w0:aL0}{N:Nat->Prop}{w w':aL0}{q p:Nat}{X D Y:Nat->Prop}{S S':cG}{s s':eT}{lv hv:aL1}(h:eC w0.heap.size w q p X D Y S s lv hv)(x0:aL w0 w aT)(hN:∀b,N b->D b/\¬(X b∨Y b))(hp:bY w0.heap.size w q p X D Y S' s' w'):KH w0 N w' q p S' s'/\aL w w' (V5 w0 N):=by
 obtain⟨X',D',Y',lv',hv',h',h1,h2,h3,x⟩:=hp
 have z:=x0.size
 refine⟨⟨X',D',Y',lv',hv',h',x0.trans x λy hy hm=>by have:=h.lo y hm;omega,λb hb=>⟨h2 b (hN b hb).1,λhx=> ?_⟩⟩,x.mono λb _ hb=>⟨h.lo b hb,λhn=>(hN b hn).2 hb⟩⟩
 have hlt:=fS.lt h.dsk b (hN b hb).1
 rcases hx with hx|hx
 .rcases h1 b hx with h|h
  .exact (hN b hb).2 (.inl h)
  .omega
 .rcases h3 b hx with h|h
  .exact (hN b hb).2 (.inr h)
  .omega
theorem aA0 {w0:aL0}{N:Nat->Prop}{w w1:aL0}{q p:Nat}{S:cG}{s:eT}{i:Int}{bv:aL1}{b:List UInt8}(h:KH w0 N w q p S s)(x:aL w w1 aT)(hB:GN 2 S)(hlen:s.hv.length=s.man.leaves.length)(hb:Bs w1 bv b)(hbl:b.length<=1000000)
 (hbn:¬fK bv (λy=>w0.heap.size<=y/\y<w.heap.size)) (hlg:s.log+13<=1000000000) (hi: -9223372036854775808<=i/\i<=9223372036854775807):
 aG pg eF #[dP q,.int .i64 i,bv] w1 (λr w'=>r= .int .i64 (yT aX aY S s i b).2.2/\KH w0 N w' q p (yT aX aY S s i b).1 (yT aX aY S s i b).2.1/\aL w1 w' (V5 w0 N)):=by
 obtain⟨X,D,Y,lv,hv,h,x0,hN⟩:=h
 have hlt:=eC.lt h
 refine(aEr (h.new x) hB hlen hb hbl (λhi=>hbn (bO hi λy hy=>⟨h.lo y hy,hlt y hy⟩)) hlg hi).mono ?_
 rintro r w' ⟨rfl,hp⟩
 exact⟨rfl,KH.post (h.new x) (x0.seq x) hN hp⟩
theorem VU{w0:aL0}{N:Nat->Prop}{w:aL0}{q p:Nat}{S:cG}{s:eT}(h:KH w0 N w q p S s)(hB:GN 2 S)(hbp:∀b,bF (aZ s.nm) S.seen=some b->b.length<=1000000):
 aG pg gK #[dP q] w (λr w'=>r= .int .i64 (dV aX S s).2.2/\KH w0 N w' q p (dV aX S s).1 (dV aX S s).2.1/\aL w w' (V5 w0 N)):=by
 obtain⟨X,D,Y,lv,hv,h,x0,hN⟩:=h
 refine(aCW h hB hbp).mono ?_
 rintro r w' ⟨rfl,hp⟩
 exact⟨rfl,KH.post h x0 hN hp⟩
theorem aBy{w0:aL0}{N:Nat->Prop}{w:aL0}{p:Nat}{S:cG}{n:ByteArray}(h:D8 w0 N w p S)(hB:GN 0 S)(hd:S.down=false):
 aG pg gV #[dP p,.string n] w (λr w'=>((bF n S.seen=none/\r= .tuple #[.slice none 0 0,.int .i64 21])∨∃b v,bF n S.seen=some b/\r= .tuple #[v,.int .i64 0]/\mP w' w.heap.size 1 v b.length (b.map gT))/\aL w w' aT):=by
 obtain⟨X,D,h,hX,x0,hN⟩:=h
 refine(afN h hB.bd (λb hb=>hB.file hb)).mono ?_
 rintro r w' ⟨hr,x⟩
 refine⟨?_,x⟩
 rcases hr with⟨h1,_⟩|⟨_,h2,h3⟩|⟨_,b,v,h2,h3,h4⟩
 .rw [hd]at h1;cases h1
 .exact .inl ⟨h2,h3⟩
 .exact .inr ⟨b,v,h2,h3,h4⟩
theorem KH.dses {w0:aL0}{N:Nat->Prop}{w:aL0}{q p:Nat}{S:cG}{s:eT}(h:KH w0 N w q p S s):D8 w0 N w p S:=by
 obtain⟨X,D,Y,lv,hv,h,x0,hN⟩:=h
 exact⟨X,D,h.dsk,λb hb=>⟨h.lo b (.inl hb),λhn=>(hN b hn).2 (.inl hb)⟩,x0,λb hb=>(hN b hb).1⟩
theorem aEe{w0:aL0}{N:Nat->Prop}{w:aL0}{q p:Nat}{S:cG}{s:eT}{n:ByteArray}(h:KH w0 N w q p S s)(hB:GN 0 S)(hd:S.down=false):
 aG pg gV #[dP p,.string n] w (λr w'=>((bF n S.seen=none/\r= .tuple #[.slice none 0 0,.int .i64 21])∨∃b v,bF n S.seen=some b/\r= .tuple #[v,.int .i64 0]/\mP w' w.heap.size 1 v b.length (b.map gT))/\KH w0 N w' q p S s/\aL w w' aT):=by
 refine(aBy h.dses hB hd).mono ?_
 rintro r w' ⟨hr,x⟩
 exact⟨hr,h.new x,x⟩
theorem avV{w0:aL0}{N:Nat->Prop}{w:aL0}{q p:Nat}{S:cG}{s:eT}(h:KH w0 N w q p S s):aG pg lF #[dP q] w (λr w'=>r= .bool s.fin/\w'=w):=by
 obtain⟨X,D,Y,lv,hv,h,x0⟩:=h
 exact aEp h
theorem aoN{w0:aL0}{N:Nat->Prop}{w:aL0}{q p:Nat}{S:cG}{s:eT}(h:KH w0 N w q p S s):aG pg kI #[dP q] w (λr w'=>r= .int .u64 (s.epoch:Nat)/\w'=w):=by
 obtain⟨X,D,Y,lv,hv,h,x0⟩:=h
 exact aCe h
theorem aFS{w0:aL0}{N:Nat->Prop}{w:aL0}{q p:Nat}{S:cG}{s:eT}(h:KH w0 N w q p S s):aG pg gE #[dP q] w (λr w'=>r= .int .i64 s.err/\w'=w):=by
 obtain⟨X,D,Y,lv,hv,h,x0⟩:=h
 exact YA h
theorem apO{v:aL1}{l:List Bool}{w:aL0}(h:Sl w v (l.map Value.bool))(hl:l.length<=1000000):
 aG pg nV #[v] w (λr w'=>mP w' w.heap.size 1 r l.length (l.map Value.bool)/\aL w w' aT):=by
 refine J0 ?_
 have h1:=h
 obtain⟨a,n,c,rfl,hn,hc,hh⟩:=h
 rw[aJC]at hn
 unfold FX Cs
 cases a with
 |none=>
  have h0:l=[]:=by
   cases l with
   |nil=>rfl
   |cons x l=>obtain⟨b,off,h,_⟩:=hh (by simp at hn;omega);cases h
  subst h0
  simp(disch:=omega)only[SV]
  exact⟨mP.nil _ _ _,aL.refl _ _⟩
 |some x=>
  simp(disch:=omega)only[SV]
  refine Ta Tryz.underlying45 ahL λw1 o1 x1 s1=> ?_
  have hcl1:=(h1.ext x1 (bC _)).cl
  rw[aJC]at hcl1
  have hos:mP w1 w.heap.size 1 (.slice (some ⟨w.heap.size,0,none⟩) 0 0) 0 []:=⟨rfl,.inr ⟨_,0,[],rfl,aJO _,o1,rfl,aJO _⟩⟩
  refine BJ hos hcl1 (λy hy=>by obtain⟨z,-,rfl⟩:=aKq.1 hy;rfl) x1.size (by omega) λv3 w3 o3 x3=> ?_
  rw[aJG,aJ1]at o3
  exact⟨o3,x1.trans x3 λb hb h=>Nat.not_le_of_lt hb h⟩
theorem avW{w0:aL0}{N:Nat->Prop}{w:aL0}{q p:Nat}{S:cG}{s:eT}(h:KH w0 N w q p S s):aG pg pD #[dP q] w (λr w'=>mP w' w.heap.size 1 r s.hv.length (s.hv.map Value.bool)/\KH w0 N w' q p S s/\aL w w' aT):=by
 have h':=h
 obtain⟨X,D,Y,lv,hv,h,x0⟩:=h
 refine Qr ?_
 obtain⟨c0,c1,c2,c3,c4,c5,c6,c7,c8,c9⟩:=h.cells
 unfold MY G7
 simp(disch:=omega)only[SV,c6]
 refine(apO (Vz h.hv) (by have:=h.hl;omega)).mono ?_
 rintro r w' ⟨ho,x⟩
 exact⟨ho,h'.new x,x⟩
def aF8 (w0:aL0)(N:Nat->Prop)(w:aL0)(p:Nat)(S':cG)(so:Option eT)(e:Int)(r:aL1)(w':aL0):Prop:=(match so with
 |some s=>∃q,r= .tuple #[dP q,.int .i64 0]/\e=0/\KH w0 N w' q p S' s
 |none=>r= .tuple #[.pointer none,.int .i64 e]/\D8 w0 N w' p S')/\aL w w' (V5 w0 N)
theorem anI{w0:aL0}{N:Nat->Prop}{w:aL0}{p:Nat}{S S':cG}{so:Option eT}{e:Int}{nm:ByteArray}{m:Gh}{lv:aL1}(h:D8 w0 N w p S)(hg:nQ w0)(hB:GN 3 S)(hm:CM m)(hlv:Cl w 32 lv m.leaves.length (V6 m.leaves))(hnm:1<=nm.size/\nm.size<=27)(hs:bN S.seen<=1000000)(hO:sY aX aY S nm m=(S',so,e)):
 aG pg tZ #[dP p,.string nm,.agg (xV m lv).toArray] w (aF8 w0 N w p S' so e):=by
 obtain⟨X,D,h,hX,x0,hN⟩:=h
 have hf:∀{n:ByteArray},∀b,bF n S.seen=some b->b.length<=1000000:=λ{n} b hb=>by
  have h1:=sS (k:=n) (c:=S.seen)
  rw[hb]at h1
  have h1:b.length<=bN S.seen:=h1
  omega
 refine(aDL (n0:=w0.heap.size) h (hg.ext x0) hg.lt (λb hb=>(hX b hb).1) x0.size hB hm hlv hnm hf hf hf).mono ?_
 rw[hO]
 intro r w' hr
 unfold arY at hr
 have z:=x0.size
 cases so with
 |none=>
  obtain⟨h1,hp⟩:=hr
  obtain⟨a,b⟩:=D8.post h hX x0 hN hp
  exact⟨⟨h1,a⟩,b⟩
 |some s=>
  obtain⟨h0,q,X',D',Y',lv',hv',h1,h2,h3,h4,h5,h6⟩:=hr
  refine⟨⟨q,h1,h0,X',D',Y',lv',hv',h2,x0.trans h6 λy hy hm=>by have:=(hX y hm).1;omega,λb hb=>⟨h4 b (hN b hb),λhx=> ?_⟩⟩,h6.mono λb _ hb=>hX b hb⟩
  have hlt:=fS.lt h b (hN b hb)
  rcases hx with hx|hx
  .rcases h3 b hx with h|h
   .exact (hX b h).2 hb
   .omega
  .have:=h5 b hx;omega
def exF:List UInt8:=[97,98,99,100,101]
theorem aFp:aX [120,121]≠aX [97,98]:=by decide+kernel
theorem aBJ(r:Int):Calm (Xd r):=⟨rfl,rfl⟩
theorem aFy{r:Int}(h:0<=r/\r<=16777216){n:Nat}(hn:n<=100):GN n (Xd r):=⟨⟨by show-1<=(-1:Int)/\(-1:Int)<=9223372036854775807;decide,by show 0<=_;omega,by simp[Xd],h⟩,by show 0<=_;omega,by show 0+n<=_;omega⟩
def noN:Nat->Prop:=λ_=>False
theorem atC{w0 w:aL0}{room:Int}(x0:aL w0 w aT)(h0:0<=room)(h1:room<=16777216):aG pg Ea #[.int .i64 room] w (λr w'=>∃p,r= .tuple #[dP p,.int .i64 0]/\D8 w0 noN w' p (Xd room)/\aL w w' aT):=by
 refine(aGK h0 h1).mono ?_
 rintro r w' ⟨p,X,rfl,h,hX,x⟩
 exact⟨p,rfl,⟨X,X,h,λb hb=>⟨by have:=hX b hb;have:=x0.size;omega,λh=>h⟩,x0.seq x,λb h=>h.elim⟩,x⟩
theorem aFs{w0 w:aL0}{y n c:Nat}(hy:w.heap.size<=y):¬fK (.slice (some ⟨y,0,none⟩) n c) (λy=>w0.heap.size<=y/\y<w.heap.size):=by
 intro hi
 unfold fK at hi
 split at hi
 .rename_i e
  simp only[Value.slice.injEq,aKc]at e
  obtain⟨rfl,_⟩:=e
  have hi:w0.heap.size<=y/\y<w.heap.size:=hi
  omega
 .exact hi
theorem aDc{f:List UInt8}{k:Nat}{S:cG}(h:bF sF S.seen=none):apZ aX f k S=false:=by
 unfold apZ
 rw[h]<;>rfl
theorem aBY{f:List UInt8}{k:Nat}{F0:Option (List UInt8)}{recs:List (Nat×Nat)}{P:List UInt8}{S:cG}{s:eT}(h:Got aX aY f k F0 recs P S s){i:Nat}(hi:i<lD f.length k)(hv:s.hv.getD i false=false){b:List UInt8}(hb:aX b≠aX (CB f.length k i f)):yT aX aY S s i b=(S,s,13):=by
 unfold yT
 have hw:wT aX s.man i b=false:=by
  unfold wT
  rw[h.man,auB aX hi,aLR]
  exact .inr (beq_eq_false_iff_ne.2 hb)
 rw[h.err,h.hvl,if_neg (by decide),if_neg (by omega),aJI,h.fin,hv,hw,if_neg (by decide),if_pos rfl]
theorem asU{f:List UInt8}{k:Nat}{F0:Option (List UInt8)}{recs:List (Nat×Nat)}{P:List UInt8}{S:cG}{s:eT}(h:Got aX aY f k F0 recs P S s){i:Nat}(hi:i<lD f.length k)(hv:s.hv.getD i false=false):dV aX S s=(S,s,30):=by
 unfold dV
 have ha:Ae s.hv=false:=by
  cases hq:Ae s.hv with
  |false=>rfl
  |true=>rw[QC]at hq;rw[hq i (by rw[h.hvl];exact hi)]at hv;cases hv
 rw[h.err,if_neg (by decide),h.fin,if_neg (by decide),ha,if_pos rfl]
theorem HP{l:List Bool}{i j:Nat}(hi:i<l.length):(l.set i true).getD j false=if j=i then true else l.getD j false:=by
 rw[aJL,aLN]
 by_cases h:i=j
 .rw [if_pos h,if_pos hi,if_pos h.symm]<;>rfl
 .rw [if_neg h,if_neg (λe=>h e.symm),aJL]
theorem aGq{n:Nat}{ps:List (Nat×aL1)}{l:List UInt8}{w:aL0}{K:aL1->aL0->Prop}(hl:l.length=n)(h1:¬n*1>2^24)(h0:¬n*1=0)
 (hf:Go.Instr.fill (λj=>some (j*1,1)) ((Array.range (n*1)).map ((Tryz.t5.zero.get!).cells[·%(Tryz.t5.zero.get!).cells.size]!)) ps=some (l.map gT).toArray)
 (hk:∀w',Bs w' (.slice (some ⟨w.heap.size,0,none⟩) n n) l->aL w w' aT->w'.heap.size=w.heap.size+1->K (.slice (some ⟨w.heap.size,0,none⟩) n n) w'):
 aA pg (bB 22 n ps) w λt w=>aA pg (cP 22 22 t) w K:=by
 refine mH h1 h0 hf λw1 o1 x1 s1=> ?_
 rw[aJZ]at o1
 refine apV o1 λw2 o2 x2 s2=> ?_
 refine hk w2 ?_ (x1.trans x2 λy hy h=>by omega) (by omega)
 have:=o2.whole (c:=n) (by omega)
 rw[hl]at this
 exact this
theorem aBm{w:aL0}(hg:nQ w):aG pg EP #[] w (λr w'=>r= .bool true/\aL w w' aT):=by
 refine Zk ?_
 obtain⟨RR,hRR⟩:∃RR:aL1->aL0->Prop,RR=λr w'=>r= .bool true/\aL w w' aT:=⟨_,rfl⟩
 rw[<-hRR]
 obtain⟨S1,s1,hO,g1,r1,p1,v1⟩:=aDd (lf:=aX) (cf:=aY) (f:=exF) (k:=2) (F0:=none) (S:=Xd 1000) (aBJ _) (by decide) rfl rfl rfl (by simp[Xd]) rfl ⟨by show(0:Int)<=1000;decide,by show(1000:Int)<=_;decide⟩ (aDc rfl) (by show¬(1000:Int)<((0+13+5:Nat):Int);decide)
 have hc:lD exF.length 2=3:=by decide
 have e0:CB exF.length 2 0 exF=[97,98]:=by decide
 have e1:CB exF.length 2 1 exF=[99,100]:=by decide
 have e2:CB exF.length 2 2 exF=[101]:=by decide
 have rr1:S1.room=1000:=r1
 have z1:=g1.sz
 obtain⟨S2,s2,hP1,g2,r2,p2,v2⟩:=(aqL g1 (by decide) (by decide) (i:=1) (by rw[hc];decide) (v1 1)).1 (by rw[rr1,z1];decide)
 rw[e1]at hP1
 have hl1:=g1.hvl
 rw[hc]at hl1
 have v20:s2.hv.getD 0 false=false:=by rw[v2,HP (by omega),if_neg (by decide)];exact v1 0
 have hP2:=aBY g2 (i:=0) (by rw[hc];decide) v20 (b:=[120,121]) (by rw[e0];exact aFp)
 have hC1:=asU g2 (i:=0) (by rw[hc];decide) v20
 have z2:=g2.sz
 have rr2:S2.room=1000:=r2.trans rr1
 obtain⟨S3,s3,hP3,g3,r3,p3,v3⟩:=(aqL g2 (by decide) (by decide) (i:=0) (by rw[hc];decide) v20).1 (by rw[rr2,z2];decide)
 rw[e0]at hP3
 have hl2:=g2.hvl
 have hl3:=g3.hvl
 rw[hc]at hl2 hl3
 have v32:s3.hv.getD 2 false=false:=by rw[v3,HP (by omega),if_neg (by decide),v2,HP (by omega),if_neg (by decide)];exact v1 2
 have z3:=g3.sz
 have rr3:S3.room=1000:=r3.trans rr2
 obtain⟨S4,s4,hP4,g4,r4,p4,v4⟩:=(aqL g3 (by decide) (by decide) (i:=2) (by rw[hc];decide) v32).1 (by rw[rr3,z3];decide)
 rw[e2]at hP4
 have hall:∀i,i<lD exF.length 2->s4.hv.getD i false=true:=λi hi=>by
  rw[hc]at hi
  rw[v4,HP (by omega),v3,HP (by omega),v2,HP (by omega)]
  match i,hi with
  |0,_=>rfl
  |1,_=>rfl
  |2,_=>rfl
 obtain⟨S5,s5,hC2,f5,er5,ep5,nm5,mn5,c5,r5,gf5,gl5,gp5,fz5,un5,hl5,lg5⟩:=axQ g4 (by decide) hall
 have hl4:=g4.hvl
 have z4:=g4.sz
 have hgx:∀{w':aL0},aL w w' aT->nQ w':=λx=>hg.ext x
 unfold aaS Rh
 refine(atC (w0:=w) (aL.refl _ _) (by decide) (by decide)).mono ?_
 rintro r w1 ⟨p,rfl,h1,x1⟩
 simp(disch:=omega)only[SV]
 refine aGq (l:=exF) rfl (by decide) (by decide) (by kernel_rfl) λw2 b2 x2 zz2=> ?_
 refine(ahX (f:=exF) (k:=2) (hgx (x1.seq x2)) b2 (by decide) ⟨by decide,by decide⟩).mono ?_
 rintro r w3 ⟨lv,rfl,hlv,x3⟩
 simp(disch:=omega)only[SV]
 refine uB λw4 o4 x4 zz4=> ?_
 have lv1:one lv=true:=by rcases hlv.2 with⟨rfl,_⟩|⟨_,_,_,rfl,_⟩<;>rfl
 refine sG o4 rfl (by simp[one];exact lv1) (by simp) λw5 o5 x5 zz5=> ?_
 have o5:bD w5 w3.heap.size (xV (kC aX exF 2) lv):=o5
 have lm:=gA (off:=0) o5 (by simp)
 have lm:(aB 30 (.pointer (some ⟨w3.heap.size,0,none⟩))).run pg w5= .ok (.value (.agg (xV (kC aX exF 2) lv).toArray)) w5:=lm
 have z3:=x3.size
 have z2':=x2.size
 have x15:aL w1 w5 aT:=((x2.seq x3).seq x4).trans x5 λy hy h=>by omega
 have h5:=h1.new x15
 have hlv5:Cl w5 32 lv (kC aX exF 2).leaves.length (V6 (kC aX exF 2).leaves):=ayJ (Df (Df (aqI (show DJ w3 (λb=>w2.heap.size<=b) 32 lv _ _ from hlv)) x4 (λ_ _ h=>h)) x5 (λb hb h=>by omega))
 have hO5:=anI h5 hg (aFy ⟨by decide,by decide⟩ (by decide)) (aDA ⟨by decide,by decide⟩ (by decide)) hlv5 (nm:=sF) ⟨by decide,by decide⟩ (by show 0<=_;omega) hO
 have n0':((0:Int) !=0)=false:=rfl
 simp(disch:=omega)only[SV,lm]
 refine hO5.mono ?_
 rintro r w6 ⟨⟨q,rfl,_,h6⟩,-⟩
 have n3:((0:Int)==0)=true:=rfl
 simp(disch:=omega)only[SV,n0']
 have vP:∀{w':aL0} {S S':cG} {s s':eT} {i e:Int} {n:Nat} {ps:List (Nat×aL1)} {l:List UInt8} {F0:Option (List UInt8)} {recs:List (Nat×Nat)} {P:List UInt8} {K:aL1->aL0->Prop},KH w noN w' q p S s->Got aX aY exF 2 F0 recs P S s->recs.length<=100->yT aX aY S s i l=(S',s',e)->l.length=n->l.length<=100->¬n*1>2^24->¬n*1=0->(0<=i/\i<=100)→
     Go.Instr.fill (λj=>some (j*1,1)) ((Array.range (n*1)).map ((Tryz.t5.zero.get!).cells[·%(Tryz.t5.zero.get!).cells.size]!)) ps=some (l.map gT).toArray→
     (∀w'',KH w noN w'' q p S' s'->K (.int .i64 e) w'')→
     aA pg (bB 22 n ps) w' λt w=>aA pg (cP 22 22 t) w λt w=>aG pg eF #[dP q,.int .i64 i,t] w K:=by
  intro w' S S' s s' i e n ps l F0 recs P K hs hgot hrl hput hl hl2 k1 k2 hi hf hK
  refine aGq (l:=l) hl k1 k2 hf λw2 b2 x2 s2=> ?_
  refine(aA0 (b:=l) hs x2 (hgot.bk (by omega)) (by rw[hgot.hvl,hgot.man,Tm]) b2 (by omega) (aFs (aJO _)) (by rw[hgot.log];omega) (by omega)).mono ?_
  rintro r w3 ⟨rfl,h3,-⟩
  rw[hput]at h3⊢
  exact hK w3 h3
 refine vP h6 g1 (by decide) hP1 rfl (by decide) (by decide) (by decide) (by decide) (by kernel_rfl) λw7 h7=> ?_
 refine vP h7 g2 (by decide) hP2 rfl (by decide) (by decide) (by decide) (by decide) (by kernel_rfl) λw8 h8=> ?_
 have hsm:∀{S:cG} {n:Nat},bN S.seen=n->n<=1000->∀b,∀k,bF k S.seen=some b->b.length<=1000000:=λ{S n} hz hn b k hb=>by
  have h1:=sS (k:=k) (c:=S.seen)
  rw[hb]at h1
  have h1:b.length<=bN S.seen:=h1
  omega
 refine(VU h8 (g2.bk (by decide)) (λb hb=>hsm z2 (by decide) b _ hb)).mono ?_
 rintro r w9 ⟨rfl,h9,-⟩
 rw[hC1]at h9⊢
 refine vP h9 g2 (by decide) hP3 rfl (by decide) (by decide) (by decide) (by decide) (by kernel_rfl) λw10 h10=> ?_
 refine vP h10 g3 (by decide) hP4 rfl (by decide) (by decide) (by decide) (by decide) (by kernel_rfl) λw11 h11=> ?_
 refine(VU h11 (g4.bk (by decide)) (λb hb=>hsm z4 (by decide) b _ hb)).mono ?_
 rintro r w12 ⟨rfl,h12,-⟩
 rw[hC2]at h12⊢
 have hz4:bN S4.seen=57:=by rw[z4]<;>rfl
 have B5:GN 0 S5:=⟨⟨by rw[c5.left];omega,by omega,by rw[un5];simp,by rw[r5,r4,rr3];decide⟩,by omega,by rw[un5];simp⟩
 refine(aEe (n:=sF) h12 B5 c5.up).mono ?_
 rintro r w13 ⟨hr,h13,x13⟩
 rw[gf5]at hr
 rcases hr with⟨h,_⟩|⟨b,v,hb,rfl,ho⟩
 .cases h
 cases hb
 simp(disch:=omega)only[SV]
 refine(aoN h13).mono ?_
 rintro r w14 ⟨rfl,hw⟩
 rw[hw];clear hw w14
 have pe:s5.epoch=1:=by rw[ep5,p4,p3,p2,p1]
 rw[pe]
 obtain⟨va,vc,rfl⟩:=ho.len
 have hv:=eP (show Bs w13 (.slice va exF.length vc) exF from ho.sl)
 have k1:(((1:Nat):Int)==1)=true:=rfl
 have k2:((13:Int)==13)=true:=rfl
 have k3:((30:Int)==30)=true:=rfl
 have k4:((⟨exF.toArray⟩:ByteArray).toList==(⟨#[97,98,99,100,101]⟩:ByteArray).toList)=true:=by
  rw[show(⟨exF.toArray⟩:ByteArray)=⟨#[97,98,99,100,101]⟩from rfl]
  simp
 simp(disch:=omega)only[SV,k1,n3,k2,k3,hv,Lg,k4]
 refine(avV h13).mono ?_
 rintro r w14 ⟨rfl,hw⟩
 rw[hw];clear hw w14
 rw[f5]
 simp(disch:=omega)only[SV]
 refine(avW h13).mono ?_
 rintro r w14 ⟨hh,h14,x14⟩
 obtain⟨ha,hcc,rfl⟩:=hh.len
 rw[hl5,hc]
 have k5:(((3:Nat):Int)==3)=true:=rfl
 simp(disch:=omega)only[SV,k5]
 rw[hRR]
 exact⟨rfl,h14.x⟩
end Go.Proofs.YteelnmpbnaohpaaGreatDoor
namespace Go.Proofs.YteelnmpbnaohpaaGreatDoor
open Go Go.En Go.Pu
set_option maxRecDepth 4000
set_option maxHeartbeats 2000000
theorem aFl(x:ByteArray)(w:aL0):aG pg sH #[.string x] w (λr w'=>r= .bool false/\w'=w):=by
 refine TF ?_
 unfold QP J5
 have k1:(x.toList==x.toList)=true:=beq_self_eq_true _
 simp(disch:=omega)only[aA,ZC,k1,aKS,aI,and_true]
theorem aBp(x y:ByteArray)(w:aL0):aG pg vG #[.string x,.string y] w (λr w'=>r= .bool (RM x y)/\w'=w):=by
 refine Vo ?_
 unfold Um LY
 refine(aFl x w).mono ?_
 rintro r w1 ⟨rfl,rfl⟩
 simp(disch:=omega)only[wH,aA,jH,aJM,if_false,aI,qB,gI,ayS,true_and,jQ]
def bub(L:List ByteArray):Nat->List ByteArray
 |0=>L
 |j+1=>match L[j+1]?,L[j]? with
  |some x,some y=>if RM x y then bub ((L.set (j+1) y).set j x) j else L
  |_,_=>L
theorem aAj:∀(j:Nat) (L:List ByteArray),(bub L j).length=L.length
 |0,L=>rfl
 |j+1,L=>by
  rw[bub]
  split
  .split
   .rw [aAj j];simp
   .rfl
  .rfl
def afA(L:List ByteArray):Nat->List ByteArray
 |0=>L
 |i+1=>bub (afA L i) (i+1)
theorem akO(L:List ByteArray):∀i,(afA L i).length=L.length
 |0=>rfl
 |i+1=>by rw[afA,aAj,akO L i]
theorem aFm{b n c:Nat}{L:List ByteArray}{rest:List aL1}{w:aL0}(o:bD w b (L.map Value.string++rest))(hn:n=L.length)(hl:n<=1000000)(h1:1<=n):
 aG pg cX #[.slice (some ⟨b,0,none⟩) n c,.int .i64 0,.int .i64 (n:Nat)] w (λr w'=>r= .tuple #[]/\bD w' b ((afA L (n-1)).map Value.string++rest)/\aL w w' (λy=>y=b)):=by
 refine nG ?_
 have z1:(0:Int)+1=((1:Nat):Int):=rfl
 unfold kF iA hU
 simp(disch:=omega)only[aA,fT,z1,dG,true_and,aI]
 unfold dL
 refine bM.rule (λm (t:aL1) w'=>∃i:Nat,m=n-(i+1)/\i+1<=n/\t= .int .i64 ((i+1:Nat):Int)/\bD w' b ((afA L i).map Value.string++rest)/\aL w w' (λy=>y=b)) (n-1)
  ⟨0,rfl,by omega,rfl,o,aL.refl _ _⟩ ?_
 rintro m t w1 ⟨i,rfl,hi,rfl,o1,x1⟩
 unfold fA iP
 by_cases hlt:i+1<n
 rotate_left
 .have d1:decide (((i+1:Nat):Int)<(n:Int))=false:=by simp;omega
  simp(disch:=omega)only[aA,eX,d1,aI,bH]
  first
   |exact⟨rfl,by rw[show n-1=i from by omega];exact o1,x1⟩
   |exact⟨by rw[show n-1=i from by omega];exact o1,x1⟩
 have d1:decide (((i+1:Nat):Int)<(n:Int))=true:=by simp only[decide_eq_true_eq];omega
 simp(disch:=omega)only[aA,eX,d1,aI,cN]
 unfold iO iN oY fG
 have q0:((i+1:Nat):Int)+1=((i+1+1:Nat):Int):=by omega
 have hsl:=akO L i
 refine bM.rule (λm (t:aL1) w'=>∃(j:Nat) (M:List ByteArray),m=j/\j<=i+1/\M.length=n/\t= .int .i64 (j:Nat)/\bub M j=afA L (i+1)/\bD w' b (M.map Value.string++rest)/\aL w w' (λy=>y=b)) (i+1)
  ⟨i+1,afA L i,rfl,by omega,by omega,rfl,rfl,o1,x1⟩ ?_
 clear o1 x1
 rintro m t w2 ⟨j,M,rfl,hj,hM,rfl,hbub,o2,x2⟩
 have cell:∀{w'} (_:bD w' b (M.map Value.string++rest)) (x:Nat) (hx:x<M.length),w'.cell? ⟨b,x,none⟩=some (.string M[x]):=λ{w'} oo x hx=>by
  rw[oo.cell,aJ0 (by rw[aJC];exact hx),aJ4,aJE hx]<;>rfl
 have o2d:=dB o2
 have x2d:aL w (dr w2) (λy=>y=b):=x2.seq (aL.dr _ _)
 have done:∀W,bD W b (M.map Value.string++rest)->aL w W (λy=>y=b)->bub M m=M->∃m',m'<n-(i+1)/\∃i',m'=n-(i'+1)/\i'+1<=n/\Value.int .i64 ((i+1+1:Nat):Int)= .int .i64 ((i'+1:Nat):Int)/\bD W b ((afA L i').map Value.string++rest)/\aL w W (λy=>y=b):=λW oW xW he=>
  ⟨n-(i+1+1),by omega,i+1,rfl,by omega,rfl,by rw[<-hbub,he];exact oW,xW⟩
 unfold iM iL
 cases m with
 |zero=>
  have d2:decide ((0:Int)<((0:Nat):Int))=false:=rfl
  have:=done _ o2d x2d rfl
  simp(disch:=omega)only[aA,vQ,d2,Mv,dG,Al,aJI,aJG,aP,Result.ok.injEq,Next.value.injEq,and_true,aI,true_and,lK,fT,q0,wH,jH,aJM,if_false,bH,jQ]
  exact this
 |succ j=>
  have d2:decide ((0:Int)<((j+1:Nat):Int))=true:=by simp
  have hjn:((j+1:Nat):Int).toNat=j+1:=aJI _
  have hjm:((j+1:Nat):Int)-1=((j:Nat):Int):=by omega
  have hjt:((j:Nat):Int).toNat=j:=aJI _
  have e1:=cell o2d (j+1) (by omega)
  have e2:=cell o2d j (by omega)
  simp(disch:=omega)only[aA,vQ,d2,Mv,hjm,dG,Al,hjn,aJG,aP,Result.ok.injEq,Next.value.injEq,and_true,aI,true_and,lK,hjt,fT,uQ,jH,if_true,gI,e2,bK,e1]
  refine(aBp _ _ _).mono ?_
  rintro r w3 ⟨rfl,hw⟩
  rw[hw];clear hw w3
  have hb1:M[j+1]?=some (M[j+1]'(by omega)):=aJE _
  have hb2:M[j]?=some (M[j]'(by omega)):=aJE _
  cases hlb:RM (M[j+1]'(by omega)) (M[j]'(by omega))with
  |false=>
   have:=done _ o2d x2d (by rw[bub,hb1,hb2];simp[hlb])
   simp(disch:=omega)only[q0,bH]
   exact this
  |true=>
   have o3:=dB o2d
   have f1:=cell o3 (j+1) (by omega)
   have f2:=cell o3 j (by omega)
   simp(disch:=omega)only[f2,bK,f1,aI,true_and,cN]
   refine aaB o3 rfl (by rw[aJF,aJC];omega) λw4 o4 x4 s4=> ?_
   try simp(disch:=omega)only[true_and]
   refine aaB o4 rfl (by rw[aKr,aJF,aJC];omega) λw5 o5 x5 s5=> ?_
   have hset:(((M.map Value.string++rest).set (j+1) (.string (M[j]'(by omega)))).set j (.string (M[j+1]'(by omega))))=(((M.set (j+1) (M[j]'(by omega))).set j (M[j+1]'(by omega))).map Value.string++rest):=by
    rw[aLa _ _ (by rw[aJC];omega),aLa _ _ (by rw[aKr,aJC];omega),aKW,aKW]
   rw[hset]at o5
   try simp(disch:=omega)only[true_and]
   refine⟨j,by omega,j,_,rfl,by omega, ?_,rfl, ?_,o5,((x2d.seq (aL.dr _ _)).trans x4 λy hy hh=>hh).trans x5 λy hy hh=>hh⟩
   .rw [aKr,aKr];exact hM
   .rw [<-hbub,bub,hb1,hb2]
    simp[hlb]
end Go.Proofs.YteelnmpbnaohpaaGreatDoor
namespace Go.Proofs.YteelnmpbnaohpaaGreatDoor
open Go Go.En Go.Pu
def Vg(L:List ByteArray):Prop:=L.Pairwise λx y=>RM x y=true
theorem aAi:∀(n:Nat) (A:List ByteArray) (x:ByteArray) (C:List ByteArray),A.length=n->Vg A->x∉A->∃R,bub (A++x::C) n=R++C/\R.Perm (A++[x])/\Vg R
 |0,A,x,C,hn,_,_=>by
  have:A=[]:=aKd.1 hn
  subst this
  exact⟨[x],rfl,aLw _,aLc _ _⟩
 |n+1,A,x,C,hn,hs,hx=>by
  obtain⟨B,y,rfl⟩:∃B y,A=B++[y]:=by
   have h0:A≠[]:=λe=>by rw[e]at hn;cases hn
   exact⟨A.dropLast,A.getLast h0,(List.dropLast_concat_getLast h0).symm⟩
  have hB:B.length=n:=by simpa using hn
  unfold Vg at hs
  rw[aK0]at hs
  obtain⟨hsB,_,hBy⟩:=hs
  have hxB:x∉B:=λh=>hx (aKg.2 (.inl h))
  have hxy:x≠y:=λh=>hx (aKg.2 (.inr (aKm.2 h)))
  have e1:(B++[y]++x::C)[n+1]?=some x:=by
   rw[aJ2 (by simp;omega)]
   simp[hB]
  have e2:(B++[y]++x::C)[n]?=some y:=by
   rw[aJW,aJ2 (by omega),hB,aKT]<;>rfl
  rw[bub,e1,e2]
  cases hl:RM x y with
  |true=>
   have hset:((B++[y]++x::C).set (n+1) y).set n x=B++x::(y::C):=by
    rw[aJW,aKj _ _ (by omega),aKj _ _ (by omega),hB,show n+1-n=1 from by omega,aKT]
    rfl
   obtain⟨R,h1,h2,h3⟩:=aAi n B x (y::C) hB hsB hxB
   refine⟨R++[y],by simp only[hl,hset,if_true,h1];simp, ?_, ?_⟩
   .refine (h2.append_right [y]).trans ?_
    rw[aJW,aJW]
    exact List.Perm.append_left B (List.Perm.swap _ _ _)
   .unfold Vg
    rw[aK0]
    refine⟨h3,aLc _ _,λr hr z hz=> ?_⟩
    rw[aKm]at hz
    rw[hz]
    rcases aKg.1 (h2.mem_iff.1 hr)with h|h
    .exact hBy r h y (aKm.2 rfl)
    .rw [aKm]at h
     rw[h];exact hl
  |false=>
   have hyx:RM y x=true:=aAz hxy hl
   refine⟨B++[y]++[x],by simp[hl],aLw _, ?_⟩
   unfold Vg
   rw[aK0,aK0]
   refine⟨⟨hsB,aLc _ _,hBy⟩,aLc _ _,λr hr z hz=> ?_⟩
   rw[aKm]at hz
   rw[hz]
   rcases aKg.1 hr with h|h
   .exact Zu (hBy r h y (aKm.2 rfl)) hyx
   .rw [aKm]at h
    rw[h];exact hyx
theorem aA4 {L:List ByteArray}(hnd:L.Nodup):∀i,i<L.length->∃R,afA L i=R++L.drop (i+1)/\R.Perm (L.take (i+1))/\Vg R
 |0,hi=>by
  cases L with
  |nil=>cases hi
  |cons x L=>exact⟨[x],rfl,aLw _,aLc _ _⟩
 |i+1,hi=>by
  obtain⟨R,h1,h2,h3⟩:=aA4 hnd i (by omega)
  have hd:L.drop (i+1)=L[i+1]::L.drop (i+1+1):=aKB hi
  have hlen:R.length=i+1:=by rw[h2.length_eq,aJP];omega
  have hnm:L[i+1]∉R:=λhm=>by
   have hm:=h2.mem_iff.1 hm
   obtain⟨j,hj,e⟩:=aLs hm
   rw[aJP]at hj
   rw[List.getElem_take]at e
   have:=(List.getElem_inj hnd).1 e
   omega
  obtain⟨R',g1,g2,g3⟩:=aAi (i+1) R L[i+1] (L.drop (i+1+1)) hlen h3 hnm
  refine⟨R', ?_, ?_,g3⟩
  .rw [afA,h1,hd,g1]
  .refine g2.trans ?_
   rw[aJ3 hi]
   exact h2.append_right _
theorem aEo{L:List ByteArray}(hnd:L.Nodup)(h0:0<L.length):(afA L (L.length-1)).Perm L/\Vg (afA L (L.length-1)):=by
 obtain⟨R,h1,h2,h3⟩:=aA4 hnd (L.length-1) (by omega)
 have hd:L.drop (L.length-1+1)=[]:=aKw (by omega)
 have ht:L.take (L.length-1+1)=L:=aJH (by omega)
 rw[hd,aKf]at h1
 rw[ht]at h2
 rw[h1]
 exact⟨h2,h3⟩
theorem awF:∀{A B:List ByteArray},Vg A->Vg B->(∀x,x∈A↔x∈B)->A=B
 |[],[],_,_,_=>rfl
 |[],b::B,_,_,h=>by have:=(h b).2 aJ7;cases this
 |a::A,[],_,_,h=>by have:=(h a).1 aJ7;cases this
 |a::A,b::B,ha,hb,h=>by
  obtain⟨ha1,ha2⟩:=aKX.1 ha
  obtain⟨hb1,hb2⟩:=aKX.1 hb
  have hab:a=b:=by
   rcases aJK.1 ((h a).1 aJ7)with h1|h1
   .exact h1
   .rcases aJK.1 ((h b).2 aJ7)with h2|h2
    .exact h2.symm
    .have:=Zu (hb1 a h1) (ha1 b h2)
     rw[WX]at this
     cases this
  subst hab
  refine congrArg _ (awF ha2 hb2 λx=> ?_)
  have hx:=h x
  rw[aJK,aJK]at hx
  constructor
  .intro hm
   rcases hx.1 (.inr hm)with e|e
   .have:=ha1 x hm
    rw[e,WX]at this
    cases this
   .exact e
  .intro hm
   rcases hx.2 (.inr hm)with e|e
   .have:=hb1 x hm
    rw[e,WX]at this
    cases this
   .exact e
end Go.Proofs.YteelnmpbnaohpaaGreatDoor
namespace Go.Proofs.YteelnmpbnaohpaaGreatDoor
open Go Go.En Go.Pu
set_option maxRecDepth 4000
set_option maxHeartbeats 2000000
theorem atS{a:Option Addr}{c:Nat}{w:aL0}:aG pg cX #[.slice a 0 c,.int .i64 0,.int .i64 (0:Nat)] w (λr w'=>r= .tuple #[]/\w'=w):=by
 refine nG ?_
 have z1:(0:Int)+1=((1:Nat):Int):=rfl
 unfold kF iA hU
 simp(disch:=omega)only[aA,fT,z1,dG,true_and,aI]
 unfold dL
 refine bM.rule (λm (t:aL1) w'=>m=0/\t= .int .i64 ((1:Nat):Int)/\w'=w) 0 ⟨rfl,rfl,rfl⟩ ?_
 rintro m t w1 ⟨rfl,rfl,rfl⟩
 have d1:decide (((1:Nat):Int)<((0:Nat):Int))=false:=rfl
 unfold fA iP
 simp(disch:=omega)only[aA,eX,d1,aI,bH]
theorem aH6 {a:Option Addr}{n c:Nat}{l:Int}{w:aL0}{R:aL1->aL0->Prop}(hn:n<=12)(h:aG pg cX #[.slice a n c,.int .i64 0,.int .i64 (n:Nat)] w (λr w'=>R (.tuple #[]) w')):
 aG pg eE #[.slice a n c,.int .i64 0,.int .i64 (n:Nat),.int .i64 l] w R:=by
 refine DM ?_
 unfold zL tC tB iE
 refine bM.rule (λm (t:aL1×aL1×aL1×aL1×aL1) w'=>m=0/\t=(.int .i64 0,.int .i64 (n:Nat),.int .i64 l,.bool true,.bool true)/\w'=w) 0 ⟨rfl,rfl,rfl⟩ ?_
 rintro m t w1 ⟨rfl,rfl,rfl⟩
 unfold iD tR tQ
 have q1:((n:Nat):Int)-0=((n:Nat):Int):=by omega
 have d1:decide (((n:Nat):Int)<=12)=true:=by simp only[decide_eq_true_eq];omega
 simp(disch:=omega)only[aA,Mv,q1,dG,O8,UD,aKS,aI,bH,auT,d1,cN]
 exact h
theorem azL{a:Option Addr}{n c:Nat}{w:aL0}{R:aL1->aL0->Prop}(hn:n<=12)(h:aG pg cX #[.slice a n c,.int .i64 0,.int .i64 (n:Nat)] w (λr w'=>R (.tuple #[]) w')):
 aG pg pC #[.slice a n c] w R:=by
 refine Qm ?_
 unfold MS G5
 have e1:IntKind.u64.wrap ((n:Nat):Int)=((n:Nat):Int):=gX (by omega) (by omega)
 simp(disch:=omega)only[aA,Db,aI,FI,e1]
 refine(aHY n (by omega) w).mono ?_
 rintro r w1 ⟨rfl,rfl⟩
 exact aH6 hn h
theorem aCd{v:aL1}{L:List ByteArray}{base:Nat}{w:aL0}(h:mP w base 1 v L.length (L.map Value.string))(hl:L.length<=12)(hnd:L.Nodup):
 aG pg pC #[v] w (λr w'=>(∃L',L'.Perm L/\Vg L'/\mP w' base 1 v L'.length (L'.map Value.string))/\aL w w' (λy=>base<=y)):=by
 rcases h.2 with⟨rfl,h0⟩|⟨b,c,rest,rfl,hb,ho,hc,hnc⟩
 .have hL:L=[]:=aKd.1 h0
  subst hL
  refine azL (n:=0) (by omega) (atS.mono ?_)
  rintro r w' ⟨-,rfl⟩
  exact⟨⟨[],aLw _,List.Pairwise.nil,mP.nil _ _ _⟩,aL.refl _ _⟩
 .by_cases h0:L.length=0
  .have hL:L=[]:=aKd.1 h0
   subst hL
   refine azL (n:=0) (by omega) (atS.mono ?_)
   rintro r w' ⟨-,rfl⟩
   exact⟨⟨[],aLw _,List.Pairwise.nil,h⟩,aL.refl _ _⟩
  .refine azL hl ((aFm ho rfl (by omega) (by omega)).mono ?_)
   rintro r w' ⟨-,ho',x⟩
   obtain⟨h1,h2⟩:=aEo hnd (by omega)
   have hlen:=akO L (L.length-1)
   refine⟨⟨_,h1,h2, ?_⟩,x.mono λy _ hy=>by rw[hy];exact hb⟩
   rw[hlen]
   refine⟨by rw[aJC];omega,.inr ⟨b,c,rest,rfl,hb,ho', ?_,hnc⟩⟩
   rw[aJF,aJC]at hc⊢
   omega
end Go.Proofs.YteelnmpbnaohpaaGreatDoor
namespace Go.Proofs.YteelnmpbnaohpaaGreatDoor
open Go Go.En Go.Pu
set_option maxRecDepth 4000
theorem ayN{α:Type}{A:List α}:∀{L:List α} {j:Nat} (hj:j<L.length),(A++[L[j]]++L.eraseIdx j).Perm (A++L):=by
 intro L j hj
 rw[aJW]
 refine List.Perm.append_left A ?_
 have h:L=L.take j++L[j]::L.drop (j+1):=by
  rw[<-aKB hj,aKN]
 have h2:L.eraseIdx j=L.take j++L.drop (j+1):=List.eraseIdx_eq_take_drop_succ ..
 rw[h2]
 conv=>rhs;rw[h]
 show(L[j]::(L.take j++L.drop (j+1))).Perm _
 exact(List.perm_middle).symm
theorem aGT{m box sb lp:Nat}{ls:List (ByteArray×aL1)}{r0:Loop}{w:aL0}(I:List ByteArray->aL0->Prop)(hm:Mp w m Rb ls)(hb:bD w box [.map (some m)])(hbs:box≠sb/\box≠lp/\m≠sb/\m≠lp)(hlt:sb<w.heap.size/\lp<w.heap.size)
 (hp:r0.params.size=1) (h0:I [] w) (hl:∀d W,I d W->W.heap[lp]?=some (.loop r0)) (hN:∀d W W',I d W->aL W W' (λy=>y=w.heap.size)->I d W')
 (hs:∀d k W,I d W->d.length<ls.length->w.heap.size<W.heap.size->aaH pg lp r0.fn (VI r0 [.string k]) r0.assign r0.body W (λb W'=>b= .bool true/\I (d++[k]) W'/\aL W W' (λy=>y=sb∨y=lp∨w.heap.size<y))):
 aG pg gY #[GM lp,.pointer (some ⟨box,0,none⟩)] w (λr W=>r= .tuple #[]/\∃d,d.Perm (ls.map (·.1))/\I d W):=by
 refine NA ?_
 obtain⟨RR,hRR⟩:∃RR:aL1->aL0->Prop,RR=λr W=>r= .tuple #[]/\∃d,d.Perm (ls.map (·.1))/\I d W:=⟨_,rfl⟩
 rw[<-hRR]
 unfold Kj FO FN qX
 have c0:w.cell? ⟨box,0,none⟩=some (.map (some m)):=hb.cell (off:=0)
 have hml:=hm.lt
 simp(disch:=omega)only[SV,c0]
 refine U2 hm λw1 hi x1 s1=> ?_
 obtain⟨it,hit⟩:∃it,it=w.heap.size:=⟨_,rfl⟩
 rw[<-hit]at hi hN hs hml hlt⊢
 refine bM.rule (λk (t:Unit) W=>∃(d:List ByteArray) (rest:List (ByteArray×aL1)),k=rest.length/\Itr W it m Rb rest/\I d W/\(d++rest.map (·.1)).Perm (ls.map (·.1))/\it<W.heap.size) ls.length
  ⟨[],ls,rfl,hi,hN _ _ _ h0 (x1.mono λ_ _ h=>h.elim),aLw _,by omega⟩ ?_
 rintro k t W ⟨d,rest,rfl,hi2,hI,hpm,hW⟩
 unfold yP
 refine awL hi2 (by omega) (λhr0=> ?_) λw3 j hj hi3 hc x3 s3=> ?_
 .simp (disch:=omega)only[SV]
  rw[hRR]
  refine⟨rfl,d, ?_,hI⟩
  rw[hr0]at hpm
  simpa using hpm
 .have he:=aAJ (P:=pg) hc
  have hI3:=hN _ _ _ hI x3
  have hlp:=hl _ _ hI3
  have q1:=aqP (P:=pg) (args:=[.string (rest[j]).1]) hlp (by rw[hp]<;>rfl)
  have hlen:d.length<ls.length:=by
   have:=hpm.length_eq
   simp only[aJF,aJC]at this
   omega
  simp(disch:=omega)only[SV,he,q1,abW]
  obtain⟨b',w4,hret,hR⟩:=hs d (rest[j]).1 w3 hI3 hlen (by omega)
  refine⟨b',w4,hret, ?_⟩
  obtain⟨rfl,hI4,x4⟩:=hR
  simp(disch:=omega)only[SV]
  refine⟨(rest.eraseIdx j).length,by rw[List.length_eraseIdx_of_lt hj];omega,d++[(rest[j]).1],rest.eraseIdx j,rfl,hi3.ext x4 (by omega) (by omega),hI4, ?_,by have:=x4.size;omega⟩
  have:=ayN (A:=d) (L:=rest.map (·.1)) (j:=j) (by simpa using hj)
  rw[aLq]at this
  rw[Fm]
  exact this.trans hpm
theorem aCK:amI aU= #[7]:=by kernel_rfl
theorem aGF:RS pg cB=13:=by kernel_rfl
theorem aBq{m box:Nat}{ls:List (ByteArray×aL1)}{w:aL0}(hm:Mp w m Rb ls)(hb:bD w box [.map (some m)])(hbm:box≠m)(hl:ls.length<=1000):
 aG pg cB #[.slice none 0 0,.func (.func gY) #[] #[.pointer (some ⟨box,0,none⟩)]] w (λr W=>∃d:List ByteArray,d.Perm (ls.map (·.1))/\mP W w.heap.size 1 r d.length (d.map Value.string)/\aL w W aT):=by
 refine Jp ?_
 obtain⟨RR,hRR⟩:∃RR:aL1->aL0->Prop,RR=λr W=>∃d:List ByteArray,d.Perm (ls.map (·.1))/\mP W w.heap.size 1 r d.length (d.map Value.string)/\aL w W aT:=⟨_,rfl⟩
 rw[<-hRR]
 unfold DR Bi Bh
 refine cA λw1 o1 x1 s1=> ?_
 simp only[Value.cells]at o1
 unfold rJ rI Bg mA
 intro g g2 g6 gm
 generalize hn0:w.heap.size=n0 at*
 have e1:w1.heap.size=n0+1:=by omega
 have hml:=hm.lt
 have hbl:=hb.lt
 refine asA (fi:=gY) (cap:= #[.pointer (some ⟨box,0,none⟩)]) (by show noMark (g 1000003)=true;rw[gm]<;>rfl) g6 Tryz.func88 (by kernel_rfl) (by kernel_rfl) ?_
 obtain⟨x8,s8,d8,l8⟩:=aoL cB (RS pg cB) (amI aU) (aeP aU) (Yh aU) g w1
 rw[e1]at s8 d8 l8⊢
 generalize rfW cB (RS pg cB) (amI aU) (aeP aU) (Yh aU) g w1=w8 at*
 obtain⟨r0,hr0⟩:∃r0:Loop,r0={state:= .ready,pending:=none,fn:=cB,tmps:=tmpsOf (RS pg cB) g,params:=amI aU,assign:=aeP aU,body:=Yh aU,defers:=n0+1}:=⟨_,rfl⟩
 rw[<-hr0]at l8
 have x08:aL w w8 aT:=x1.seq x8
 have z8:w8.heap.size=n0+3:=by omega
 let I:List ByteArray->aL0->Prop:=λd W=>∃sv,aL w8 W (λy=>y=n0∨y=n0+2∨n0+3<=y)/\W.heap[n0+2]?=some (.loop r0)/\bD W n0 [sv]/\DJ W (λb=>n0+3<b) 1 sv d.length (d.map Value.string)
 have hmain:=aGT (m:=m) (box:=box) (sb:=n0) (lp:=n0+2) (ls:=ls) (r0:=r0) (w:=w8) I ((hm.ext x08 (λh=>h))) (hb.ext x08 (λh=>h)) ⟨by omega,by omega,by omega,by omega⟩ ⟨by omega,by omega⟩ ?hp ?h0 ?hl ?hN ?hs
 case hp=>rw[hr0,aCK]<;>rfl
 case h0=>exact⟨_,aL.refl _ _,l8,o1.ext x8 (λh=>h),⟨rfl,.inl ⟨rfl,rfl⟩⟩⟩
 case hl=>rintro d W ⟨sv,hx,hlp,_⟩;exact hlp
 case hN=>
  rintro d W W' ⟨sv,hx,hlp,ho,hs⟩ xx
  rw[z8]at xx
  exact⟨sv,hx.seq (xx.mono λy _ h=> .inr (.inr (by omega))),wM hlp xx (by omega),ho.ext xx (by omega),hs.ext xx (λb hb h=>by omega)⟩
 case hs=>
  rintro d k W ⟨sv,hx,hlp,ho,hs⟩ hdl hW
  rw[z8]at hW⊢
  have hT:VI r0 [.string k]=(tmpsOf 13 g).setIfInBounds 7 (.string k):=aAQ (by rw[hr0];exact aCK) (by rw[hr0];simp only;rw[aGF]) _
  have hE2:KT ((tmpsOf 13 g).setIfInBounds 7 (.string k)) 2= .pointer (some ⟨n0,0,none⟩):=by
   rw[WA (by simp[tmpsOf]),if_neg (by omega),anL (by omega),g2]
  have hE7:KT ((tmpsOf 13 g).setIfInBounds 7 (.string k)) 7= .string k:=by
   rw[WA (by simp[tmpsOf]),if_pos rfl]
  rw[hT]
  subst hr0
  refine HH (by simp[tmpsOf]) ?_
  rw[hE2,hE7]
  unfold AE oS
  refine aoC hlp rfl λW1 l1 y1 z1=> ?_
  have o1:=ho.ext y1 (by omega)
  have s1:=hs.ext y1 (λb hb h=>by omega)
  obtain⟨sa,sc,rfl⟩:=yQ hs
  have c0:W1.cell? ⟨n0,0,none⟩=some (.slice sa d.length sc):=o1.cell (off:=0)
  unfold jG
  simp(disch:=omega)only[SV,c0]
  refine Wm (cells:= #[.string k]) (by decide) (by decide) (by kernel_rfl) λW2 o2 y2 z2=> ?_
  refine zP (m:=1) (news:=[Value.string k]) (i:=Tryz.t9) Tryz.underlying80 Tryz.underlying80 WG rfl rfl rfl (s1.ext y2 (λ_ _ h=>h)) (o2.cl (off:=0) (n:=1) rfl (λi hi=>by rw[aJG])) (by simp[one]) (λb hb=>by omega) (by omega) (by rw[show Tryz.t9.bytes=16 from rfl];omega) (by decide) λo' W3 s3 y3=> ?_
  obtain⟨oa',oc',rfl⟩:=yQ s3
  refine arF ((o1.ext y2 (λh=>h)).ext y3 (by omega)) rfl (by simp) λW4 o4 y4 z4=> ?_
  simp only[aJV]at o4
  have l4:=wM (wM (wM l1 y2 (λh=>h)) y3 (by omega)) y4 (by omega)
  refine VG l4 λW5 l5 y5 z5=> ?_
  have yy:aL W W5 (λy=>y=n0∨y=n0+2∨n0+3<y):=(((((y1.mono λy _ h=> .inr (.inl h)).seq (y2.mono λ_ _ h=>h.elim)).seq (y3.mono λy _ h=> .inr (.inr h))).seq (y4.mono λy _ h=> .inl h)).seq (y5.mono λy _ h=> .inr (.inl h)))
  refine⟨rfl,⟨_,hx.seq (yy.mono λy _ h=>by omega),l5,o4.ext y5 (by omega), ?_⟩,yy⟩
  rw[aJF,aKb]
  exact(s3.ext y4 (λb hb h=>by omega)).ext y5 (λb hb h=>by omega)
 refine hmain.mono ?_
 rintro r w9 ⟨rfl,d,hpm,sv,hx,hlp,ho,hs⟩
 refine SB hlp (by rw[hr0];simp) λwa ya za=> ?_
 rw[hr0]
 have hz2:put g (some DS) (.pointer (some ⟨n0+1,0,none⟩)) 2=g 2:=rfl
 have hzm:put g (some DS) (.pointer (some ⟨n0+1,0,none⟩)) 1000003= .pointer (some ⟨n0+1,0,none⟩):=rfl
 show lZ RR (put g (some DS) (.pointer (some ⟨n0+1,0,none⟩)) 2) (put g (some DS) (.pointer (some ⟨n0+1,0,none⟩)) 1000003) wa
 rw[hz2,hzm,g2]
 unfold lZ
 have c0:wa.cell? ⟨n0,0,none⟩=some sv:=(ho.ext ya (by omega)).cell (off:=0)
 simp(disch:=omega)only[SV,c0]
 refine akI (wM (wM d8 hx (by omega)) ya (by omega)) λwe ye ze=> ?_
 rw[hRR]
 have hs':=(hs.ext ya (λb hb h=>by omega)).ext ye (λb hb h=>by omega)
 refine⟨d,hpm,⟨hs'.1, ?_⟩,((x08.trans hx λy hy h=>by omega).trans ya λy hy h=>by omega).trans ye λy hy h=>by omega⟩
 rcases hs'.2 with h|⟨b,c,rest,g1,g2,g3⟩
 .exact .inl h
 .exact .inr ⟨b,c,rest,g1,by omega,g3⟩
theorem aEn{m:Nat}{ls:List (ByteArray×aL1)}{w:aL0}(hm:Mp w m Rb ls)(hnd:(ls.map (·.1)).Nodup)(hl:ls.length<=12){K:aL1->aL0->Prop}
 (hK:∀r W (L:List ByteArray),L.Perm (ls.map (·.1))->Vg L->Sl W r (L.map Value.string)->aL w W aT->K r W):
 aG pg zZ #[.map (some m)] w λt w=>aG pg qO #[t] w K:=by
 refine TV ?_
 unfold RN Kk
 refine cA λw1 o1 x1 s1=> ?_
 simp only[Value.cells]at o1
 have q1:=λw=>RV (P:=pg) (f:=gY) [] [.pointer (some ⟨w.heap.size,0,none⟩)] w
 have q1:=λW=>RV (P:=pg) (f:=gY) [] [.pointer (some ⟨w.heap.size,0,none⟩)] W
 simp(disch:=omega)only[SV,q1]
 refine MT ?_
 unfold Jr DU
 refine LH ?_
 unfold G4 DA
 have hml:=hm.lt
 refine(aBq (hm.ext x1 (λh=>h)) o1 (by omega) (by omega)).mono ?_
 rintro r w2 ⟨d,hpm,os,x2⟩
 have hlen:d.length=ls.length:=by rw[hpm.length_eq,aJC]
 refine(aCd (base:=w1.heap.size) os (by omega) (hpm.nodup_iff.2 hnd)).mono ?_
 rintro r2 w3 ⟨⟨L,h1,h2,os3⟩,x3⟩
 refine hK r w3 L (h1.trans hpm) h2 os3.sl ((x1.seq x2).trans x3 λy hy h=>by have:=x1.size;omega)
theorem aC3 {p:Nat}{X D:Nat->Prop}{S:cG}{w:aL0}(h:fS w p X D S)(hnd:(S.seen.map (·.1)).Nodup)(hl:S.seen.length<=12):
 aG pg wV #[dP p] w (λr W=>(∃L:List ByteArray,L.Perm (S.seen.map (·.1))/\Vg L/\Sl W r (L.map Value.string))/\aL w W aT):=by
 refine Q1 ?_
 unfold OS Ij
 obtain⟨ms,mn,sv,ls,ln,cs,h1,h2,h3,h4,h5,h6,h7,h7',h8,h9,h10,h11,h12,h13,h14⟩:=h
 have hk:=h12.keys
 have c2:w.cell? ⟨p,2,none⟩=some (.map (some mn)):=h8.cell (off:=2)
 simp(disch:=omega)only[SV,c2,aJG]
 have hlen:ln.length=S.seen.length:=by
  have:=congrArg List.length hk
  simpa using this
 refine aEn h10 (by rw[hk];exact hnd) (by omega) λr W L q1 q2 q3 q4=> ?_
 rw[hk]at q1
 exact⟨⟨L,q1,q2,q3⟩,q4⟩
theorem anJ{w w':aL0}{p:Nat}{X D:Nat->Prop}{S:cG}(h:fS w p X D S)(x:aL w w' aT):fS w' p X (λb=>D b∨(w.heap.size<=b/\b<w'.heap.size)) S:=by
 obtain⟨ms,mn,sv,ls,ln,cs,h1,h2,h3,h4,h5,h6,h7,h7',h8,h9,h10,h11,h12,h13,h14⟩:=h
 have hd:∀v b,JN w D v b->JN w' (λb=>D b∨(w.heap.size<=b/\b<w'.heap.size)) v b:=λv b hd=>(hd.sub (Y:=λb=>D b∨(w.heap.size<=b/\b<w'.heap.size)) λb h=>by
  rcases h with h|h
  .exact .inl h
  .exact .inr h.1).ext x λ_ h=>h.elim
 have z:=x.size
 exact⟨ms,mn,sv,ls,ln,cs,h1,h2,h3,h4,h5,h6,λb h=> .inl (h7 b h),λb hb=>by
  rcases hb with hb|hb
  .have:=h7' b hb;omega
  .exact hb.2,h8.ext x (λh=>h),h9.ext x (λh=>h),h10.ext x (λh=>h),h11.map hd,h12.map hd,h13.ext x (λb _ h=>h),h14.map hd⟩
def NR(N:Nat->Prop)(w w':aL0):Nat->Prop:=λy=>N y∨(w.heap.size<=y/\y<w'.heap.size)
theorem KH.addR {w0:aL0}{N:Nat->Prop}{w w':aL0}{q p:Nat}{S:cG}{s:eT}(h:KH w0 N w q p S s)(x:aL w w' aT):KH w0 (NR N w w') w' q p S s:=by
 obtain⟨X,D,Y,lv,hv,h,x0,hN⟩:=h
 have hlt:=eC.lt h
 have h1:=h.new x
 refine⟨X,_,Y,lv,hv,⟨h1.glob,h1.g0,h1.lo,h1.hi,anJ h.dsk x,h1.yq,λy hy=>⟨.inl (h.yd y hy).1,(h.yd y hy).2⟩,h1.own,h1.man,h1.lv,h1.hv,h1.ep,h1.lg,h1.hl,h1.nl⟩,x0.seq x,λy hy=> ?_⟩
 rcases hy with hy|hy
 .exact ⟨.inl (hN y hy).1,(hN y hy).2⟩
 .exact ⟨.inr hy,λhx=>by have:=hlt y hx;omega⟩
theorem D8.addR {w0:aL0}{N:Nat->Prop}{w w':aL0}{p:Nat}{S:cG}(h:D8 w0 N w p S)(x:aL w w' aT):D8 w0 (NR N w w') w' p S:=by
 obtain⟨X,D,h,hX,x0,hN⟩:=h
 refine⟨X,_,anJ h x,λy hy=>⟨(hX y hy).1,λhn=> ?_⟩,x0.seq x,λy hy=>hy.imp (hN y) id⟩
 rcases hn with hn|hn
 .exact (hX y hy).2 hn
 .have:=fS.lt h y (fS.xd' h y hy)
  omega
theorem KH.disk {w0:aL0}{N:Nat->Prop}{w w':aL0}{q p:Nat}{X D Y:Nat->Prop}{S S':cG}{s:eT}{lv hv:aL1}(h:eC w0.heap.size w q p X D Y S s lv hv)(x0:aL w0 w aT)(hN:∀b,N b->D b/\¬(X b∨Y b))(hp:CA w p X D S' w'):KH w0 N w' q p S' s/\aL w w' (V5 w0 N):=by
 obtain⟨X',D',h',h1,h2,x⟩:=h.disk hp
 refine⟨⟨X',D',Y,lv,hv,h',x0.trans x λy hy hm=>by have:=h.lo y (.inl hm);omega,λb hb=>⟨h2 b (hN b hb).1,λhx=> ?_⟩⟩,x.mono λb _ hb=>⟨h.lo b (.inl hb),λhn=>(hN b hn).2 (.inl hb)⟩⟩
 have hlt:=fS.lt h.dsk b (hN b hb).1
 rcases hx with hx|hx
 .rcases h1 b hx with h|h
  .exact (hN b hb).2 (.inl h)
  .omega
 .exact (hN b hb).2 (.inr hx)
def zOf(w0 w:aL0)(N:Nat->Prop):Nat->Prop:=λy=>w0.heap.size<=y/\y<w.heap.size/\¬N y
theorem afQ{w:aL0}{sz n:Nat}{v:aL1}{l:List aL1}{Z M:Nat->Prop}(hcl:Cl w sz v n l)(hsz:0<sz)(hz:¬fK v Z)(hM:∀b,M b->Z b∨w.heap.size<=b):¬fK v M:=λhi=>by
 obtain⟨b,hb,hi⟩:=Zh hi
 rcases hM b hb with h|h
 .exact hz (bO hi λy hy=>hy▸h)
 .exact Wn hcl hsz (bO hi λy hy=>by rw[hy];exact h)
theorem uA.prog {w0 w w':aL0}{N:Nat->Prop}{n:Nat}{S:cG}{dv:aL1}(h:uA (zOf w0 w N) n w S dv)(x:aL w w' (V5 w0 N)):uA (zOf w0 w' N) n w' S dv:=by
 obtain⟨D,sv,wv,h1,h2,h3⟩:=h
 have hM:∀b,V5 w0 N b->zOf w0 w N b∨w.heap.size<=b:=λb hb=>by
  by_cases hlt:b<w.heap.size
  .exact .inl ⟨hb.1,hlt,hb.2⟩
  .exact .inr (by omega)
 have hZ:∀b,zOf w0 w' N b->zOf w0 w N b∨w.heap.size<=b:=λb hb=>hM b ⟨hb.1,hb.2.2⟩
 exact⟨D,sv,wv,h1,⟨⟨dS h2.sure.1 x (afQ h2.sure.1 (by omega) h2.sure.2.1 hM),afQ h2.sure.1 (by omega) h2.sure.2.1 hZ,λb hb=>hb.2.1⟩,dS h2.way x (afQ h2.way (by omega) h2.wz hM),afQ h2.way (by omega) h2.wz hZ⟩,h3⟩
theorem uA.model {w0 w w':aL0}{N:Nat->Prop}{n:Nat}{S:cG}{dv:aL1}(h:uA (zOf w0 w N) n w' S dv)(hs:w.heap.size<=w'.heap.size):uA (zOf w0 w' (NR N w w')) n w' S dv:=by
 obtain⟨D,sv,wv,h1,h2,h3⟩:=h
 have hZ:∀b,zOf w0 w' (NR N w w') b->zOf w0 w N b:=λb hb=>⟨hb.1,by
  by_cases hlt:b<w.heap.size
  .exact hlt
  .exact absurd (.inr ⟨by omega,hb.2.1⟩) hb.2.2,λhn=>hb.2.2 (.inl hn)⟩
 exact⟨D,sv,wv,h1,⟨⟨h2.sure.1,λhi=>h2.sure.2.1 (bO hi hZ),λb hb=>hb.2.1⟩,h2.way,λhi=>h2.wz (bO hi hZ)⟩,h3⟩
theorem aqF{w0 w w':aL0}{N:Nat->Prop}{b:Nat}(h:V5 w0 (NR N w w') b):V5 w0 N b:=⟨h.1,λhn=>h.2 (.inl hn)⟩
theorem aDf{w0 w w':aL0}{N:Nat->Prop}{s:eT}{hv hv':aL1}(h:HvN w w' s hv hv')(hz:¬fK hv (V5 w0 N)):¬fK hv' (V5 w0 (NR N w w')):=by
 intro hi
 rcases h with rfl|h
 .exact hz (bO hi λb hb=>aqF hb)
 .rcases h.2 with⟨rfl,_⟩|⟨b,c,rest,rfl,hb,ho,_⟩
  .exact hi
  .obtain ⟨b',hb',hi⟩:=Zh hi
   unfold fK at hi
   split at hi
   .rename_i e
    simp only[Value.slice.injEq,aKc]at e
    obtain⟨rfl,_⟩:=e
    have hi:b=b':=hi
    subst hi
    exact hb'.2 (.inr ⟨hb,ho.lt⟩)
   .exact hi
theorem Cf{xs:List aL1}:(Value.agg xs.toArray).cells.toList=xs:=by
 simp[Value.cells]
abbrev pV(p:Nat)(sp:aL1)(cd cs:List aL1):List aL1:=dP p::sp::(cd++cs)
def Wc(w0:aL0)(N:Nat->Prop)(w:aL0)(S:cG)(m:Gh)(lv0:aL1)(p:Nat)(sp:aL1)(cs:List aL1):Option eT->Prop
 |none=>sp= .pointer none/\cs=Z9/\D8 w0 N w p S
 |some s=>∃q hv,sp=dP q/\cs=yU s lv0 hv/\Uk w s lv0 hv/\¬fK hv (V5 w0 N)/\KH w0 N w q p S s/\s.nm=sF/\s.man=m/\s.hv.length=m.leaves.length
structure PM(w0:aL0)(N:Nat->Prop)(w:aL0)(n:Nat)(S:cG)(so:Option eT)(m:Gh)(lv0:aL1)(p:Nat)(sp:aL1)(cd cs:List aL1):Prop where
 md:uA (zOf w0 w N) n w S (.agg cd.toArray)
 st:Wc w0 N w S m lv0 p sp cs so
theorem Wc.dses {w0 w:aL0}{N:Nat->Prop}{S:cG}{m:Gh}{lv0 sp:aL1}{p:Nat}{cs:List aL1}{so:Option eT}(h:Wc w0 N w S m lv0 p sp cs so):D8 w0 N w p S:=by
 cases so with
 |none=>exact h.2.2
 |some s=>
  obtain⟨q,hv,_,_,_,_,h,_⟩:=h
  exact h.dses
theorem Wc.h9 {w0 w:aL0}{N:Nat->Prop}{S:cG}{m:Gh}{lv0 sp:aL1}{p:Nat}{cs:List aL1}{so:Option eT}(h:Wc w0 N w S m lv0 p sp cs so):cs.length=9/\(∀x∈cs,one x=true)/\YO cs=true/\∃a,sp= .pointer a:=by
 cases so with
 |none=>
  obtain⟨rfl,rfl,_⟩:=h
  exact⟨rfl,by intro x hx;simp only[aJK,aJN,or_false]at hx;rcases hx with rfl|rfl|rfl|rfl|rfl|rfl|rfl|rfl|rfl<;>rfl,rfl,_,rfl⟩
 |some s=>
  obtain⟨q,hv,rfl,rfl,h3,_⟩:=h
  exact⟨rfl,lY h3 _,pS _ _ _,_,rfl⟩
theorem PM.new {w0 w w':aL0}{N:Nat->Prop}{n:Nat}{S:cG}{so:Option eT}{m:Gh}{lv0:aL1}{p:Nat}{sp:aL1}{cd cs:List aL1}(h:PM w0 N w n S so m lv0 p sp cd cs)(x:aL w w' aT):PM w0 N w' n S so m lv0 p sp cd cs:=by
 refine⟨h.md.prog (x.mono λ_ _ h=>h.elim), ?_⟩
 have hs:=h.st
 cases so with
 |none=>exact⟨hs.1,hs.2.1,hs.2.2.new x⟩
 |some s=>
  obtain⟨q,hv,h1,h2,h3,h4,h5,h6⟩:=hs
  exact⟨q,hv,h1,h2,h3.new x,h4,h5.new x,h6⟩
theorem PM.newR {w0 w w':aL0}{N:Nat->Prop}{n:Nat}{S:cG}{so:Option eT}{m:Gh}{lv0:aL1}{p:Nat}{sp:aL1}{cd cs:List aL1}(h:PM w0 N w n S so m lv0 p sp cd cs)(x:aL w w' aT):PM w0 (NR N w w') w' n S so m lv0 p sp cd cs:=by
 refine⟨uA.model (h.md.new x) x.size, ?_⟩
 have hs:=h.st
 cases so with
 |none=>exact⟨hs.1,hs.2.1,hs.2.2.addR x⟩
 |some s=>
  obtain⟨q,hv,h1,h2,h3,h4,h5,h6⟩:=hs
  exact⟨q,hv,h1,h2,h3.new x,λhi=>h4 (bO hi λb hb=>aqF hb),h5.addR x,h6⟩
theorem avO{S:cG}{D:DI}(h:He S D){L:List ByteArray}(hp:L.Perm (S.seen.map (·.1)))(hs:Vg L):L=(dY D).map (·.1):=by
 have hst:Vg ((dY D).map (·.1)):=by
  unfold Vg
  rw[List.pairwise_map]
  exact h.se.st
 refine awF hs hst λx=> ?_
 rw[hp.mem_iff]
 have key:∀{l:cO} {n:ByteArray},n∈l.map (·.1)↔bF n l≠none:=by
  intro l n
  induction l with
  |nil=>simp[bF]
  |cons a r ih=>
   rw[aJU,aJK]
   simp only[bF]
   by_cases hq:n=a.1
   .subst hq;simp
   .have hq':¬a.1=n:=λe=>hq e.symm
    simp[hq,hq',ih]
 rw[key,key,h.se.eq]
theorem aFf{l:cO}(h:(l.map (·.1)).Nodup){i:Nat}(hi:i<l.length):bF l[i].1 l=some l[i].2:=by
 induction l generalizing i with
 |nil=>simp at hi
 |cons a r ih=>
  rw[aJU,aK3]at h
  cases i with
  |zero=>simp[bF]
  |succ i=>
   have hi':i<r.length:=by simpa using hi
   have hm:r[i].1∈r.map (·.1):=aKq.2 ⟨_,aKp hi',rfl⟩
   have hne:¬a.1=r[i].1:=λe=>h.1 (e▸hm)
   have hne':¬r[i].1=a.1:=λe=>hne e.symm
   show bF r[i].1 (a::r)=some r[i].2
   simp only[bF]
   rw[<-ih h.2 hi']
   simp[hne,hne']
theorem aDw{w0 w:aL0}{N:Nat->Prop}{n:Nat}{S:cG}{so:Option eT}{m:Gh}{lv0:aL1}{p:Nat}{sp:aL1}{cd cs:List aL1}(h:PM w0 N w n S so m lv0 p sp cd cs)(hlen:S.seen.length<=12):
 aG pg CC #[.agg (pV p sp cd cs).toArray] w (λr w'=>r= .bool true/\aL w w' aT):=by
 refine acZ ?_
 obtain⟨RR,hRR⟩:∃RR:aL1->aL0->Prop,RR=λr w'=>r= .bool true/\aL w w' aT:=⟨_,rfl⟩
 rw[<-hRR]
 obtain⟨D,sv,wv,hcd,hV,hK⟩:=h.md
 have hcd:cd=AM D sv wv:=by
  injection hcd with e
  have:=congrArg Array.toList e
  simpa using this
 obtain⟨c9l,c91,c9n,spa,hsp⟩:=h.st.h9
 obtain⟨X,Dd,hdk,hX,x00,hNN⟩:=h.st.dses
 unfold ahQ Rk Rj
 refine cA λw1 o1 x1 s1=> ?_
 rw[Cf]at o1
 obtain⟨pb,hpb⟩:∃pb,pb=w.heap.size:=⟨_,rfl⟩
 rw[<-hpb]at o1⊢
 have c0:w1.cell? ⟨pb,0,none⟩=some (dP p):=o1.cell (off:=0)
 simp(disch:=omega)only[SV,c0]
 refine(aC3 (hdk.new x1) hK.sim.se.nd hlen).mono ?_
 rintro nv w2 ⟨⟨L,hLp,hLs,hLv⟩,x2⟩
 have hL:=avO hK.sim hLp hLs
 have o2:=o1.ext x2 (λh=>h)
 have x02:=x1.seq x2
 have lw:∀{W},aL w2 W aT->(aB 40 (.pointer (some ⟨pb,2,none⟩))).run pg W= .ok (.value (.agg (AM D sv wv).toArray)) W:=λ{W} x=>by
  have:=bW (off:=2) (o2.ext x (λh=>h)) (by rw[hcd];simp)
  rw[this,hcd]
  rfl
 have lw2:=lw (aL.refl w2 aT)
 simp(disch:=omega)only[SV,lw2]
 refine(Tv (hV.new x02) hK.rb).mono ?_
 rintro fv w3 ⟨hf,x3⟩
 have x03:=x02.seq x3
 have o3:=o2.ext x3 (λh=>h)
 have hLv3:=hLv.ext x3 (bC _)
 obtain⟨fa,fc,hfv⟩:=hf.len
 obtain⟨na,nc,hnv,hnc⟩:=hLv3.len
 rw[aJC]at hnv
 have hl:L.length=(dY D).length:=by rw[hL,aJC]
 obtain⟨wa,wc,hwv,_⟩:=hV.way
 subst hfv hnv
 have hL12:L.length<=12:=by rw[hl,<-hK.sim.se.both.2];exact hlen
 have k1:(((L.length:Nat):Int) !=(((dY D).length:Nat):Int))=false:=by rw[hl];simp
 have xd:=x03.seq (aL.dr w3 aT)
 have od:=o3.ext (aL.dr w3 aT) (λh=>h)
 have cw:∀{W},aL w3 W aT->W.cell? ⟨pb,4,none⟩=some wv:=λ{W} x=>by
  have:=(o3.ext x (λh=>h)).cell (off:=4)
  rw[this,hcd]<;>rfl
 have cp:∀{W},aL w3 W aT->W.cell? ⟨pb,0,none⟩=some (dP p):=λ{W} x=>(o3.ext x (λh=>h)).cell (off:=0)
 have c4:=cw (aL.dr w3 aT)
 have c0d:=cp (aL.dr w3 aT)
 rw[hwv]at c4
 simp(disch:=omega)only[SV,k1,c0d,c4]
 refine(aBV (hdk.new xd)).mono ?_
 rintro r w4 ⟨rfl,hw4⟩
 rw[hw4];clear hw4 w4
 have c22:(dr w3).cell? ⟨pb,2+2,none⟩=some (.slice wa D.way.length wc):=c4
 have k2:(((S.under.length:Nat):Int) !=((D.way.length:Nat):Int))=false:=by rw[hK.sim.wy];simp
 simp(disch:=omega)only[SV,c22,k2]
 unfold Iu It Ri C0
 have hnd:((dY D).map (·.1)).Nodup:=hK.sim.se.st.nodup
 refine bM.rule (λq (t:aL1) W=>∃i:Nat,q=L.length-i/\i<=L.length/\t= .int .i64 (i:Nat)/\aL w3 W aT) L.length ⟨0,rfl,by omega,rfl,aL.dr w3 aT⟩ ?_
 rintro q t W ⟨i,rfl,hi,rfl,xW⟩
 have x0W:=x03.seq xW
 have oW:=o3.ext xW (λh=>h)
 have fin:Fe RR (.pointer (some ⟨pb,0,none⟩)) W:=by
  unfold Fe Ut
  have c1W:W.cell? ⟨pb,1,none⟩=some sp:=oW.cell (off:=1)
  have hst:=h.st
  cases so with
  |none=>
   obtain⟨rfl,_,_⟩:=hst
   simp(disch:=omega)only[SV,c1W,aKY]
   rw[hRR]
   exact⟨rfl,x0W⟩
  |some s=>
  obtain⟨q,hv,rfl,hcs,hR,_,hS,_⟩:=hst
  have hSW:=hS.new x0W
  simp(disch:=omega)only[SV,c1W,aKI]
  refine(avW hSW).mono ?_
  rintro gv W2 ⟨hg,hS2,xg⟩
  obtain⟨ga,gc,hge⟩:∃a c,gv= .slice a s.hv.length c:=by
   obtain⟨a,c,h,_⟩:=hg.sl.len
   rw[aJC]at h
   exact⟨a,c,h⟩
  obtain⟨ha,hc,hhe,_⟩:=hR.hv.len
  rw[aJC]at hhe
  subst hge
  have o2W:=oW.ext xg (λh=>h)
  have odW:=o2W.ext (aL.dr W2 aT) (λh=>h)
  have g1:(dr W2).cell? ⟨pb,1,none⟩=some (dP q):=odW.cell (off:=1)
  have g7:∀{W' k v},aL W2 W' aT->(yU s lv0 hv)[k]?=some v->W'.cell? ⟨pb,7+k,none⟩=some v:=λ{W' k v} x hk=>by
   have:=(o2W.ext x (λh=>h)).cell (off:=7+k)
   rw[this,hcs,hcd]
   have e:pV p (dP q) (AM D sv wv) (yU s lv0 hv)=[dP p,dP q,.int .i64 D.room,sv,wv,.int .i64 D.left,.bool D.down]++yU s lv0 hv:=rfl
   rw[e,aJ2 (by simp),show(7+k-([dP p,dP q,.int .i64 D.room,sv,wv,.int .i64 D.left,.bool D.down]:List aL1).length)=k from by simp]
   exact hk
  have xdd:=aL.dr W2 aT
  have b5:(dr W2).cell? ⟨pb,7+5,none⟩=some hv:=g7 xdd rfl
  have b4:(dr W2).cell? ⟨pb,7+4,none⟩=some (.int .u64 (s.epoch:Nat)):=g7 xdd rfl
  have b7:(dr W2).cell? ⟨pb,7+7,none⟩=some (.bool s.fin):=g7 xdd rfl
  have b8:(dr W2).cell? ⟨pb,7+8,none⟩=some (.int .i64 s.err):=g7 xdd rfl
  rw[hhe]at b5
  have m1:(((s.hv.length:Nat):Int) !=((s.hv.length:Nat):Int))=false:=by simp
  have m2:(((s.epoch:Nat):Int) !=((s.epoch:Nat):Int))=false:=by simp
  have m3:(s.fin==s.fin)=true:=by simp
  have m4:(s.err !=s.err)=false:=by simp
  have hSd:=hS2.new xdd
  simp(disch:=omega)only[SV,b5,m1,g1]
  refine(aoN hSd).mono ?_
  rintro r W3 ⟨rfl,hw⟩
  rw[hw];clear hw W3
  simp(disch:=omega)only[SV,b4,m2,g1]
  refine(avV hSd).mono ?_
  rintro r W3 ⟨rfl,hw⟩
  rw[hw];clear hw W3
  simp(disch:=omega)only[SV,b7,m3,g1]
  refine(aFS hSd).mono ?_
  rintro r W3 ⟨rfl,hw⟩
  rw[hw];clear hw W3
  simp(disch:=omega)only[SV,b8,m4,g1]
  unfold KX KW Us Fc
  have hgd:=hg.sl.ext xdd (bC _)
  have hhv:=((hR.new x0W).new xg).hv.ext xdd (bC _)
  rw[hhe]at hhv
  refine bM.rule (λq (t:aL1) w'=>∃i:Nat,q=s.hv.length-i/\i<=s.hv.length/\t= .int .i64 (i:Nat)/\aL (dr W2) w' aT) s.hv.length ⟨0,rfl,by omega,rfl,aL.refl _ _⟩ ?_
  rintro q2 t w' ⟨i,rfl,hi2,rfl,xw⟩
  unfold KV
  have hl1024:=hR.hl
  by_cases hlt:i<s.hv.length
  rotate_left
  .have d1:decide ((i:Int)<(s.hv.length:Int))=false:=by simp;omega
   unfold KU
   simp(disch:=omega)only[SV,d1]
   rw[hRR]
   exact⟨rfl,((x0W.seq xg).seq xdd).seq xw⟩
  have d1:decide ((i:Int)<(s.hv.length:Int))=true:=by simp;omega
  have hin:(i:Int).toNat=i:=aJI _
  have q1:(i:Int)+1=((i+1:Nat):Int):=by omega
  have key:∀{a:Option Addr} {c:Nat},Sl (dr W2) (.slice a s.hv.length c) (s.hv.map Value.bool)->∃kb koff,a=some ⟨kb,koff,none⟩/\∀W',aL (dr W2) W' aT->W'.cell? ⟨kb,koff+i,none⟩=some (.bool s.hv[i]):=λ{a c} h=>by
   obtain⟨a',n',c',he',hn',hc',hh⟩:=h
   simp only[Value.slice.injEq]at he'
   obtain⟨rfl,rfl,rfl⟩:=he'
   obtain⟨kb,koff,rfl,h2⟩:=hh (by omega)
   refine⟨kb,koff,rfl,λW' x'=> ?_⟩
   have h3:=h2 i (by omega)
   rw[aJ4,aJE hlt]at h3
   have h3:(dr W2).cell? ⟨kb,koff+i,none⟩=some (.bool s.hv[i]):=h3
   exact vW h3 x' (λh=>h)
  obtain⟨k1b,k1o,rfl,r1⟩:=key hgd
  obtain⟨k2b,k2o,rfl,r2⟩:=key hhv
  have xwd:=xw.seq (aL.dr w' aT)
  have r1:=r1 _ xwd
  have r2:=r2 _ xwd
  have b5':(dr w').cell? ⟨pb,7+5,none⟩=some hv:=g7 (xdd.seq xwd) rfl
  rw[hhe]at b5'
  have m5:(s.hv[i]==s.hv[i])=true:=by simp
  simp(disch:=omega)only[SV,d1,hin,r1,r2,b5',m5,q1]
  first
   |exact⟨s.hv.length-(i+1),by omega,i+1,rfl,by omega,rfl,xwd⟩
   |exact⟨s.hv.length-(i+1),by omega,i+1,rfl,by omega,xw⟩
   |exact⟨s.hv.length-(i+1),by omega,i+1,rfl,by omega,rfl,xw⟩
 unfold Is
 by_cases hlt:i<L.length
 rotate_left
 .have d1:decide ((i:Int)<(L.length:Int))=false:=by simp;omega
  simp(disch:=omega)only[SV,d1]
  exact fin
 have d1:decide ((i:Int)<(L.length:Int))=true:=by simp;omega
 have c6:W.cell? ⟨pb,2+4,none⟩=some (.bool D.down):=by
  have:=oW.cell (off:=6)
  rw[show(2+4:Nat)=6 from rfl,this,hcd]<;>rfl
 cases hdn:D.down with
 |true=>
  rw[hdn]at c6
  simp(disch:=omega)only[SV,d1,c6]
  exact fin
 |false=>
 rw[hdn]at c6
 have hSd:S.down=false:=by rw[<-hK.sim.dn];exact hdn
 have c0W:(dr W).cell? ⟨pb,0,none⟩=some (dP p):=cp (xW.seq (aL.dr W aT))
 have hin:(i:Int).toNat=i:=aJI _
 have hir:i<(dY D).length:=by omega
 have hnm:L[i]=(dY D)[i].1:=by simp only[hL,aLq]
 obtain⟨nb,noff,hna,hncell⟩:∃nb noff,na=some ⟨nb,noff,none⟩/\∀W',aL w3 W' aT->W'.cell? ⟨nb,noff+i,none⟩=some (.string (dY D)[i].1):=by
  obtain⟨a',n',c',he',hn',hc',hh⟩:=hLv3
  simp only[Value.slice.injEq]at he'
  obtain⟨rfl,rfl,rfl⟩:=he'
  obtain⟨nb,noff,rfl,h2⟩:=hh (by omega)
  refine⟨nb,noff,rfl,λW' x'=> ?_⟩
  have h3:=h2 i (by omega)
  rw[aJ4,aJE hlt]at h3
  have h3:w3.cell? ⟨nb,noff+i,none⟩=some (.string L[i]):=h3
  rw[vW h3 x' (λh=>h),hnm]
 subst hna
 have n1:=hncell _ (xW.seq (aL.dr W aT))
 simp(disch:=omega)only[SV,d1,c6,c0W,hin,n1]
 refine(afN (hdk.new (x0W.seq (aL.dr W aT))) hK.bk.bd (λb hb=>hK.bk.file hb)).mono ?_
 rintro r W2 ⟨hr,x2W⟩
 have xW2:=(xW.seq (aL.dr W aT)).seq x2W
 have hgg:bF (dY D)[i].1 S.seen=some (dY D)[i].2:=by rw[hK.sim.se.eq,aFf hnd hir]
 rcases hr with⟨h1,_⟩|⟨_,h2,_⟩|⟨_,b,v,h2,rfl,hv⟩
 .rw [hSd]at h1;cases h1
 .rw [hgg]at h2;cases h2
 rw[hgg]at h2
 have h2:(dY D)[i].2=b:=by injection h2
 obtain⟨fb,foff,fc',hfe,hf1,hf2⟩:=(hf.new (xW2.seq (aL.dr W2 aT))).at hir
 simp only[Value.slice.injEq]at hfe
 obtain⟨rfl,-,rfl⟩:=hfe
 have n2:=hncell _ (xW2.seq (aL.dr W2 aT))
 have hbv:Bs (dr W2) v b:=(hv.ext (aL.dr W2 aT) (λ_ _ h=>h)).sl
 have hcv:=eP hbv
 have s1:((dY D)[i].1.toList==(dY D)[i].1.toList)=true:=by simp
 rw[h2]at hf2
 have s2:((⟨b.toArray⟩:ByteArray).toList==(⟨b.toArray⟩:ByteArray).toList)=true:=by simp
 have q1:(i:Int)+1=((i+1:Nat):Int):=by omega
 have z0:((0:Int) !=0)=false:=rfl
 simp(disch:=omega)only[SV,hin,n2,hf1,hf2,hcv,ZC,s1,s2,z0,q1]
 first
  |exact⟨L.length-(i+1),by omega,i+1,rfl,by omega,rfl,xW2.seq (aL.dr W2 aT)⟩
  |exact⟨L.length-(i+1),by omega,i+1,rfl,by omega,xW2.seq (aL.dr W2 aT)⟩
theorem qF{m:Gh}{lv:aL1}{w:aL0}{n:Nat}{l:List aL1}(hv:Cl w 32 lv n l):
 aG pg dK #[.agg (xV m lv).toArray] w (λr w'=>r= .agg (xV m lv).toArray/\aL w w' aT):=by
 refine Vw ?_
 unfold Uu Mj
 obtain⟨a,c,rfl,_⟩:=hv
 refine cA λw1 o1 x1 s1=> ?_
 rw[Cf]at o1
 refine Qz λw2 o2 x2 s2=> ?_
 obtain⟨mb,hmb⟩:∃mb,mb=w.heap.size:=⟨_,rfl⟩
 rw[<-hmb]at o1⊢
 have o1':=o1.ext x2 (λh=>h)
 have c0:w2.cell? ⟨mb,0,none⟩=some (.int .u64 (m.size:Nat)):=o1'.cell (off:=0)
 have c1:w2.cell? ⟨mb,1,none⟩=some (.int .u32 (m.part:Nat)):=o1'.cell (off:=1)
 have c2:w2.cell? ⟨mb,2,none⟩=some (.slice a n c):=o1'.cell (off:=2)
 simp(disch:=omega)only[SV,c0,c1,c2]
 refine Qo o2 rfl (by intro x hx;simp only[aJK,aJN,or_false]at hx;rcases hx with rfl|rfl|rfl<;>rfl) (by simp) λw3 o3 x3 s3=> ?_
 have o3:bD w3 w1.heap.size (xV m (.slice a n c)):=o3
 refine P5 o3 (by simp) ?_
 exact⟨rfl,(x1.seq x2).trans x3 λy hy h=>by omega⟩
def nmK:Nat->ByteArray
 |0=>sF
 |1=>aZ sF
 |2=>cZ sF
 |_=>⟨#[103]⟩
theorem afS{k:Nat}{w:aL0}(hk:k<256):aG pg rE #[.int .u8 (k:Nat)] w (λr w'=>r= .string (nmK (k%4))/\aL w w' aT):=by
 refine Zn ?_
 unfold aaT Rl
 refine Wm (cells:= #[.string sF,.string (aZ sF),.string (cZ sF),.string ⟨#[103]⟩]) (by decide) (by decide) (by kernel_rfl) λw1 o1 x1 s1=> ?_
 have a3:acA .u8 (k:Int) 3=((k%4:Nat):Int):=by
  have:∀k:Fin 256,acA .u8 (k.val:Int) 3=((k.val%4:Nat):Int):=by decide+kernel
  exact this ⟨k,hk⟩
 have hin:((k%4:Nat):Int).toNat=k%4:=aJI _
 have c:w1.cell? ⟨w.heap.size,k%4,none⟩=some (.string (nmK (k%4))):=by
  rw[o1.cell]
  have h4:k%4<4:=by omega
  generalize k%4=j at*
  match j,h4 with
  |0,_=>rfl
  |1,_=>rfl
  |2,_=>rfl
  |3,_=>rfl
 simp(disch:=omega)only[SV,a3,hin,c,aJG]
 exact x1
theorem ayE{a:Option Addr}{n c m c' k:Nat}{M:Nat->Prop}(h:¬fK (.slice a n c) M)(hm:m<=n):¬fK (.slice (dD a c k 1) m c') M:=by
 cases a with
 |none=>simp[dD,fK]
 |some a=>
  obtain⟨b,o,e⟩:=a
  cases m with
  |zero=>
   intro hi
   unfold fK at hi
   split at hi
   .rename_i e1
    simp at e1
   .exact hi
  |succ m=>
   obtain⟨n',rfl⟩:∃n',n=n'+1:=⟨n-1,by omega⟩
   have h:¬M b:=h
   intro hi
   unfold fK dD at hi
   split at hi
   .rename_i x q _ e1
    simp only[Value.slice.injEq]at e1
    obtain⟨e1,_,_⟩:=e1
    split at e1
    .cases e1;exact h hi
    .rw [aKs]at e1
     unfold Addr.add at e1
     by_cases hz:k*1=0
     .simp only[hz,if_true,aKc]at e1
      cases e1;exact h hi
     .simp only[if_neg hz,aKc]at e1
      cases e1;exact h hi
   .exact hi
structure arU where
 kind:Int
 part:Int
 bytes:List UInt8
 own:Bool
 keep:List Bool
 stop:Int
 name:Nat
 pos:Int
abbrev aC(a:arU)(bv kv:aL1):List aL1:=[.int .i64 a.kind,.int .i64 a.part,bv,.bool a.own,kv,.int .i64 a.stop,.int .u8 (a.name:Nat),.int .i64 a.pos]
theorem aFJ{f:List UInt8}{fv bv kv:aL1}{k:Nat}{a:arU}{w:aL0}(hf:Bs w fv f)(hb:Bs w bv a.bytes)(hfl:f.length<=1000)(hk:1<=k/\k<=65536):
 aG pg ER #[fv,.int .i64 (k:Nat),.agg (aC a bv kv).toArray] w (λr w'=>∃b,Bs w' r b/\b.length<=f.length+a.bytes.length/\(∀M,¬fK fv M->¬fK bv M->¬fK r M)/\aL w w' aT):=by
 refine Zo ?_
 obtain⟨RR,hRR⟩:∃RR:aL1->aL0->Prop,RR=λr w'=>∃b,Bs w' r b/\b.length<=f.length+a.bytes.length/\(∀M,¬fK fv M->¬fK bv M->¬fK r M)/\aL w w' aT:=⟨_,rfl⟩
 rw[<-hRR]
 unfold aaU Ro Rn
 refine cA λw1 o1 x1 s1=> ?_
 rw[Cf]at o1
 obtain⟨ab,hab⟩:∃ab,ab=w.heap.size:=⟨_,rfl⟩
 rw[<-hab]at o1⊢
 have c1:w1.cell? ⟨ab,1,none⟩=some (.int .i64 a.part):=o1.cell (off:=1)
 have c2:w1.cell? ⟨ab,2,none⟩=some bv:=o1.cell (off:=2)
 have c3:w1.cell? ⟨ab,3,none⟩=some (.bool a.own):=o1.cell (off:=3)
 obtain⟨fa,fc,hfv,hfc⟩:=hf.len
 rw[aJC]at hfv hfc
 have hf1:=hf.ext x1 (bC _)
 subst hfv
 have other:RR bv w1:=by
  rw[hRR]
  exact⟨a.bytes,hb.ext x1 (bC _),by omega,λM _ h=>h,x1⟩
 obtain⟨A,hA⟩:∃A,A=IntKind.i64.wrap (a.part*(k:Int)):=⟨_,rfl⟩
 have d3:decide (((k:Nat):Int)<1)=false:=decide_eq_false (by omega)
 cases how:a.own with
 |false=>
  rw[how]at c3
  simp(disch:=omega)only[SV,c1,c2,c3]
  exact other
 |true=>
 rw[how]at c3
 by_cases hp0:a.part<0
 .have d1:decide (a.part<0)=true:=decide_eq_true hp0
  simp(disch:=omega)only[SV,c1,c2,c3,d1]
  exact other
 have d1:decide (a.part<0)=false:=decide_eq_false hp0
 by_cases hA0:A<0
 .have d4:decide (A<0)=true:=decide_eq_true hA0
  simp(disch:=omega)only[SV,c1,c2,c3,d1,d3,<-hA,d4]
  exact other
 have d4:decide (A<0)=false:=decide_eq_false hA0
 by_cases hAl:(f.length:Int)<=A
 .have d5:decide (((f.length:Nat):Int)<=A)=true:=decide_eq_true hAl
  simp(disch:=omega)only[SV,c1,c2,c3,d1,d3,<-hA,d4,d5]
  exact other
 have d5:decide (((f.length:Nat):Int)<=A)=false:=decide_eq_false hAl
 obtain⟨j,rfl⟩:∃j:Nat,A=(j:Int):=⟨A.toNat,by omega⟩
 have q1:((j:Nat):Int)+((k:Nat):Int)=((j+k:Nat):Int):=by omega
 have hjt:((j:Nat):Int).toNat=j:=aJI _
 have cut:∀t:Nat,j<=t->t<=f.length->C3 RR (.slice fa f.length fc) (.int .i64 (j:Nat)) (.int .i64 (t:Nat)) w1:=by
  intro t h1 h2
  have htt:((t:Nat):Int).toNat=t:=aJI _
  have hs:=λw=>pB (k:= .i64) (k':= .i64) (lo:=((j:Nat):Int)) (hi:=((t:Nat):Int)) fa f.length fc w (by omega) (by omega) (by omega)
  unfold C3
  simp(disch:=omega)only[SV,hs,hjt,htt]
  rw[hRR]
  have hm:=Sl.mid hf1 (i:=j) (j:=t) h1 h2
  rw[<-aLj,<-aLD]at hm
  refine⟨_,hm,by rw[aJP,aJS];omega,λM h _=>ayE h (by omega),x1⟩
 by_cases hgt:f.length<j+k
 .have d6:decide (((f.length:Nat):Int)<((j+k:Nat):Int))=true:=by simp only[decide_eq_true_eq];omega
  simp(disch:=omega)only[SV,c1,c2,c3,d1,d3,<-hA,d4,d5,q1,d6]
  exact cut f.length (by omega) (by omega)
 .have d6:decide (((f.length:Nat):Int)<((j+k:Nat):Int))=false:=by simp only[decide_eq_false_iff_not];omega
  simp(disch:=omega)only[SV,c1,c2,c3,d1,d3,<-hA,d4,d5,q1,d6]
  exact cut (j+k) (by omega) (by omega)
theorem aGN{S:cG}{s:eT}{l:List (Nat×Nat)}:(KS S s l).2.1=none->(KS S s l).2.2≠0:=by
 unfold KS
 split
 .split
  .rename_i h;intro _;exact h
  .intro h;cases h
 .split
  .rename_i h;intro _;exact h
  .split
   .rename_i h;intro _;exact h
   .intro h;cases h
theorem aFC{S:cG}{n:ByteArray}{m:Gh}:(sY aX aY S n m).2.1=none->(sY aX aY S n m).2.2≠0:=by
 rw[Er]
 split
 .rename_i h;intro _;exact h
 .split
  .rename_i h;intro _;exact h
  .exact aGN
theorem aBO{S:cG}{n:ByteArray}{m:Gh}{s:eT}(h:(sY aX aY S n m).2.1=some s):s.nm=n/\s.man=m/\s.hv.length=m.leaves.length:=by
 have hb:=Ni (S:=S) (s:=qA S n m)
 have hbh:(fU S (qA S n m)).2.1.hv.length=m.leaves.length:=by
  have h0:(qA S n m).hv.length=m.leaves.length:=by unfold qA bQ;simp
  unfold fU
  split
  .exact h0
  .split
   .exact h0
   .simp only
    rw[NK.1];exact h0
 rw[Er]at h
 split at h
 .cases h
 .split at h
  .cases h
  .unfold KS at h
   split at h
   .split at h
    .cases h
    .have h:some (fU S (qA S n m)).2.1=some s:=h
     injection h with h
     rw[<-h]
     exact⟨hb.2.1,hb.1,hbh⟩
   .split at h
    .cases h
    .split at h
     .cases h
     .have h:some ({(fU S (qA S n m)).2.1 with hv:=nH (fU S (qA S n m)).2.2.2 (bQ aX (fU S (qA S n m)).2.1.man (cC (fU S (qA S n m)).1 (fU S (qA S n m)).2.1).2.1) (fU S (qA S n m)).2.1.man.leaves.length}:eT)=some s:=h
      injection h with h
      rw[<-h]
      refine⟨hb.2.1,hb.1, ?_⟩
      show(nH _ _ _).length=_
      rw[Gg,hb.1]
      rfl
def OpP(w0:aL0)(N:Nat->Prop)(w:aL0)(S':cG)(m:Gh)(lv0:aL1)(p:Nat)(sp:aL1)(cs:List aL1)(so so':Option eT)(a:Option Addr):Prop:=match so' with
 |some s=>∃q,a=some ⟨q,0,none⟩/\KH w0 N w q p S' s
 |none=>a=none/\Wc w0 N w S' m lv0 p sp cs so
theorem aDV{w0 w:aL0}{N:Nat->Prop}{S S':cG}{so so':Option eT}{e:Int}{m:Gh}{lv0:aL1}{p:Nat}{sp:aL1}{cs:List aL1}(h:Wc w0 N w S m lv0 p sp cs so)(hg:nQ w0)(hB:GN 3 S)(hm:CM m)(hlv:Cl w 32 lv0 m.leaves.length (V6 m.leaves))(hlz:¬fK lv0 (λy=>w0.heap.size<=y))(hs:bN S.seen<=800000)(hO:sY aX aY S sF m=(S',so',e)):
 aG pg tZ #[dP p,.string sF,.agg (xV m lv0).toArray] w (λr w'=>∃a,r= .tuple #[.pointer a,.int .i64 e]/\OpP w0 N w' S' m lv0 p sp cs so so' a/\aL w w' (V5 w0 N)):=by
 have hf:∀{n:ByteArray},∀b,bF n S.seen=some b->b.length<=1000000:=λ{n} b hb=>by
  have h1:=sS (k:=n) (c:=S.seen)
  rw[hb]at h1
  have h1:b.length<=bN S.seen:=h1
  omega
 have hsF:1<=sF.size/\sF.size<=27:=by decide
 cases so with
 |none=>
  refine(anI h.2.2 hg hB hm hlv hsF (by omega) hO).mono ?_
  rintro r w' hr
  unfold aF8 at hr
  obtain⟨hr,x⟩:=hr
  cases so' with
  |none=>exact⟨none,hr.1,⟨rfl,h.1,h.2.1,hr.2⟩,x⟩
  |some s=>
   obtain⟨q,h1,rfl,h2⟩:=hr
   exact⟨_,h1,⟨q,rfl,h2⟩,x⟩
 |some s0=>
  obtain⟨q0,hv0,hsp,hcs,hR,hz,hS,hx⟩:=h
  obtain⟨X,D,Y,lv,hv,hst,x0,hN⟩:=hS
  have hX:∀b,X b->w0.heap.size<=b/\¬N b:=λb hb=>⟨hst.lo b (.inl hb),λhn=>(hN b hn).2 (.inl hb)⟩
  refine(aDL (n0:=w0.heap.size) hst.dsk (hg.ext x0) hg.lt (λb hb=>(hX b hb).1) x0.size hB hm hlv hsF hf hf hf).mono ?_
  rw[hO]
  intro r w' hr
  unfold arY at hr
  have z:=x0.size
  cases so' with
  |none=>
   obtain⟨h1,hp⟩:=hr
   obtain⟨h2,x⟩:=KH.disk hst x0 hN hp
   exact⟨none,h1,⟨rfl,q0,hv0,hsp,hcs,⟨hR.man,dS hR.lv x λhi=>hlz (bO hi λb hb=>hb.1),hR.hv.ext x hz,hR.ep,hR.lg,hR.hl,hR.nl⟩,hz,h2,hx⟩,x⟩
  |some s=>
   obtain⟨h0,q,X',D',Y',lv',hv',h1,h2,h3,h4,h5,h6⟩:=hr
   refine⟨_,by rw[h1];exact congrArg (λe=>Value.tuple #[dP q,.int .i64 e]) h0.symm,⟨q,rfl,X',D',Y',lv',hv',h2,x0.trans h6 λy hy hm=>by have:=(hX y hm).1;omega,λb hb=>⟨h4 b (hN b hb).1,λhx'=> ?_⟩⟩,h6.mono λb _ hb=>hX b hb⟩
   have hlt:=fS.lt hst.dsk b (hN b hb).1
   rcases hx' with hx'|hx'
   .rcases h3 b hx' with h|h
    .exact (hX b h).2 hb
    .omega
   .have:=h5 b hx';omega
def alV:aL1->Bool| .int .u8 _=>true|_=>false
theorem KH.keep {w0:aL0}{N:Nat->Prop}{w w':aL0}{q p b:Nat}{S:cG}{s:eT}{l:List aL1}(h:KH w0 N w q p S s)(o:bD w b l)(hu:∀c∈l,alV c=false)(hb:N b)(hb0:w0.heap.size<=b)(x:aL w w' (λy=>y=b)):KH w0 N w' q p S s:=by
 obtain⟨X,D,Y,lv,hv,h,x0,hN⟩:=h
 refine⟨X,D,Y,lv,hv,h.ext x (λy hy=> ?_) (λhi=> ?_),x0.trans x λy hy hm=>by omega,hN⟩
 .subst hy
  exact⟨(hN _ hb).1,λhx=>(hN _ hb).2 (.inl hx),λhx=>(hN _ hb).2 (.inr hx),hb0⟩
 .obtain ⟨a,c,hlv,hl,hh⟩:=h.lv.1
  subst hlv
  unfold fK at hi
  split at hi
  .rename_i e
   simp only[Value.slice.injEq]at e
   obtain⟨rfl,e2,rfl⟩:=e
   obtain⟨b',off,he,h2⟩:=hh (by omega)
   cases he
   have hi:b'=b:=hi
   subst hi
   have h3:=h2 0 (by rw[hl];omega)
   rw[o.cell]at h3
   have h4:(V6 s.man.leaves)[0]?=(((s.man.leaves.getD 0 []).map gT))[0]?:=aqH (i:=0) (j:=0) h.man.len (by omega) (by omega)
   rw[h4,aJ4]at h3
   have hm0:(s.man.leaves.getD 0 []).length=32:=h.man.len _ (by rw[aJL,aJE (by omega)];exact aKp _)
   rw[aJE (show 0<(s.man.leaves.getD 0 []).length by omega)]at h3
   have:=hu _ (aKR h3)
   cases this
  .exact hi
theorem D8.keep {w0:aL0}{N:Nat->Prop}{w w':aL0}{p b:Nat}{S:cG}(h:D8 w0 N w p S)(hb:N b)(hb0:w0.heap.size<=b)(x:aL w w' (λy=>y=b)):D8 w0 N w' p S:=by
 obtain⟨X,D,h,hX,x0,hN⟩:=h
 exact⟨X,D,h.ext x λy hy=>hy▸⟨hN _ hb,λhx=>(hX _ hx).2 hb⟩,hX,x0.trans x λy hy hm=>by omega,hN⟩
theorem Wc.keep {w0 w w':aL0}{N:Nat->Prop}{S:cG}{m:Gh}{lv0 sp:aL1}{p b:Nat}{cs l:List aL1}{so:Option eT}(h:Wc w0 N w S m lv0 p sp cs so)(o:bD w b l)(hu:∀c∈l,alV c=false)(hb:N b)(hb0:w0.heap.size<=b)(x:aL w w' (λy=>y=b))(hlz:¬fK lv0 (λy=>w0.heap.size<=y))(hcs:∀c∈cs,¬fK c (λy=>y=b)):Wc w0 N w' S m lv0 p sp cs so:=by
 cases so with
 |none=>exact⟨h.1,h.2.1,h.2.2.keep hb hb0 x⟩
 |some s=>
  obtain⟨q,hv,h1,h2,h3,h4,h5,h6⟩:=h
  have hhv:¬fK hv (λy=>y=b):=hcs hv (by rw[h2];simp)
  exact⟨q,hv,h1,h2,⟨h3.man,dS h3.lv x λhi=>hlz (bO hi λy hy=>by omega),h3.hv.ext x hhv,h3.ep,h3.lg,h3.hl,h3.nl⟩,h4,KH.keep h5 o hu hb hb0 x,h6⟩
theorem aAB:∀{A B:List aL1},(∀c∈A,Cn c=false)->YO B=true->YO (A++B)=true
 |[],B,_,h=>h
 |[a],[],_,h=>rfl
 |[a],b::r,hA,h=>by
  show YO (a::b::r)=true
  rw[YO,hA a (by simp),aKH,aKC,aKM];exact h
 |a::a'::A,B,hA,h=>by
  show YO (a::a'::(A++B))=true
  rw[YO,hA a (by simp),aKH,aKC,aKM]
  exact aAB (A:=a'::A) (λc hc=>hA c (by simp[hc])) h
theorem Wc.u8 {w0 w:aL0}{N:Nat->Prop}{S:cG}{m:Gh}{lv0 sp:aL1}{p:Nat}{cs:List aL1}{so:Option eT}(h:Wc w0 N w S m lv0 p sp cs so):∀c∈cs,alV c=false:=by
 cases so with
 |none=>
  obtain⟨_,rfl,_⟩:=h
  intro x hx;simp only[aJK,aJN,or_false]at hx;rcases hx with rfl|rfl|rfl|rfl|rfl|rfl|rfl|rfl|rfl<;>rfl
 |some s=>
  obtain⟨q,hv,_,rfl,h3,_⟩:=h
  obtain⟨a,c,hl,_⟩:=h3.lv
  obtain⟨a',c',hh,_⟩:=h3.hv.len
  subst hl;subst hh
  intro x hx;simp only[aJK,aJN,or_false]at hx;rcases hx with rfl|rfl|rfl|rfl|rfl|rfl|rfl|rfl|rfl<;>rfl
theorem uA.u8 {Z:Nat->Prop}{n:Nat}{w:aL0}{S:cG}{cd:List aL1}(h:uA Z n w S (.agg cd.toArray)):∀c∈cd,alV c=false:=by
 obtain⟨D,sv,wv,hcd,h2,h3⟩:=h
 have hcd:cd=AM D sv wv:=by
  injection hcd with e
  have:=congrArg Array.toList e
  simpa using this
 obtain⟨sa,sc,hsv⟩:=h2.sure.len
 obtain⟨wa,wc,hwv,_⟩:=h2.way
 subst hsv;subst hwv;subst hcd
 intro x hx;simp only[aJK,aJN,or_false]at hx;rcases hx with rfl|rfl|rfl|rfl|rfl<;>rfl
theorem dC{p:Nat}{sp:aL1}{cd cs:List aL1}(h5:cd.length=5)(h9:cs.length=9):(pV p sp cd cs).length=16:=by
 simp only[aJX,aJF];omega
theorem Xf{p:Nat}{sp:aL1}{cd cd' cs:List aL1}(h5:cd.length=5)(h5':cd'.length=5):eI (pV p sp cd cs) 2 cd'=pV p sp cd' cs:=by
 match cd,h5,cd',h5' with
 |[a,b,c,d,e],_,[a',b',c',d',e'],_=>rfl
theorem aqK{p:Nat}{sp:aL1}{cd cs cs':List aL1}(h5:cd.length=5)(h9:cs.length=9)(h9':cs'.length=9):eI (pV p sp cd cs) 7 cs'=pV p sp cd cs':=by
 match cd,h5,cs,h9,cs',h9' with
 |[a,b,c,d,e],_,[a1,a2,a3,a4,a5,a6,a7,a8,a9],_,[b1,b2,b3,b4,b5,b6,b7,b8,b9],_=>rfl
theorem aiD{p:Nat}{sp:aL1}{cd cs:List aL1}(h5:cd.length=5):((pV p sp cd cs).drop 2).take 5=cd:=by
 show(cd++cs).take 5=cd
 rw[<-h5,List.take_left]
theorem aDS{p:Nat}{sp:aL1}{cd cs:List aL1}(h5:cd.length=5)(h9:cs.length=9):((pV p sp cd cs).drop 7).take 9=cs:=by
 match cd,h5 with
 |[a,b,c,d,e],_=>
  show cs.take 9=cs
  rw[<-h9,List.take_length]
theorem IX{p:Nat}{a:Option Addr}{cd cs:List aL1}(h5:∀c∈cd,Cn c=false)(h9:YO cs=true):YO (pV p (.pointer a) cd cs)=true:=by
 have:=aAB (A:=dP p:: .pointer a::cd) (B:=cs) (λc hc=>by
  rcases aJK.1 hc with rfl|hc
  .rfl
  .rcases aJK.1 hc with rfl|hc
   .rfl
   .exact h5 c hc) h9
 exact this
theorem RT{p:Nat}{a:Option Addr}{cd cs:List aL1}(h5:∀c∈cd,alV c=false)(h9:∀c∈cs,alV c=false):∀c∈pV p (.pointer a) cd cs,alV c=false:=by
 intro c hc
 rcases aJK.1 hc with rfl|hc
 .rfl
 .rcases aJK.1 hc with rfl|hc
  .rfl
  .rcases aKg.1 hc with hc|hc
   .exact h5 c hc
   .exact h9 c hc
theorem aBQ{S:cG}{n:ByteArray}{m:Gh}{s:eT}:(sY aX aY S n m).2.1=some s->(sY aX aY S n m).2.2=0:=by
 rw[Er]
 split
 .intro h;cases h
 .split
  .intro h;cases h
  .unfold KS
   split
   .split
    .intro h;cases h
    .intro _;rfl
   .split
    .intro h;cases h
    .split
     .intro h;cases h
     .intro _;rfl
def SvR(w:aL0)(base:Nat)(lv sv':aL1):Option eT->Prop
 |some s=>∃hv,sv'= .agg (yU s lv hv).toArray/\Uk w s lv hv/\mP w base 1 hv s.hv.length (s.hv.map Value.bool)
 |none=>sv'= .agg Z9.toArray
theorem SvR.cs {w:aL0}{base:Nat}{lv sv':aL1}{so:Option eT}(h:SvR w base lv sv' so):∃cs:List aL1,sv'= .agg cs.toArray/\cs.length=9/\(∀x∈cs,one x=true)/\YO cs=true:=by
 cases so with
 |none=>
  exact⟨Z9,h,rfl,by intro x hx;simp only[aJK,aJN,or_false]at hx;rcases hx with rfl|rfl|rfl|rfl|rfl|rfl|rfl|rfl|rfl<;>rfl,rfl⟩
 |some s=>
  obtain⟨hv,rfl,h3,_⟩:=h
  exact⟨_,rfl,rfl,lY h3 _,pS _ _ _⟩
theorem SvR.ext {w w':aL0}{base b1:Nat}{lv sv':aL1}{so:Option eT}{M:Nat->Prop}(h:SvR w base lv sv' so)(x:aL w w' M)(hlz:¬fK lv M)(hM:∀b,base<=b->b<w.heap.size->¬M b)(hb:b1<=base):SvR w' b1 lv sv' so:=by
 cases so with
 |none=>exact h
 |some s=>
  obtain⟨hv,h1,h3,h4⟩:=h
  have hhv:¬fK hv M:=by
   intro hi
   rcases h4.2 with⟨rfl,_⟩|⟨b,c,rest,rfl,hbb,ho,_⟩
   .exact hi
   .obtain ⟨b',hb',hi⟩:=Zh hi
    unfold fK at hi
    split at hi
    .rename_i e
     simp only[Value.slice.injEq,aKc]at e
     obtain⟨rfl,_⟩:=e
     have hi:b=b':=hi
     subst hi
     exact hM b hbb ho.lt hb'
    .exact hi
  refine⟨hv,h1,⟨h3.man,dS h3.lv x hlz,h3.hv.ext x hhv,h3.ep,h3.lg,h3.hl,h3.nl⟩, ?_⟩
  refine⟨h4.1, ?_⟩
  rcases h4.2 with h5|⟨b,c,rest,h5,hbb,ho,h6⟩
  .exact .inl h5
  .exact .inr ⟨b,c,rest,h5,by omega,ho.ext x (hM b hbb ho.lt),h6⟩
theorem PM.wr {w0 w w':aL0}{N:Nat->Prop}{n:Nat}{S:cG}{so:Option eT}{m:Gh}{lv0:aL1}{p b:Nat}{sp:aL1}{cd cs l:List aL1}(h:PM w0 N w n S so m lv0 p sp cd cs)(o:bD w b l)(hn:YO l=true)(hu:∀c∈l,alV c=false)(hb:N b)(hb0:w0.heap.size<=b)(x:aL w w' (λy=>y=b))(hs:w'.heap.size=w.heap.size)(hlz:¬fK lv0 (λy=>w0.heap.size<=y))(hcs:∀c∈cs,¬fK c (λy=>y=b)):PM w0 N w' n S so m lv0 p sp cd cs:=by
 refine⟨?_,h.st.keep o hu hb hb0 x hlz hcs⟩
 have e:zOf w0 w' N=zOf w0 w N:=by unfold zOf;rw[hs]
 rw[e]
 exact h.md.keep x λy hy=> .inl ⟨l,hy▸o,hn⟩
theorem aG2 {w0 v0 vE:aL0}{N:Nat->Prop}{n:Nat}{S':cG}{so so':Option eT}{m:Gh}{lv0:aL1}{p:Nat}{sp:aL1}{cs cd' cs9:List aL1}{a:Option Addr}(hP:OpP w0 N v0 S' m lv0 p sp cs so so' a)(x:aL v0 vE aT)(hd:uA (zOf w0 v0 N) n vE S' (.agg cd'.toArray))(hS:SvR vE v0.heap.size lv0 (.agg cs9.toArray) so')(hl:∀s,so'=some s->s.nm=sF/\s.man=m/\s.hv.length=m.leaves.length):
 ∃so'' sp'' cs'',(so'=none->so''=so/\sp''=sp/\cs''=cs)/\(∀s,so'=some s->so''=some s/\sp''= .pointer a/\cs''=cs9)/\PM w0 (NR N v0 vE) vE n S' so'' m lv0 p sp'' cd' cs'':=by
 have hmd:=uA.model hd x.size
 cases so' with
 |none=>
  refine⟨so,sp,cs,λ_=>⟨rfl,rfl,rfl⟩,(λs h=>nomatch h),hmd, ?_⟩
  have hs:=hP.2
  cases so with
  |none=>exact⟨hs.1,hs.2.1,hs.2.2.addR x⟩
  |some s=>
   obtain⟨q,hv,h1,h2,h3,h4,h5,h6⟩:=hs
   exact⟨q,hv,h1,h2,h3.new x,λhi=>h4 (bO hi λb hb=>aqF hb),h5.addR x,h6⟩
 |some s=>
  obtain⟨q,rfl,hSes⟩:=hP
  obtain⟨hv,h1,h3,h4⟩:=hS
  have h1:cs9=yU s lv0 hv:=by
   injection h1 with e
   have:=congrArg Array.toList e
   simpa using this
  refine⟨some s,dP q,cs9,λh=>(by cases h),(λs' h=>by cases h;exact⟨rfl,rfl,rfl⟩),hmd,q,hv,rfl,h1,h3, ?_,hSes.addR x,hl s rfl⟩
  intro hi
  rcases h4.2 with⟨rfl,_⟩|⟨b,c,rest,rfl,hbb,ho,_⟩
  .exact hi
  .obtain ⟨b',hb',hi⟩:=Zh hi
   unfold fK at hi
   split at hi
   .rename_i e
    simp only[Value.slice.injEq,aKc]at e
    obtain⟨rfl,_⟩:=e
    have hi:b=b':=hi
    subst hi
    exact hb'.2 (.inr ⟨hbb,ho.lt⟩)
   .exact hi
theorem Le{p:Nat}{a:Option Addr}{cd cs:List aL1}(h5:∀x∈cd,one x=true)(h9:∀x∈cs,one x=true):∀x∈pV p (.pointer a) cd cs,one x=true:=by
 intro c hc
 rcases aJK.1 hc with rfl|hc
 .rfl
 .rcases aJK.1 hc with rfl|hc
  .rfl
  .rcases aKg.1 hc with hc|hc
   .exact h5 c hc
   .exact h9 c hc
abbrev Z16:List aL1:=[.pointer none,.pointer none,.int .i64 0,.slice none 0 0,.slice none 0 0,.int .i64 0,.bool false,.string ⟨#[]⟩,.int .u64 0,.int .u32 0,.slice none 0 0,.int .u64 0,.slice none 0 0,.int .i64 0,.bool false,.int .i64 0]
theorem pF{w:aL0}{b:Nat}{cs:List aL1}(o:bD w b cs)(h:cs.length=16):(aB 49 (.pointer (some ⟨b,0,none⟩))).run pg w= .ok (.value (.agg cs.toArray)) w:=by
 have:=PY (off:=0) o (by omega)
 rwa [aJY,aJH (by omega)]at this
theorem rL{w:aL0}{b:Nat}{cs xs:List aL1}{K:aL1->aL0->Prop}(o:bD w b cs)(h:cs.length=16)(hx:xs.length=16)(v:∀x∈xs,one x=true)(hk:∀w',bD w' b xs->aL w w' (λx=>x=b)->w'.heap.size=w.heap.size->K undef w'):aA pg (aF 49 (.pointer (some ⟨b,0,none⟩)) (.agg xs.toArray)) w K:=by
 refine Qn o (by simpa using hx) (by simpa using v) (by omega) λw' o' x' s'=> ?_
 rw[aJZ,uZ _ _ (by omega)]at o'
 exact hk w' o' x' s'
structure C5 (cd:List aL1):Prop where
 l:cd.length=5
 o:∀x∈cd,one x=true
 s:∀x∈cd,Cn x=false
 u:∀x∈cd,alV x=false
structure C9 (cs:List aL1):Prop where
 l:cs.length=9
 o:∀x∈cs,one x=true
 s:YO cs=true
 u:∀x∈cs,alV x=false
theorem uA.c5 {Z:Nat->Prop}{n:Nat}{w:aL0}{S:cG}{cd:List aL1}(h:uA Z n w S (.agg cd.toArray)):C5 cd:=by
 obtain⟨cs,he,h5,_,h1,hn⟩:=h.cs
 have he:cs=cd:=by
  injection he with e
  have:=congrArg Array.toList e
  simpa using this.symm
 subst he
 exact⟨h5,h1,hn,h.u8⟩
theorem Wc.c9 {w0 w:aL0}{N:Nat->Prop}{S:cG}{m:Gh}{lv0 sp:aL1}{p:Nat}{cs:List aL1}{so:Option eT}(h:Wc w0 N w S m lv0 p sp cs so):C9 cs/\∃a,sp= .pointer a:=⟨⟨h.h9.1,h.h9.2.1,h.h9.2.2.1,h.u8⟩,h.h9.2.2.2⟩
section
variable{w0 vE:aL0}{N:Nat->Prop}{n p pb tb:Nat}{S':cG}{so:Option eT}{m:Gh}{lv0 sp:aL1}{cd cs cd0 cs0:List aL1}{RR:aL1->aL0->Prop}{a0:Option Addr}
theorem auJ(h:PM w0 N vE n S' so m lv0 p sp cd cs)(op:bD vE pb (pV p sp cd cs))(ot:bD vE tb Z16)(ht:N tb/\w0.heap.size<=tb)(hlz:¬fK lv0 (λy=>w0.heap.size<=y))(hcs:∀c∈cs,¬fK c (λy=>y=tb))
 (hK:∀wF,PM w0 N wF n S' so m lv0 p sp cd cs->aL vE wF (λy=>y=tb)->RR (.tuple #[.agg (pV p sp cd cs).toArray,.bool true]) wF):
 Bu RR (.pointer (some ⟨pb,0,none⟩)) (.pointer (some ⟨tb,0,none⟩)) vE:=by
 obtain⟨c9,a,rfl⟩:=h.st.c9
 have c5:=h.md.c5
 have l16:=pF op (dC c5.l c9.l)
 unfold Bu
 simp(disch:=omega)only[SV,l16,dP]
 refine rL ot rfl (dC c5.l c9.l) (Le c5.o c9.o) λw1 o1 x1 s1=> ?_
 refine eU o1 (by rw[dC c5.l c9.l];omega) ?_
 rw[aJY,aJH (by rw[dC c5.l c9.l];omega)]
 exact hK w1 (h.wr ot rfl (by intro x hx;simp only[aJK,aJN,or_false]at hx;rcases hx with rfl|rfl|rfl|rfl|rfl|rfl|rfl|rfl|rfl|rfl|rfl|rfl|rfl|rfl|rfl|rfl<;>rfl) ht.1 ht.2 x1 s1 hlz hcs) x1
theorem aFA{e:Int}{a:Option Addr}{w8 t9:Nat}{cs9:List aL1}(h:PM w0 N vE n S' so m lv0 p sp cd cs)(op:bD vE pb (pV p (.pointer a0) cd0 cs0))(k5:C5 cd0)(k9:C9 cs0)(ot:bD vE tb Z16)(o8:bD vE w8 cd)(o9:bD vE t9 cs9)(k9':C9 cs9)
 (hne:pb≠tb/\w8≠pb/\t9≠pb) (hp:N pb/\w0.heap.size<=pb) (ht:N tb/\w0.heap.size<=tb) (hlz:¬fK lv0 (λy=>w0.heap.size<=y)) (hcs:∀c∈cs,¬fK c (λy=>y=pb)/\¬fK c (λy=>y=tb))
 (hca:(a=none/\e≠0/\sp= .pointer a0/\cs=cs0)∨(a.isSome=true/\e=0/\sp= .pointer a/\cs=cs9))
 (hK:∀wF,PM w0 N wF n S' so m lv0 p sp cd cs->aL vE wF (λy=>y=pb∨y=tb)->RR (.tuple #[.agg (pV p sp cd cs).toArray,.bool true]) wF):
 vN RR (.pointer (some ⟨pb,0,none⟩)) (.pointer (some ⟨tb,0,none⟩)) (.pointer a) (.int .i64 e) (.pointer (some ⟨w8,0,none⟩)) (.pointer (some ⟨t9,0,none⟩)) (.int .i64 e) vE:=by
 have c5:=h.md.c5
 have l8:=cF o8 c5.l
 unfold vN OZ
 simp(disch:=omega)only[SV,l8]
 have hpl:=dC (p:=p) (sp:= .pointer a0) k5.l k9.l
 refine dJ op (by simpa using c5.l) (by simpa using c5.o) (by omega) λw1 o1 x1 s1=> ?_
 rw[aJZ,Xf k5.l c5.l]at o1
 have h1:=h.wr op (IX k5.s k9.s) (RT k5.u k9.u) hp.1 hp.2 x1 s1 hlz (λc hc=>(hcs c hc).1)
 have ot1:=ot.ext x1 (λh=>hne.1 h.symm)
 have k1:(e !=e)=false:=by simp
 rcases hca with⟨rfl,he,rfl,rfl⟩|⟨ha,rfl,rfl,rfl⟩
 .have k2:(e !=0)=true:=bne_iff_ne.2 he
  have k3:(e==0)=false:=beq_eq_false_iff_ne.2 he
  have k4:(true==true)=true:=rfl
  simp(disch:=omega)only[SV,k1,k2,k3,k4]
  exact auJ h1 o1 ot1 ht hlz (λc hc=>(hcs c hc).2) λwF hF xF=>hK wF hF ((x1.mono λ_ _ h=> .inl h).seq (xF.mono λ_ _ h=> .inr h))
 .have k2:((0:Int) !=0)=false:=rfl
  have k3:((0:Int)==0)=true:=rfl
  have k4:(false==false)=true:=rfl
  obtain⟨a',rfl⟩:=Option.isSome_iff_exists.1 ha
  simp(disch:=omega)only[SV,k1,k2,k3,k4]
  refine aaA o1 rfl (by rw[dC c5.l k9.l];omega) λw2 o2 x2 s2=> ?_
  have o2:bD w2 pb (pV p (.pointer (some a')) cd cs0):=o2
  have h2:=h1.wr o1 (IX c5.s k9.s) (RT c5.u k9.u) hp.1 hp.2 x2 s2 hlz (λc hc=>(hcs c hc).1)
  have l9:=eS ((o9.ext x1 hne.2.2).ext x2 hne.2.2) k9'.l
  simp(disch:=omega)only[SV,l9]
  refine pU (off:=7) o2 (by simpa using k9'.l) (by simpa using k9'.o) (by rw[dC c5.l k9.l];omega) λw3 o3 x3 s3=> ?_
  rw[aJZ,aqK c5.l k9.l k9'.l]at o3
  have h3:=h2.wr o2 (IX c5.s k9.s) (RT c5.u k9.u) hp.1 hp.2 x3 s3 hlz (λc hc=>(hcs c hc).1)
  have ot3:=(ot1.ext x2 (λh=>hne.1 h.symm)).ext x3 (λh=>hne.1 h.symm)
  exact auJ h3 o3 ot3 ht hlz (λc hc=>(hcs c hc).2) λwF hF xF=>hK wF hF ((((x1.mono λ_ _ h=> .inl h).seq (x2.mono λ_ _ h=> .inl h)).seq (x3.mono λ_ _ h=> .inl h)).seq (xF.mono λ_ _ h=> .inr h))
end
end Go.Proofs.YteelnmpbnaohpaaGreatDoor
namespace Go.Proofs.YteelnmpbnaohpaaGreatDoor
open Go Go.En Go.Pu
set_option maxRecDepth 4000
set_option maxHeartbeats 4000000
def CsN(w:aL0)(lv0:aL1)(cs cs':List aL1):Prop:=∀c∈cs',c∈cs∨c=lv0∨∀M:Nat->Prop,(∀b,M b->b<w.heap.size)->¬fK c M
theorem CsN.of {w:aL0}{lv0:aL1}{cs cs':List aL1}{M:Nat->Prop}(h:CsN w lv0 cs cs')(hM:∀b,M b->b<w.heap.size)(hl:¬fK lv0 M)(hc:∀c∈cs,¬fK c M):∀c∈cs',¬fK c M:=λc hc'=>by
 rcases h c hc' with h|rfl|h
 .exact hc c h
 .exact hl
 .exact h M hM
theorem SvR.new {w v:aL0}{base:Nat}{lv sv':aL1}{so:Option eT}{cs9:List aL1}(h:SvR v base lv (.agg cs9.toArray) so)(hb:w.heap.size<=base):CsN w lv [] cs9:=by
 intro c hc
 cases so with
 |none=>
  have h:cs9=Z9:=by
   have h:Value.agg cs9.toArray= .agg Z9.toArray:=h
   injection h with e
   have:=congrArg Array.toList e
   simpa using this
  subst h
  simp only[aJK,aJN,or_false]at hc
  refine .inr (.inr λM _ hi=> ?_)
  rcases hc with rfl|rfl|rfl|rfl|rfl|rfl|rfl|rfl|rfl<;>exact hi
 |some s=>
  obtain⟨hv,h1,h3,h4⟩:=h
  have h1:cs9=yU s lv hv:=by
   injection h1 with e
   have:=congrArg Array.toList e
   simpa using this
  subst h1
  simp only[aJK,aJN,or_false]at hc
  rcases hc with rfl|rfl|rfl|rfl|rfl|rfl|rfl|rfl|rfl
  .exact .inr (.inr λM _ hi=>hi)
  .exact .inr (.inr λM _ hi=>hi)
  .exact .inr (.inr λM _ hi=>hi)
  .exact .inr (.inl rfl)
  .exact .inr (.inr λM _ hi=>hi)
  .exact .inr (.inr λM hM hi=>Zy h4 (λb hb'=>by have:=hM b hb';omega) hi)
  .exact .inr (.inr λM _ hi=>hi)
  .exact .inr (.inr λM _ hi=>hi)
  .exact .inr (.inr λM _ hi=>hi)
theorem auL{w0 w:aL0}{N:Nat->Prop}{n p:Nat}{S S':cG}{so so':Option eT}{e:Int}{m:Gh}{lv0 sp:aL1}{cd cs:List aL1}(h:PM w0 N w (n+3) S so m lv0 p sp cd cs)(hg:nQ w0)(x0:aL w0 w aT)(hm:CM m)(hlv:Cl w 32 lv0 m.leaves.length (V6 m.leaves))(hlz:¬fK lv0 (λy=>w0.heap.size<=y))(hs:bN S.seen<=800000)(hO:sY aX aY S sF m=(S',so',e))(hcs:∀c∈cs,¬fK c (λy=>w.heap.size<=y)):
 aG pg dF #[.agg (pV p sp cd cs).toArray,.agg (xV m lv0).toArray] w (λr w'=>∃N' so'' sp'' cd' cs'',r= .tuple #[.agg (pV p sp'' cd' cs'').toArray,.bool true]/\PM w0 N' w' n S' so'' m lv0 p sp'' cd' cs''/\(so'=none->so''=so)/\(∀s,so'=some s->so''=some s)/\(∀b,N b->N' b)/\CsN w lv0 cs cs''/\aL w w' (V5 w0 N)):=by
 refine WK ?_
 obtain⟨RR,hRR⟩:∃RR:aL1->aL0->Prop,RR=λr w'=>∃N' so'' sp'' cd' cs'',r= .tuple #[.agg (pV p sp'' cd' cs'').toArray,.bool true]/\PM w0 N' w' n S' so'' m lv0 p sp'' cd' cs''/\(so'=none->so''=so)/\(∀s,so'=some s->so''=some s)/\(∀b,N b->N' b)/\CsN w lv0 cs cs''/\aL w w' (V5 w0 N):=⟨_,rfl⟩
 rw[<-hRR]
 have c5:=h.md.c5
 obtain⟨c9,a0,rfl⟩:=h.st.c9
 have hsF:1<=sF.size/\sF.size<=27:=by decide
 have hf:∀{k:ByteArray},∀b,bF k S.seen=some b->b.length<=800000:=λ{k} b hb=>by
  have h1:=sS (k:=k) (c:=S.seen)
  rw[hb]at h1
  have h1:b.length<=bN S.seen:=h1
  omega
 have hBk:GN 3 S:=by
  obtain⟨D,sv,wv,_,_,h3⟩:=h.md
  exact h3.bk.le (by omega)
 unfold WJ O1 O0
 refine cA λw1 o1 x1 s1=> ?_
 rw[Cf]at o1
 refine cA λw2 o2 x2 s2=> ?_
 rw[Cf]at o2
 refine yC λw3 o3 x3 s3=> ?_
 have o3:bD w3 w2.heap.size Z16:=o3
 obtain⟨pb,hpb⟩:∃pb,pb=w.heap.size:=⟨_,rfl⟩
 obtain⟨mb,hmb⟩:∃mb,mb=w1.heap.size:=⟨_,rfl⟩
 obtain⟨tb,htb⟩:∃tb,tb=w2.heap.size:=⟨_,rfl⟩
 rw[<-hpb]at o1⊢
 rw[<-hmb]at o2⊢
 rw[<-htb]at o3⊢
 have x03:aL w w3 aT:=(x1.seq x2).seq x3
 have op3:=o1.ext (x2.seq x3) (λh=>h)
 have om3:=o2.ext x3 (λh=>h)
 have h3:=h.newR x03
 have z0:=x0.size
 obtain⟨N1,hN1⟩:∃N1,N1=NR N w w3:=⟨_,rfl⟩
 rw[<-hN1]at h3
 have n1:∀b,w.heap.size<=b->b<w3.heap.size->N1 b:=λb h1 h2=>by rw[hN1];exact .inr ⟨h1,h2⟩
 have hp1:N1 pb:=n1 pb (by omega) (by omega)
 have hm1:N1 mb:=n1 mb (by omega) (by omega)
 have ht1:N1 tb:=n1 tb (by omega) (by omega)
 have cp:w3.cell? ⟨pb,0,none⟩=some (dP p):=op3.cell (off:=0)
 have lm3:(aB 30 (.pointer (some ⟨mb,0,none⟩))).run pg w3= .ok (.value (.agg (xV m lv0).toArray)) w3:=gA (off:=0) om3 (by simp)
 simp(disch:=omega)only[SV,cp,lm3]
 refine(aDV h3.st hg hBk hm (dS hlv x03 (bC _)) hlz hs hO).mono ?_
 rintro r w4 ⟨a,rfl,hP,x4⟩
 have z4:=x4.size
 have nkp:∀b,N1 b->¬V5 w0 N1 b:=λb hb hk=>hk.2 hb
 have op4:=op3.ext x4 (nkp _ hp1)
 have om4:=om3.ext x4 (nkp _ hm1)
 have ot4:=o3.ext x4 (nkp _ ht1)
 have hd4:=h3.md.prog x4
 have hlv4:Cl w4 32 lv0 m.leaves.length (V6 m.leaves):=dS (dS hlv x03 (bC _)) x4 λhi=>hlz (bO hi λb hb=>hb.1)
 have lp:∀W,aL w4 W aT->(aB 40 (.pointer (some ⟨pb,2,none⟩))).run pg W= .ok (.value (.agg cd.toArray)) W:=λW x=>by
  have:=bW (off:=2) (op4.ext x (λh=>h)) (by rw[dC c5.l c9.l];omega)
  rw[aiD c5.l]at this
  exact this
 have lm:∀W,aL w4 W aT->(aB 30 (.pointer (some ⟨mb,0,none⟩))).run pg W= .ok (.value (.agg (xV m lv0).toArray)) W:=λW x=>gA (off:=0) (om4.ext x (λh=>h)) (by simp)
 have lp0:=lp _ (aL.dr w4 aT)
 have lm0:=lm _ (aL.dr w4 aT)
 have fin:∀{vc vO vE:aL0} {w8 t9:Nat} {cd' cs9:List aL1},aL w4 vc aT->aL vc vO aT->uA (zOf w0 w4 N1) n vO S' (.agg cd'.toArray)->SvR vO vc.heap.size lv0 (.agg cs9.toArray) so'->aL vO vE (λy=>y=w8∨y=t9)->((∃l,bD vO w8 l/\YO l=true)/\w8<vc.heap.size∨vO.heap.size<=w8)->((∃l,bD vO t9 l/\YO l=true)/\t9<vc.heap.size∨vO.heap.size<=t9)->w4.heap.size<=w8->w4.heap.size<=t9->bD vE w8 cd'->bD vE t9 cs9→
     vN RR (.pointer (some ⟨pb,0,none⟩)) (.pointer (some ⟨tb,0,none⟩)) (.pointer a) (.int .i64 e) (.pointer (some ⟨w8,0,none⟩)) (.pointer (some ⟨t9,0,none⟩)) (.int .i64 e) vE:=by
  intro vc vO vE w8 t9 cd' cs9 xc xO hd hS xE l8 l9 g8 g9 o8 o9
  have zc:=xc.size
  have zO:=xO.size
  have xE4:aL w4 vE aT:=(xc.seq xO).trans xE λy hy h=>by omega
  have hdE:=hd.keep xE λb hb=>by
   rcases hb with rfl|rfl
   .exact l8.imp (λh=>h.1) id
   .exact l9.imp (λh=>h.1) id
  have hSE:SvR vE w4.heap.size lv0 (.agg cs9.toArray) so':=hS.ext xE (λhi=>hlz (bO hi λb hb=>by omega)) (λb h1 h2 h3=>by
   rcases h3 with rfl|rfl
   .rcases l8 with l8|l8<;>omega
   .rcases l9 with l9|l9<;>omega) zc
  have hlike:∀s,so'=some s->s.nm=sF/\s.man=m/\s.hv.length=m.leaves.length:=λs hs'=>aBO (S:=S) (by rw[hO];exact hs')
  obtain⟨so'',sp'',cs'',j1,j2,hPM⟩:=aG2 hP xE4 hdE hSE hlike
  obtain⟨cs9',hce,c9l,c9o,c9n⟩:=hSE.cs
  have hcsN3:CsN w3 lv0 cs cs'':=by
   cases so' with
   |none=>
    obtain⟨_,_,rfl⟩:=j1 rfl
    exactλc hc=> .inl hc
   |some s=>
    obtain⟨_,_,rfl⟩:=j2 s rfl
    intro c hc
    rcases SvR.new (w:=w3) (sv':= .agg cs''.toArray) hSE (by omega) c hc with h|h|h
    .cases h
    .exact .inr (.inl h)
    .exact .inr (.inr h)
  have hcsN:CsN w lv0 cs cs'':=λc hc=>by
   rcases hcsN3 c hc with h|h|h
   .exact .inl h
   .exact .inr (.inl h)
   .exact .inr (.inr λM hM=>h M λb hb=>by have:=hM b hb;omega)
  have k9':C9 cs9∨so'=none:=by
   cases so' with
   |none=>exact .inr rfl
   |some s=>
    obtain⟨_,_,hcc⟩:=j2 s rfl
    rw[<-hcc]
    exact .inl (Wc.c9 hPM.st).1
  have k9'':C9 cs9:=by
   rcases k9' with h|h
   .exact h
   .have h:cs9=Z9:=by
     rw[h]at hSE
     have h:Value.agg cs9.toArray= .agg Z9.toArray:=hSE
     injection h with e
     have:=congrArg Array.toList e
     simpa using this
    rw[h]
    exact⟨rfl,by intro x hx;simp only[aJK,aJN,or_false]at hx;rcases hx with rfl|rfl|rfl|rfl|rfl|rfl|rfl|rfl|rfl<;>rfl,rfl,by intro x hx;simp only[aJK,aJN,or_false]at hx;rcases hx with rfl|rfl|rfl|rfl|rfl|rfl|rfl|rfl|rfl<;>rfl⟩
  have hcsM:∀y,w.heap.size<=y->y<w3.heap.size->∀c∈cs'',¬fK c (λb=>b=y):=by
   intro y hy hy3 c hc
   rcases hcsN3 c hc with h|rfl|h
   .exact λhi=>hcs c h (bO hi λb hb=>by omega)
   .exact λhi=>hlz (bO hi λb hb=>by omega)
   .exact h _ λb hb=>by omega
  have hca:(a=none/\e≠0/\sp''= .pointer a0/\cs''=cs)∨(a.isSome=true/\e=0/\sp''= .pointer a/\cs''=cs9):=by
   cases so' with
   |none=>
    obtain⟨_,h2,h3⟩:=j1 rfl
    exact .inl ⟨hP.1,by have:=aFC (S:=S) (n:=sF) (m:=m);rw[hO]at this;exact this rfl,h2,h3⟩
   |some s=>
    obtain⟨_,h2,h3⟩:=j2 s rfl
    obtain⟨q,hq,_⟩:=hP
    exact .inr ⟨by rw[hq]<;>rfl,by have:=aBQ (S:=S) (n:=sF) (m:=m) (s:=s);rw[hO]at this;exact this rfl,h2,h3⟩
  have x3E:aL w3 vE (V5 w0 N1):=x4.seq (xE4.mono λ_ _ h=>h.elim)
  refine aFA hPM (op4.ext xE4 (λh=>h)) c5 c9 (ot4.ext xE4 (λh=>h)) o8 o9 k9'' (by omega) ⟨.inl hp1,by omega⟩ ⟨.inl ht1,by omega⟩ hlz (λc hc=>⟨hcsM pb (by omega) (by omega) c hc,hcsM tb (by omega) (by omega) c hc⟩) hca λwF hF xF=> ?_
  rw[hRR]
  have hN:∀b,N b->N1 b:=λb hb=>by rw[hN1];exact .inl hb
  refine⟨_,so'',sp'',cd',cs'',rfl,hF,λh=>(j1 h).1,λs h=>(j2 s h).1,λb hb=> .inl (hN b hb),hcsN, ?_⟩
  have y1:aL w w4 (V5 w0 N):=(x03.mono λ_ _ h=>h.elim).trans x4 λy hy hk=>⟨hk.1,λhn=>hk.2 (hN y hn)⟩
  exact(y1.seq (xE4.mono λ_ _ h=>h.elim)).trans xF λy hy hm=>by omega
 simp(disch:=omega)only[SV]
 repeat' (refine Qx ?_ ?_)
 .simp (disch:=omega)only[SV,lp0,lm0]
  refine(qF (dS hlv4 (aL.dr w4 aT) (bC _))).mono ?_
  rintro r u1 ⟨rfl,y1⟩
  have z1:=(aL.dr w4 aT).seq y1
  have tz1:=z1.size
  have qz1:=y1.size
  have lp1:=lp _ z1
  have lm1:=lm _ z1
  try simp(disch:=omega)only[SV,lp1,lm1]
  refine(vR (hd4.new z1) hm (dS hlv4 z1 (bC _)) hsF hf hf hf).mono ?_
  rw[hO]
  rintro r u2 ⟨dv',sv',rfl,hd',y2,hso⟩
  have hS:SvR u2 u1.heap.size lv0 sv' so':=by cases so'<;>exact hso
  obtain⟨ce,rfl,ce5,cec,ce1,cen⟩:=hd'.cs
  obtain⟨cs9,rfl,c9l,c9o,c9n⟩:=hS.cs
  have z2:=z1.seq y2
  have tz2:=z2.size
  have qz2:=y2.size
  have lp2:=lp _ z2
  have lm2:=lm _ z2
  try simp(disch:=omega)only[SV,lp2,lm2]
  refine aV λu3 oW y3 s3=> ?_
  have z3:=z2.seq y3
  have tz3:=z3.size
  have qz3:=y3.size
  have lp3:=lp _ z3
  have lm3:=lm _ z3
  try simp(disch:=omega)only[SV,lp3,lm3]
  refine bP λu4 oT y4 s4=> ?_
  have z4:=z3.seq y4
  have tz4:=z4.size
  have qz4:=y4.size
  have oW:=oW.ext y4 (λh=>h)
  have lp4:=lp _ z4
  have lm4:=lm _ z4
  try simp(disch:=omega)only[SV,lp4,lm4]
  have hne:u2.heap.size≠u3.heap.size:=by have:=oW.lt;have:=oT.lt;first|omega|(show w4.heap.size≠_;omega)|(show _≠w4.heap.size;omega)
  refine cR oW rfl ce5 ce1 λua oa xa sa=> ?_
  try simp(disch:=omega)only[SV]
  refine fL (oT.ext xa λh=>hne h.symm) rfl c9l c9o λub ob xb sb=> ?_
  try simp(disch:=omega)only[SV]
  exact fin (vc:=u1) (vO:=u2) z1 y2 hd' hS ((y3.mono λ_ _ h=>h.elim).seq ((y4.mono λ_ _ h=>h.elim).seq ((xa.mono λ_ _ h=> .inl h).seq (xb.mono λ_ _ h=> .inr h)))) (.inr (by first|omega|(show _<=w4.heap.size;omega))) (.inr (by first|omega|(show _<=w4.heap.size;omega))) tz2 tz3 (oa.ext xb hne) ob
 .simp (disch:=omega)only[SV,lp0,lm0]
  refine(qF (dS hlv4 (aL.dr w4 aT) (bC _))).mono ?_
  rintro r u1 ⟨rfl,y1⟩
  have z1:=(aL.dr w4 aT).seq y1
  have tz1:=z1.size
  have qz1:=y1.size
  have lp1:=lp _ z1
  have lm1:=lm _ z1
  try simp(disch:=omega)only[SV,lp1,lm1]
  refine(vR (hd4.new z1) hm (dS hlv4 z1 (bC _)) hsF hf hf hf).mono ?_
  rw[hO]
  rintro r u2 ⟨dv',sv',rfl,hd',y2,hso⟩
  have hS:SvR u2 u1.heap.size lv0 sv' so':=by cases so'<;>exact hso
  obtain⟨ce,rfl,ce5,cec,ce1,cen⟩:=hd'.cs
  obtain⟨cs9,rfl,c9l,c9o,c9n⟩:=hS.cs
  have z2:=z1.seq y2
  have tz2:=z2.size
  have qz2:=y2.size
  have lp2:=lp _ z2
  have lm2:=lm _ z2
  try simp(disch:=omega)only[SV,lp2,lm2]
  refine bP λu3 oT y3 s3=> ?_
  have z3:=z2.seq y3
  have tz3:=z3.size
  have qz3:=y3.size
  have lp3:=lp _ z3
  have lm3:=lm _ z3
  try simp(disch:=omega)only[SV,lp3,lm3]
  refine aV λu4 oW y4 s4=> ?_
  have z4:=z3.seq y4
  have tz4:=z4.size
  have qz4:=y4.size
  have oT:=oT.ext y4 (λh=>h)
  have lp4:=lp _ z4
  have lm4:=lm _ z4
  try simp(disch:=omega)only[SV,lp4,lm4]
  have hne:u3.heap.size≠u2.heap.size:=by have:=oW.lt;have:=oT.lt;first|omega|(show w4.heap.size≠_;omega)|(show _≠w4.heap.size;omega)
  refine cR oW rfl ce5 ce1 λua oa xa sa=> ?_
  try simp(disch:=omega)only[SV]
  refine fL (oT.ext xa λh=>hne h.symm) rfl c9l c9o λub ob xb sb=> ?_
  try simp(disch:=omega)only[SV]
  exact fin (vc:=u1) (vO:=u2) z1 y2 hd' hS ((y3.mono λ_ _ h=>h.elim).seq ((y4.mono λ_ _ h=>h.elim).seq ((xa.mono λ_ _ h=> .inl h).seq (xb.mono λ_ _ h=> .inr h)))) (.inr (by first|omega|(show _<=w4.heap.size;omega))) (.inr (by first|omega|(show _<=w4.heap.size;omega))) tz3 tz2 (oa.ext xb hne) ob
 .simp (disch:=omega)only[SV,lp0,lm0]
  refine(qF (dS hlv4 (aL.dr w4 aT) (bC _))).mono ?_
  rintro r u1 ⟨rfl,y1⟩
  have z1:=(aL.dr w4 aT).seq y1
  have tz1:=z1.size
  have qz1:=y1.size
  have lp1:=lp _ z1
  have lm1:=lm _ z1
  try simp(disch:=omega)only[SV,lp1,lm1]
  refine bP λu2 oT y2 s2=> ?_
  have z2:=z1.seq y2
  have tz2:=z2.size
  have qz2:=y2.size
  have lp2:=lp _ z2
  have lm2:=lm _ z2
  try simp(disch:=omega)only[SV,lp2,lm2]
  refine(vR (hd4.new z2) hm (dS hlv4 z2 (bC _)) hsF hf hf hf).mono ?_
  rw[hO]
  rintro r u3 ⟨dv',sv',rfl,hd',y3,hso⟩
  have hS:SvR u3 u2.heap.size lv0 sv' so':=by cases so'<;>exact hso
  obtain⟨ce,rfl,ce5,cec,ce1,cen⟩:=hd'.cs
  obtain⟨cs9,rfl,c9l,c9o,c9n⟩:=hS.cs
  have z3:=z2.seq y3
  have tz3:=z3.size
  have qz3:=y3.size
  have oT:=oT.ext y3 (λh=>h)
  have oTp:=oT
  have lp3:=lp _ z3
  have lm3:=lm _ z3
  try simp(disch:=omega)only[SV,lp3,lm3]
  refine aV λu4 oW y4 s4=> ?_
  have z4:=z3.seq y4
  have tz4:=z4.size
  have qz4:=y4.size
  have oT:=oT.ext y4 (λh=>h)
  have lp4:=lp _ z4
  have lm4:=lm _ z4
  try simp(disch:=omega)only[SV,lp4,lm4]
  have hne:u3.heap.size≠u1.heap.size:=by have:=oW.lt;have:=oT.lt;first|omega|(show w4.heap.size≠_;omega)|(show _≠w4.heap.size;omega)
  refine cR oW rfl ce5 ce1 λua oa xa sa=> ?_
  try simp(disch:=omega)only[SV]
  refine fL (oT.ext xa λh=>hne h.symm) rfl c9l c9o λub ob xb sb=> ?_
  try simp(disch:=omega)only[SV]
  exact fin (vc:=u2) (vO:=u3) z2 y3 hd' hS ((y4.mono λ_ _ h=>h.elim).seq ((xa.mono λ_ _ h=> .inl h).seq (xb.mono λ_ _ h=> .inr h))) (.inr (by first|omega|(show _<=w4.heap.size;omega))) (.inl ⟨⟨_,oTp,rfl⟩,by have:=oTp.lt;first|omega|(show w4.heap.size<_;omega)⟩) tz3 tz1 (oa.ext xb hne) ob
 .simp (disch:=omega)only[SV,lp0,lm0]
  refine(qF (dS hlv4 (aL.dr w4 aT) (bC _))).mono ?_
  rintro r u1 ⟨rfl,y1⟩
  have z1:=(aL.dr w4 aT).seq y1
  have tz1:=z1.size
  have qz1:=y1.size
  have lp1:=lp _ z1
  have lm1:=lm _ z1
  try simp(disch:=omega)only[SV,lp1,lm1]
  refine aV λu2 oW y2 s2=> ?_
  have z2:=z1.seq y2
  have tz2:=z2.size
  have qz2:=y2.size
  have lp2:=lp _ z2
  have lm2:=lm _ z2
  try simp(disch:=omega)only[SV,lp2,lm2]
  refine(vR (hd4.new z2) hm (dS hlv4 z2 (bC _)) hsF hf hf hf).mono ?_
  rw[hO]
  rintro r u3 ⟨dv',sv',rfl,hd',y3,hso⟩
  have hS:SvR u3 u2.heap.size lv0 sv' so':=by cases so'<;>exact hso
  obtain⟨ce,rfl,ce5,cec,ce1,cen⟩:=hd'.cs
  obtain⟨cs9,rfl,c9l,c9o,c9n⟩:=hS.cs
  have z3:=z2.seq y3
  have tz3:=z3.size
  have qz3:=y3.size
  have oW:=oW.ext y3 (λh=>h)
  have oWp:=oW
  have lp3:=lp _ z3
  have lm3:=lm _ z3
  try simp(disch:=omega)only[SV,lp3,lm3]
  refine bP λu4 oT y4 s4=> ?_
  have z4:=z3.seq y4
  have tz4:=z4.size
  have qz4:=y4.size
  have oW:=oW.ext y4 (λh=>h)
  have lp4:=lp _ z4
  have lm4:=lm _ z4
  try simp(disch:=omega)only[SV,lp4,lm4]
  have hne:u1.heap.size≠u3.heap.size:=by have:=oW.lt;have:=oT.lt;first|omega|(show w4.heap.size≠_;omega)|(show _≠w4.heap.size;omega)
  refine cR oW rfl ce5 ce1 λua oa xa sa=> ?_
  try simp(disch:=omega)only[SV]
  refine fL (oT.ext xa λh=>hne h.symm) rfl c9l c9o λub ob xb sb=> ?_
  try simp(disch:=omega)only[SV]
  exact fin (vc:=u2) (vO:=u3) z2 y3 hd' hS ((y4.mono λ_ _ h=>h.elim).seq ((xa.mono λ_ _ h=> .inl h).seq (xb.mono λ_ _ h=> .inr h))) (.inl ⟨⟨_,oWp,rfl⟩,by have:=oWp.lt;first|omega|(show w4.heap.size<_;omega)⟩) (.inr (by first|omega|(show _<=w4.heap.size;omega))) tz1 tz3 (oa.ext xb hne) ob
 .simp (disch:=omega)only[SV,lp0,lm0]
  refine(qF (dS hlv4 (aL.dr w4 aT) (bC _))).mono ?_
  rintro r u1 ⟨rfl,y1⟩
  have z1:=(aL.dr w4 aT).seq y1
  have tz1:=z1.size
  have qz1:=y1.size
  have lp1:=lp _ z1
  have lm1:=lm _ z1
  try simp(disch:=omega)only[SV,lp1,lm1]
  refine aV λu2 oW y2 s2=> ?_
  have z2:=z1.seq y2
  have tz2:=z2.size
  have qz2:=y2.size
  have lp2:=lp _ z2
  have lm2:=lm _ z2
  try simp(disch:=omega)only[SV,lp2,lm2]
  refine bP λu3 oT y3 s3=> ?_
  have z3:=z2.seq y3
  have tz3:=z3.size
  have qz3:=y3.size
  have oW:=oW.ext y3 (λh=>h)
  have lp3:=lp _ z3
  have lm3:=lm _ z3
  try simp(disch:=omega)only[SV,lp3,lm3]
  refine(vR (hd4.new z3) hm (dS hlv4 z3 (bC _)) hsF hf hf hf).mono ?_
  rw[hO]
  rintro r u4 ⟨dv',sv',rfl,hd',y4,hso⟩
  have hS:SvR u4 u3.heap.size lv0 sv' so':=by cases so'<;>exact hso
  obtain⟨ce,rfl,ce5,cec,ce1,cen⟩:=hd'.cs
  obtain⟨cs9,rfl,c9l,c9o,c9n⟩:=hS.cs
  have z4:=z3.seq y4
  have tz4:=z4.size
  have qz4:=y4.size
  have oW:=oW.ext y4 (λh=>h)
  have oT:=oT.ext y4 (λh=>h)
  have oWp:=oW
  have oTp:=oT
  have lp4:=lp _ z4
  have lm4:=lm _ z4
  try simp(disch:=omega)only[SV,lp4,lm4]
  have hne:u1.heap.size≠u2.heap.size:=by have:=oW.lt;have:=oT.lt;first|omega|(show w4.heap.size≠_;omega)|(show _≠w4.heap.size;omega)
  refine cR oW rfl ce5 ce1 λua oa xa sa=> ?_
  try simp(disch:=omega)only[SV]
  refine fL (oT.ext xa λh=>hne h.symm) rfl c9l c9o λub ob xb sb=> ?_
  try simp(disch:=omega)only[SV]
  exact fin (vc:=u3) (vO:=u4) z3 y4 hd' hS ((xa.mono λ_ _ h=> .inl h).seq (xb.mono λ_ _ h=> .inr h)) (.inl ⟨⟨_,oWp,rfl⟩,by have:=oWp.lt;first|omega|(show w4.heap.size<_;omega)⟩) (.inl ⟨⟨_,oTp,rfl⟩,by have:=oTp.lt;first|omega|(show w4.heap.size<_;omega)⟩) tz1 tz2 (oa.ext xb hne) ob
 .simp (disch:=omega)only[SV,lp0,lm0]
  refine(qF (dS hlv4 (aL.dr w4 aT) (bC _))).mono ?_
  rintro r u1 ⟨rfl,y1⟩
  have z1:=(aL.dr w4 aT).seq y1
  have tz1:=z1.size
  have qz1:=y1.size
  have lp1:=lp _ z1
  have lm1:=lm _ z1
  try simp(disch:=omega)only[SV,lp1,lm1]
  refine bP λu2 oT y2 s2=> ?_
  have z2:=z1.seq y2
  have tz2:=z2.size
  have qz2:=y2.size
  have lp2:=lp _ z2
  have lm2:=lm _ z2
  try simp(disch:=omega)only[SV,lp2,lm2]
  refine aV λu3 oW y3 s3=> ?_
  have z3:=z2.seq y3
  have tz3:=z3.size
  have qz3:=y3.size
  have oT:=oT.ext y3 (λh=>h)
  have lp3:=lp _ z3
  have lm3:=lm _ z3
  try simp(disch:=omega)only[SV,lp3,lm3]
  refine(vR (hd4.new z3) hm (dS hlv4 z3 (bC _)) hsF hf hf hf).mono ?_
  rw[hO]
  rintro r u4 ⟨dv',sv',rfl,hd',y4,hso⟩
  have hS:SvR u4 u3.heap.size lv0 sv' so':=by cases so'<;>exact hso
  obtain⟨ce,rfl,ce5,cec,ce1,cen⟩:=hd'.cs
  obtain⟨cs9,rfl,c9l,c9o,c9n⟩:=hS.cs
  have z4:=z3.seq y4
  have tz4:=z4.size
  have qz4:=y4.size
  have oT:=oT.ext y4 (λh=>h)
  have oW:=oW.ext y4 (λh=>h)
  have oTp:=oT
  have oWp:=oW
  have lp4:=lp _ z4
  have lm4:=lm _ z4
  try simp(disch:=omega)only[SV,lp4,lm4]
  have hne:u2.heap.size≠u1.heap.size:=by have:=oW.lt;have:=oT.lt;first|omega|(show w4.heap.size≠_;omega)|(show _≠w4.heap.size;omega)
  refine cR oW rfl ce5 ce1 λua oa xa sa=> ?_
  try simp(disch:=omega)only[SV]
  refine fL (oT.ext xa λh=>hne h.symm) rfl c9l c9o λub ob xb sb=> ?_
  try simp(disch:=omega)only[SV]
  exact fin (vc:=u3) (vO:=u4) z3 y4 hd' hS ((xa.mono λ_ _ h=> .inl h).seq (xb.mono λ_ _ h=> .inr h)) (.inl ⟨⟨_,oWp,rfl⟩,by have:=oWp.lt;first|omega|(show w4.heap.size<_;omega)⟩) (.inl ⟨⟨_,oTp,rfl⟩,by have:=oTp.lt;first|omega|(show w4.heap.size<_;omega)⟩) tz2 tz1 (oa.ext xb hne) ob
 .simp (disch:=omega)only[SV,lp0,lm0]
  refine bP λu1 oT y1 s1=> ?_
  have z1:=(aL.dr w4 aT).seq y1
  have tz1:=z1.size
  have qz1:=y1.size
  have lp1:=lp _ z1
  have lm1:=lm _ z1
  try simp(disch:=omega)only[SV,lp1,lm1]
  refine(qF (dS hlv4 z1 (bC _))).mono ?_
  rintro r u2 ⟨rfl,y2⟩
  have z2:=z1.seq y2
  have tz2:=z2.size
  have qz2:=y2.size
  have oT:=oT.ext y2 (λh=>h)
  have lp2:=lp _ z2
  have lm2:=lm _ z2
  try simp(disch:=omega)only[SV,lp2,lm2]
  refine(vR (hd4.new z2) hm (dS hlv4 z2 (bC _)) hsF hf hf hf).mono ?_
  rw[hO]
  rintro r u3 ⟨dv',sv',rfl,hd',y3,hso⟩
  have hS:SvR u3 u2.heap.size lv0 sv' so':=by cases so'<;>exact hso
  obtain⟨ce,rfl,ce5,cec,ce1,cen⟩:=hd'.cs
  obtain⟨cs9,rfl,c9l,c9o,c9n⟩:=hS.cs
  have z3:=z2.seq y3
  have tz3:=z3.size
  have qz3:=y3.size
  have oT:=oT.ext y3 (λh=>h)
  have oTp:=oT
  have lp3:=lp _ z3
  have lm3:=lm _ z3
  try simp(disch:=omega)only[SV,lp3,lm3]
  refine aV λu4 oW y4 s4=> ?_
  have z4:=z3.seq y4
  have tz4:=z4.size
  have qz4:=y4.size
  have oT:=oT.ext y4 (λh=>h)
  have lp4:=lp _ z4
  have lm4:=lm _ z4
  try simp(disch:=omega)only[SV,lp4,lm4]
  have hne:u3.heap.size≠(dr w4).heap.size:=by have:=oW.lt;have:=oT.lt;first|omega|(show w4.heap.size≠_;omega)|(show _≠w4.heap.size;omega)
  refine cR oW rfl ce5 ce1 λua oa xa sa=> ?_
  try simp(disch:=omega)only[SV]
  refine fL (oT.ext xa λh=>hne h.symm) rfl c9l c9o λub ob xb sb=> ?_
  try simp(disch:=omega)only[SV]
  exact fin (vc:=u2) (vO:=u3) z2 y3 hd' hS ((y4.mono λ_ _ h=>h.elim).seq ((xa.mono λ_ _ h=> .inl h).seq (xb.mono λ_ _ h=> .inr h))) (.inr (by first|omega|(show _<=w4.heap.size;omega))) (.inl ⟨⟨_,oTp,rfl⟩,by have:=oTp.lt;first|omega|(show w4.heap.size<_;omega)⟩) tz3 (aJO _) (oa.ext xb hne) ob
 .simp (disch:=omega)only[SV,lp0,lm0]
  refine bP λu1 oT y1 s1=> ?_
  have z1:=(aL.dr w4 aT).seq y1
  have tz1:=z1.size
  have qz1:=y1.size
  have lp1:=lp _ z1
  have lm1:=lm _ z1
  try simp(disch:=omega)only[SV,lp1,lm1]
  refine(qF (dS hlv4 z1 (bC _))).mono ?_
  rintro r u2 ⟨rfl,y2⟩
  have z2:=z1.seq y2
  have tz2:=z2.size
  have qz2:=y2.size
  have oT:=oT.ext y2 (λh=>h)
  have lp2:=lp _ z2
  have lm2:=lm _ z2
  try simp(disch:=omega)only[SV,lp2,lm2]
  refine aV λu3 oW y3 s3=> ?_
  have z3:=z2.seq y3
  have tz3:=z3.size
  have qz3:=y3.size
  have oT:=oT.ext y3 (λh=>h)
  have lp3:=lp _ z3
  have lm3:=lm _ z3
  try simp(disch:=omega)only[SV,lp3,lm3]
  refine(vR (hd4.new z3) hm (dS hlv4 z3 (bC _)) hsF hf hf hf).mono ?_
  rw[hO]
  rintro r u4 ⟨dv',sv',rfl,hd',y4,hso⟩
  have hS:SvR u4 u3.heap.size lv0 sv' so':=by cases so'<;>exact hso
  obtain⟨ce,rfl,ce5,cec,ce1,cen⟩:=hd'.cs
  obtain⟨cs9,rfl,c9l,c9o,c9n⟩:=hS.cs
  have z4:=z3.seq y4
  have tz4:=z4.size
  have qz4:=y4.size
  have oT:=oT.ext y4 (λh=>h)
  have oW:=oW.ext y4 (λh=>h)
  have oTp:=oT
  have oWp:=oW
  have lp4:=lp _ z4
  have lm4:=lm _ z4
  try simp(disch:=omega)only[SV,lp4,lm4]
  have hne:u2.heap.size≠(dr w4).heap.size:=by have:=oW.lt;have:=oT.lt;first|omega|(show w4.heap.size≠_;omega)|(show _≠w4.heap.size;omega)
  refine cR oW rfl ce5 ce1 λua oa xa sa=> ?_
  try simp(disch:=omega)only[SV]
  refine fL (oT.ext xa λh=>hne h.symm) rfl c9l c9o λub ob xb sb=> ?_
  try simp(disch:=omega)only[SV]
  exact fin (vc:=u3) (vO:=u4) z3 y4 hd' hS ((xa.mono λ_ _ h=> .inl h).seq (xb.mono λ_ _ h=> .inr h)) (.inl ⟨⟨_,oWp,rfl⟩,by have:=oWp.lt;first|omega|(show w4.heap.size<_;omega)⟩) (.inl ⟨⟨_,oTp,rfl⟩,by have:=oTp.lt;first|omega|(show w4.heap.size<_;omega)⟩) tz2 (aJO _) (oa.ext xb hne) ob
 .simp (disch:=omega)only[SV,lp0,lm0]
  refine aV λu1 oW y1 s1=> ?_
  have z1:=(aL.dr w4 aT).seq y1
  have tz1:=z1.size
  have qz1:=y1.size
  have lp1:=lp _ z1
  have lm1:=lm _ z1
  try simp(disch:=omega)only[SV,lp1,lm1]
  refine(qF (dS hlv4 z1 (bC _))).mono ?_
  rintro r u2 ⟨rfl,y2⟩
  have z2:=z1.seq y2
  have tz2:=z2.size
  have qz2:=y2.size
  have oW:=oW.ext y2 (λh=>h)
  have lp2:=lp _ z2
  have lm2:=lm _ z2
  try simp(disch:=omega)only[SV,lp2,lm2]
  refine(vR (hd4.new z2) hm (dS hlv4 z2 (bC _)) hsF hf hf hf).mono ?_
  rw[hO]
  rintro r u3 ⟨dv',sv',rfl,hd',y3,hso⟩
  have hS:SvR u3 u2.heap.size lv0 sv' so':=by cases so'<;>exact hso
  obtain⟨ce,rfl,ce5,cec,ce1,cen⟩:=hd'.cs
  obtain⟨cs9,rfl,c9l,c9o,c9n⟩:=hS.cs
  have z3:=z2.seq y3
  have tz3:=z3.size
  have qz3:=y3.size
  have oW:=oW.ext y3 (λh=>h)
  have oWp:=oW
  have lp3:=lp _ z3
  have lm3:=lm _ z3
  try simp(disch:=omega)only[SV,lp3,lm3]
  refine bP λu4 oT y4 s4=> ?_
  have z4:=z3.seq y4
  have tz4:=z4.size
  have qz4:=y4.size
  have oW:=oW.ext y4 (λh=>h)
  have lp4:=lp _ z4
  have lm4:=lm _ z4
  try simp(disch:=omega)only[SV,lp4,lm4]
  have hne:(dr w4).heap.size≠u3.heap.size:=by have:=oW.lt;have:=oT.lt;first|omega|(show w4.heap.size≠_;omega)|(show _≠w4.heap.size;omega)
  refine cR oW rfl ce5 ce1 λua oa xa sa=> ?_
  try simp(disch:=omega)only[SV]
  refine fL (oT.ext xa λh=>hne h.symm) rfl c9l c9o λub ob xb sb=> ?_
  try simp(disch:=omega)only[SV]
  exact fin (vc:=u2) (vO:=u3) z2 y3 hd' hS ((y4.mono λ_ _ h=>h.elim).seq ((xa.mono λ_ _ h=> .inl h).seq (xb.mono λ_ _ h=> .inr h))) (.inl ⟨⟨_,oWp,rfl⟩,by have:=oWp.lt;first|omega|(show w4.heap.size<_;omega)⟩) (.inr (by first|omega|(show _<=w4.heap.size;omega))) (aJO _) tz3 (oa.ext xb hne) ob
 .simp (disch:=omega)only[SV,lp0,lm0]
  refine aV λu1 oW y1 s1=> ?_
  have z1:=(aL.dr w4 aT).seq y1
  have tz1:=z1.size
  have qz1:=y1.size
  have lp1:=lp _ z1
  have lm1:=lm _ z1
  try simp(disch:=omega)only[SV,lp1,lm1]
  refine(qF (dS hlv4 z1 (bC _))).mono ?_
  rintro r u2 ⟨rfl,y2⟩
  have z2:=z1.seq y2
  have tz2:=z2.size
  have qz2:=y2.size
  have oW:=oW.ext y2 (λh=>h)
  have lp2:=lp _ z2
  have lm2:=lm _ z2
  try simp(disch:=omega)only[SV,lp2,lm2]
  refine bP λu3 oT y3 s3=> ?_
  have z3:=z2.seq y3
  have tz3:=z3.size
  have qz3:=y3.size
  have oW:=oW.ext y3 (λh=>h)
  have lp3:=lp _ z3
  have lm3:=lm _ z3
  try simp(disch:=omega)only[SV,lp3,lm3]
  refine(vR (hd4.new z3) hm (dS hlv4 z3 (bC _)) hsF hf hf hf).mono ?_
  rw[hO]
  rintro r u4 ⟨dv',sv',rfl,hd',y4,hso⟩
  have hS:SvR u4 u3.heap.size lv0 sv' so':=by cases so'<;>exact hso
  obtain⟨ce,rfl,ce5,cec,ce1,cen⟩:=hd'.cs
  obtain⟨cs9,rfl,c9l,c9o,c9n⟩:=hS.cs
  have z4:=z3.seq y4
  have tz4:=z4.size
  have qz4:=y4.size
  have oW:=oW.ext y4 (λh=>h)
  have oT:=oT.ext y4 (λh=>h)
  have oWp:=oW
  have oTp:=oT
  have lp4:=lp _ z4
  have lm4:=lm _ z4
  try simp(disch:=omega)only[SV,lp4,lm4]
  have hne:(dr w4).heap.size≠u2.heap.size:=by have:=oW.lt;have:=oT.lt;first|omega|(show w4.heap.size≠_;omega)|(show _≠w4.heap.size;omega)
  refine cR oW rfl ce5 ce1 λua oa xa sa=> ?_
  try simp(disch:=omega)only[SV]
  refine fL (oT.ext xa λh=>hne h.symm) rfl c9l c9o λub ob xb sb=> ?_
  try simp(disch:=omega)only[SV]
  exact fin (vc:=u3) (vO:=u4) z3 y4 hd' hS ((xa.mono λ_ _ h=> .inl h).seq (xb.mono λ_ _ h=> .inr h)) (.inl ⟨⟨_,oWp,rfl⟩,by have:=oWp.lt;first|omega|(show w4.heap.size<_;omega)⟩) (.inl ⟨⟨_,oTp,rfl⟩,by have:=oTp.lt;first|omega|(show w4.heap.size<_;omega)⟩) (aJO _) tz2 (oa.ext xb hne) ob
 .simp (disch:=omega)only[SV,lp0,lm0]
  refine aV λu1 oW y1 s1=> ?_
  have z1:=(aL.dr w4 aT).seq y1
  have tz1:=z1.size
  have qz1:=y1.size
  have lp1:=lp _ z1
  have lm1:=lm _ z1
  try simp(disch:=omega)only[SV,lp1,lm1]
  refine bP λu2 oT y2 s2=> ?_
  have z2:=z1.seq y2
  have tz2:=z2.size
  have qz2:=y2.size
  have oW:=oW.ext y2 (λh=>h)
  have lp2:=lp _ z2
  have lm2:=lm _ z2
  try simp(disch:=omega)only[SV,lp2,lm2]
  refine(qF (dS hlv4 z2 (bC _))).mono ?_
  rintro r u3 ⟨rfl,y3⟩
  have z3:=z2.seq y3
  have tz3:=z3.size
  have qz3:=y3.size
  have oW:=oW.ext y3 (λh=>h)
  have oT:=oT.ext y3 (λh=>h)
  have lp3:=lp _ z3
  have lm3:=lm _ z3
  try simp(disch:=omega)only[SV,lp3,lm3]
  refine(vR (hd4.new z3) hm (dS hlv4 z3 (bC _)) hsF hf hf hf).mono ?_
  rw[hO]
  rintro r u4 ⟨dv',sv',rfl,hd',y4,hso⟩
  have hS:SvR u4 u3.heap.size lv0 sv' so':=by cases so'<;>exact hso
  obtain⟨ce,rfl,ce5,cec,ce1,cen⟩:=hd'.cs
  obtain⟨cs9,rfl,c9l,c9o,c9n⟩:=hS.cs
  have z4:=z3.seq y4
  have tz4:=z4.size
  have qz4:=y4.size
  have oW:=oW.ext y4 (λh=>h)
  have oT:=oT.ext y4 (λh=>h)
  have oWp:=oW
  have oTp:=oT
  have lp4:=lp _ z4
  have lm4:=lm _ z4
  try simp(disch:=omega)only[SV,lp4,lm4]
  have hne:(dr w4).heap.size≠u1.heap.size:=by have:=oW.lt;have:=oT.lt;first|omega|(show w4.heap.size≠_;omega)|(show _≠w4.heap.size;omega)
  refine cR oW rfl ce5 ce1 λua oa xa sa=> ?_
  try simp(disch:=omega)only[SV]
  refine fL (oT.ext xa λh=>hne h.symm) rfl c9l c9o λub ob xb sb=> ?_
  try simp(disch:=omega)only[SV]
  exact fin (vc:=u3) (vO:=u4) z3 y4 hd' hS ((xa.mono λ_ _ h=> .inl h).seq (xb.mono λ_ _ h=> .inr h)) (.inl ⟨⟨_,oWp,rfl⟩,by have:=oWp.lt;first|omega|(show w4.heap.size<_;omega)⟩) (.inl ⟨⟨_,oTp,rfl⟩,by have:=oTp.lt;first|omega|(show w4.heap.size<_;omega)⟩) (aJO _) tz1 (oa.ext xb hne) ob
 .simp (disch:=omega)only[SV,lp0,lm0]
  refine bP λu1 oT y1 s1=> ?_
  have z1:=(aL.dr w4 aT).seq y1
  have tz1:=z1.size
  have qz1:=y1.size
  have lp1:=lp _ z1
  have lm1:=lm _ z1
  try simp(disch:=omega)only[SV,lp1,lm1]
  refine aV λu2 oW y2 s2=> ?_
  have z2:=z1.seq y2
  have tz2:=z2.size
  have qz2:=y2.size
  have oT:=oT.ext y2 (λh=>h)
  have lp2:=lp _ z2
  have lm2:=lm _ z2
  try simp(disch:=omega)only[SV,lp2,lm2]
  refine(qF (dS hlv4 z2 (bC _))).mono ?_
  rintro r u3 ⟨rfl,y3⟩
  have z3:=z2.seq y3
  have tz3:=z3.size
  have qz3:=y3.size
  have oT:=oT.ext y3 (λh=>h)
  have oW:=oW.ext y3 (λh=>h)
  have lp3:=lp _ z3
  have lm3:=lm _ z3
  try simp(disch:=omega)only[SV,lp3,lm3]
  refine(vR (hd4.new z3) hm (dS hlv4 z3 (bC _)) hsF hf hf hf).mono ?_
  rw[hO]
  rintro r u4 ⟨dv',sv',rfl,hd',y4,hso⟩
  have hS:SvR u4 u3.heap.size lv0 sv' so':=by cases so'<;>exact hso
  obtain⟨ce,rfl,ce5,cec,ce1,cen⟩:=hd'.cs
  obtain⟨cs9,rfl,c9l,c9o,c9n⟩:=hS.cs
  have z4:=z3.seq y4
  have tz4:=z4.size
  have qz4:=y4.size
  have oT:=oT.ext y4 (λh=>h)
  have oW:=oW.ext y4 (λh=>h)
  have oTp:=oT
  have oWp:=oW
  have lp4:=lp _ z4
  have lm4:=lm _ z4
  try simp(disch:=omega)only[SV,lp4,lm4]
  have hne:u1.heap.size≠(dr w4).heap.size:=by have:=oW.lt;have:=oT.lt;first|omega|(show w4.heap.size≠_;omega)|(show _≠w4.heap.size;omega)
  refine cR oW rfl ce5 ce1 λua oa xa sa=> ?_
  try simp(disch:=omega)only[SV]
  refine fL (oT.ext xa λh=>hne h.symm) rfl c9l c9o λub ob xb sb=> ?_
  try simp(disch:=omega)only[SV]
  exact fin (vc:=u3) (vO:=u4) z3 y4 hd' hS ((xa.mono λ_ _ h=> .inl h).seq (xb.mono λ_ _ h=> .inr h)) (.inl ⟨⟨_,oWp,rfl⟩,by have:=oWp.lt;first|omega|(show w4.heap.size<_;omega)⟩) (.inl ⟨⟨_,oTp,rfl⟩,by have:=oTp.lt;first|omega|(show w4.heap.size<_;omega)⟩) tz1 (aJO _) (oa.ext xb hne) ob
end Go.Proofs.YteelnmpbnaohpaaGreatDoor
namespace Go.Proofs.YteelnmpbnaohpaaGreatDoor
open Go Go.En Go.Pu
def nm4 (n:ByteArray):Prop:=n=sF∨n=aZ sF∨n=cZ sF∨n=⟨#[103]⟩
theorem aH3 (k:Nat):nm4 (nmK k):=by
 match k with
 |0=>exact .inl rfl
 |1=>exact .inr (.inl rfl)
 |2=>exact .inr (.inr (.inl rfl))
 |_+3=>exact .inr (.inr (.inr rfl))
def FOk(l:cO):Prop:=(l.map (·.1)).Nodup/\∀q∈l,nm4 q.1/\q.2.length<=65535
def OOk(o:LP):Prop:=o.kind<=2/\(o.kind=0->nm4 o.name/\o.at'+o.bytes.length<=65535)/\(o.kind=1->nm4 o.other)
theorem Rd{l:cO}{n:ByteArray}{b:List UInt8}(h:bF n l=some b):(n,b)∈l:=by
 induction l with
 |nil=>simp[bF]at h
 |cons a r ih=>
  simp only[bF]at h
  split at h
  .rename_i e
   have e':a.1=n∨n=a.1:=by first|exact .inl (by simpa using e)|exact .inr (by simpa using e)
   have e':a.1=n:=by rcases e' with e|e;exact e;exact e.symm
   injection h with h
   subst h;subst e'
   exact aJ7
  .exact aJT _ (ih h)
theorem ahG{k:ByteArray}{b:List UInt8}:∀{l:cO} {q:ByteArray×List UInt8},q∈nR k b l->q=(k,b)∨q∈l
 |[],q,h=>by simp[nR]at h;exact .inl h
 |a::r,q,h=>by
  simp only[nR]at h
  split at h
  .rcases aJK.1 h with h|h
   .rename_i e
    exact .inl (by rw[h])
   .exact .inr (aJT _ h)
  .rcases aJK.1 h with h|h
   .exact .inr (h▸aJ7)
   .rcases ahG h with h|h
    .exact .inl h
    .exact .inr (aJT _ h)
theorem ahE{k:ByteArray}:∀{l:cO} {q:ByteArray×List UInt8},q∈yM k l->q∈l
 |[],q,h=>by simp[yM]at h
 |a::r,q,h=>by
  simp only[yM]at h
  split at h
  .exact aJT _ h
  .rcases aJK.1 h with h|h
   .exact h▸aJ7
   .exact aJT _ (ahE h)
theorem aC4 {o:LP}{l:cO}(h:FOk l)(ho:OOk o):FOk (TS o l):=by
 obtain⟨hn,hl⟩:=h
 have hlen:∀n,((bF n l).getD []).length<=65535:=λn=>by
  cases hg:bF n l with
  |none=>simp
  |some b=>exact(hl _ (Rd hg)).2
 unfold TS
 split
 .rename_i h0
  obtain⟨h1,h2⟩:=ho.2.1 h0
  refine⟨uO hn,λq hq=> ?_⟩
  rcases ahG hq with rfl|hq
  .refine ⟨h1, ?_⟩
   show(over _ _ _).length<=_
   rw[yR]
   have:=hlen o.name
   omega
  .exact hl q hq
 .split
  .rename_i h1
   have h3:=ho.2.2 h1
   split
   .exact ⟨hn,hl⟩
   .rename_i b hg
    refine⟨uO (Ir hn),λq hq=> ?_⟩
    rcases ahG hq with rfl|hq
    .exact ⟨h3,(hl _ (Rd hg)).2⟩
    .exact hl q (ahE hq)
  .split
   .exact ⟨Ir hn,λq hq=>hl q (ahE hq)⟩
   .exact ⟨hn,hl⟩
theorem aiA{α:Type}[DecidableEq α]:∀{A B:List α},A.Nodup->(∀x∈A,x∈B)->A.length<=B.length
 |[],B,_,_=>Nat.zero_le _
 |a::A,B,h,hs=>by
  rw[aK3]at h
  have ha:=hs a aJ7
  have ih:=aiA (A:=A) (B:=B.erase a) h.2 λx hx=>(List.mem_erase_of_ne λ(e:x=a)=>h.1 (e▸hx)).2 (hs x (aJT _ hx))
  rw[aLJ ha]at ih
  have:=List.length_pos_of_mem ha
  rw[aJX];omega
theorem aqB{l:cO}(h:FOk l):l.length<=4:=by
 have h1:(l.map (·.1)).length<=[sF,aZ sF,cZ sF,(⟨#[103]⟩:ByteArray)].length:=by
  refine aiA h.1 λn hn=> ?_
  obtain⟨q,hq,rfl⟩:=aKq.1 hn
  have:=(h.2 q hq).1
  unfold nm4 at this
  simpa using this
 simpa using h1
theorem WB{l:cO}(h:FOk l):bN l<=262140:=by
 have h4:=aqB h
 have key:∀l:cO,(∀q∈l,q.2.length<=65535)->bN l<=l.length*65535:=by
  intro l
  induction l with
  |nil=>intro _;simp[bN]
  |cons a r ih=>
   intro hl
   have:=ih λq hq=>hl q (aJT _ hq)
   have h0:=hl a aJ7
   simp only[bN,aJX,aJU,aLk]at*
   omega
 have:=key l λq hq=>(h.2 q hq).2
 omega
structure Hd(S:cG):Prop where
 se:FOk S.seen
 su:FOk S.sure
 un:∀o∈S.under,OOk o
 rm:0<=S.room/\S.room<=65535
theorem aFX{r:Int}(h:0<=r/\r<=65535):Hd (Xd r):=⟨⟨List.nodup_nil,λq hq=>(nomatch hq)⟩,⟨List.nodup_nil,λq hq=>(nomatch hq)⟩,λo ho=>(nomatch ho),h⟩
theorem akM{S:cG}{o:LP}(h:Hd S)(ho:OOk o):Hd (yL S o).1:=by
 unfold yL
 split
 .exact ⟨h.se,h.su,h.un,h.rm⟩
 .refine ⟨aC4 h.se ho,h.su,λx hx=> ?_,h.rm⟩
  rcases aKg.1 hx with hx|hx
  .exact h.un x hx
  .rw [aKm]at hx;exact hx▸ho
theorem SS{S:cG}{k:ByteArray}{a:Int}{l:List UInt8}(h:Hd S)(hk:nm4 k):Hd (zU S k a l).1:=by
 unfold zU
 split
 .rename_i h0
  refine akM h ⟨by show(0:Nat)<=2;omega,λ_=>⟨hk, ?_⟩,λh1=>by cases h1⟩
  show a.toNat+l.length<=65535
  have hr:=h.rm
  have hg:(nT S k).length<=bN S.seen:=sS
  unfold wrE at h0
  split at h0
  .cases h0
  split at h0
  .cases h0
  split at h0
  .cases h0
  split at h0
  .cases h0
  omega
 .exact h
theorem aEl{S:cG}{k:ByteArray}(h:Hd S):Hd (Yj S k).1:=by
 unfold Yj
 split
 .exact h
 .split
  .exact h
  .exact akM h ⟨by show(2:Nat)<=2;omega,λh1=>(by cases h1),λh1=>by cases h1⟩
theorem aEm{S:cG}{k j:ByteArray}(h:Hd S)(hj:nm4 j):Hd (JX S k j).1:=by
 unfold JX
 split
 .exact h
 .split
  .exact h
  .split
   .exact h
   .exact akM h ⟨by show(1:Nat)<=2;omega,λh1=>(by cases h1),λ_=>hj⟩
theorem VZ{S:cG}(h:Hd S):Hd (AP S).1:=by
 unfold AP
 split
 .exact h
 .split
  .exact ⟨h.se,h.su,h.un,h.rm⟩
  .exact ⟨h.se,h.se,λo ho=>(nomatch ho),h.rm⟩
theorem afX{os:List LP}{ks:List Bool}{c:cO}(h:FOk c)(ho:∀o∈os,OOk o):∀i,FOk (crN os ks c i)
 |0=>h
 |i+1=>by
  have ih:=afX (ks:=ks) h ho i
  rw[crN]
  split
  .rename_i o h1 h2
   exact aC4 ih (ho o (aKR h1))
  .exact ih
theorem aHj{S:cG}{ks:List Bool}(h:Hd S):Hd (crS S ks):=⟨afX h.su h.un _,afX h.su h.un _,λo ho=>(nomatch ho),h.rm⟩
theorem arE{S:cG}{s:eT}{k v:Nat}(h:Hd S)(hn:s.nm=sF):Hd (bZ aY S s k v).1:=by
 have:=SS (k:=cZ s.nm) (a:=s.log) (l:=pA aY k v) h (by rw[hn];exact .inr (.inr (.inl rfl)))
 unfold bZ
 simp only
 split<;>exact this
theorem awD{S:cG}{s:eT}(h:Hd S)(hn:s.nm=sF):Hd (cC S s).1:=by
 have hp:nm4 (aZ s.nm):=by rw[hn];exact .inr (.inl rfl)
 unfold cC
 simp only
 split
 .exact h
 .split
  .split
   .exact aEl h
   .exact SS (aEl h) hp
  .split
   .exact SS h hp
   .exact h
theorem awE{S:cG}{m:Gh}(h:Hd S):Hd (sY aX aY S sF m).1:=by
 rw[Er]
 have hb:Hd (fU S (qA S sF m)).1:=by
  unfold fU
  split
  .exact h
  .split
   .exact h
   .exact arE h rfl
 split
 .exact h
 .split
  .exact hb
  .have hn:(fU S (qA S sF m)).2.1.nm=sF:=Ni.2.1
   unfold KS
   split
   .split<;>exact VZ hb
   .split
    .exact awD hb hn
    .split<;>exact VZ (awD hb hn)
theorem aFY{S:cG}{s:eT}{i:Int}{b:List UInt8}(h:Hd S)(hn:s.nm=sF):Hd (yT aX aY S s i b).1:=by
 have hp:nm4 (aZ s.nm):=by rw[hn];exact .inr (.inl rfl)
 unfold yT
 split
 .exact h
 .split
  .exact h
  .split
   .exact h
   .split
    .exact h
    .show Hd (fD aY S s i.toNat b).1
     unfold fD
     simp only
     split
     .exact SS h hp
     .split
      .exact VZ (SS h hp)
      .split
       .exact arE (VZ (SS h hp)) hn
       .exact VZ (arE (VZ (SS h hp)) hn)
theorem aFW{S:cG}{s:eT}(h:Hd S)(hn:s.nm=sF):Hd (dV aX S s).1:=by
 have hp:nm4 s.nm:=by rw[hn];exact .inl rfl
 unfold dV
 split
 .exact h
 split
 .exact h
 split
 .exact h
 split
 .exact h
 split
 .exact h
 split
 .exact h
 simp only
 split
 .exact aEm h hp
 .exact VZ (aEm h hp)
end Go.Proofs.YteelnmpbnaohpaaGreatDoor
namespace Go.Proofs.YteelnmpbnaohpaaGreatDoor
open Go Go.En Go.Pu
set_option maxRecDepth 4000
set_option maxHeartbeats 2000000
def StR(w0:aL0)(N:Nat->Prop)(w:aL0)(n:Nat)(m:Gh)(lv0:aL1)(p:Nat)(cs:List aL1)(S':cG)(L:Nat)(r:aL1)(w':aL0):Prop:=∃N' so'' sp'' cd' cs'',r= .tuple #[.agg (pV p sp'' cd' cs'').toArray,.bool true]/\PM w0 N' w' n S' so'' m lv0 p sp'' cd' cs''/\(∀s,so''=some s->s.log<=L)/\(∀b,N b->N' b)/\CsN w lv0 cs cs''/\aL w w' (V5 w0 N)
theorem PM.le {w0 w:aL0}{N:Nat->Prop}{n k:Nat}{S:cG}{so:Option eT}{m:Gh}{lv0:aL1}{p:Nat}{sp:aL1}{cd cs:List aL1}(h:PM w0 N w n S so m lv0 p sp cd cs)(hk:k<=n):PM w0 N w k S so m lv0 p sp cd cs:=⟨h.md.le hk,h.st⟩
theorem aAv{w w':aL0}{s:eT}{hv hv':aL1}(h:HvN w w' s hv hv'):hv'=hv∨∀M:Nat->Prop,(∀b,M b->b<w.heap.size)->¬fK hv' M:=h.imp id λh M hM=>Zy h hM
theorem aAS{w:aL0}{s s':eT}{lv0 hv hv':aL1}(h:hv'=hv∨∀M:Nat->Prop,(∀b,M b->b<w.heap.size)->¬fK hv' M):CsN w lv0 (yU s lv0 hv) (yU s' lv0 hv'):=by
 intro c hc
 simp only[aJK,aJN,or_false]at hc
 rcases hc with rfl|rfl|rfl|rfl|rfl|rfl|rfl|rfl|rfl
 .exact .inr (.inr λM _ hi=>hi)
 .exact .inr (.inr λM _ hi=>hi)
 .exact .inr (.inr λM _ hi=>hi)
 .exact .inr (.inl rfl)
 .exact .inr (.inr λM _ hi=>hi)
 .rcases h with rfl|h
  .exact .inl (by simp)
  .exact .inr (.inr h)
 .exact .inr (.inr λM _ hi=>hi)
 .exact .inr (.inr λM _ hi=>hi)
 .exact .inr (.inr λM _ hi=>hi)
section
variable{w0 w w1:aL0}{N N1:Nat->Prop}{n p pb tb:Nat}{S:cG}{so:Option eT}{m:Gh}{lv0 sp:aL1}{cd cs:List aL1}{RR:aL1->aL0->Prop}
theorem aDW{S:cG}{s:eT}{i:Int}{b:List UInt8}:(yT aX aY S s i b).2.1.nm=s.nm/\(yT aX aY S s i b).2.1.man=s.man/\(yT aX aY S s i b).2.1.hv.length=s.hv.length/\(yT aX aY S s i b).2.1.log<=s.log+13:=by
 have hrec:∀(S:cG) (k v:Nat),(bZ aY S s k v).2.1.log<=s.log+13:=λS k v=>by
  unfold bZ
  simp only
  split
  .exact aJO _
  .exact aKJ _ _
 have hch:(fD aY S s i.toNat b).2.1.nm=s.nm/\(fD aY S s i.toNat b).2.1.man=s.man/\(fD aY S s i.toNat b).2.1.log<=s.log+13:=by
  unfold fD
  simp only
  split
  .exact ⟨rfl,rfl,aKJ _ _⟩
  .split
   .exact ⟨rfl,rfl,aKJ _ _⟩
   .split
    .exact ⟨NK.2.2.1,NK.2.1,hrec _ _ _⟩
    .exact ⟨NK.2.2.1,NK.2.1,hrec _ _ _⟩
 unfold yT
 split
 .exact ⟨rfl,rfl,rfl,aKJ _ _⟩
 split
 .exact ⟨rfl,rfl,rfl,aKJ _ _⟩
 split
 .exact ⟨rfl,rfl,rfl,aKJ _ _⟩
 split
 .exact ⟨rfl,rfl,rfl,aKJ _ _⟩
 .refine ⟨hch.1,hch.2.1, ?_,hch.2.2⟩
  show((fD aY S s i.toNat b).2.1.hv.set _ _).length=_
  rw[aKr,asM]
theorem aCi{f:List UInt8}{fv bv kv:aL1}{a:arU}{ab mb L:Nat}(h:PM w0 N1 w1 (n+3) S so m lv0 p sp cd cs)(x0:aL w0 w aT)(x1:aL w w1 aT)(hN1:∀b,N b->N1 b)(hNn:∀b,N1 b->N b∨w.heap.size<=b)(hS:Hd S)(hm:CM m)(hlz:¬fK lv0 (λy=>w0.heap.size<=y))
 (hf:Bs w1 fv f) (hfz:¬fK fv (λy=>w0.heap.size<=y)) (hb:Bs w1 bv a.bytes) (hbz:¬fK bv (λy=>w0.heap.size<=y)) (hfl:f.length<=1000) (hbl:a.bytes.length<=1000) (hpt: -9223372036854775808<=a.part/\a.part<=9223372036854775807)
 (op:bD w1 pb (pV p sp cd cs)) (om:bD w1 mb (xV m lv0)) (oa:bD w1 ab (aC a bv kv)) (ot:bD w1 tb Z16) (hord:w.heap.size<=pb/\w.heap.size<=mb/\w.heap.size<=ab/\w.heap.size<=tb/\pb≠tb/\pb<w1.heap.size/\tb<w1.heap.size) (hNb:N1 pb/\N1 mb/\N1 ab/\N1 tb)
 (hcs:∀c∈cs,¬fK c (λy=>w.heap.size<=y)) (hlog:∀s,so=some s->s.log<=L) (hL:L<=100000000)
 (hK:∀r w',(∃S',Hd S'/\StR w0 N w n m lv0 p cs S' (L+13) r w')->RR r w'):
 KY RR fv (.pointer (some ⟨pb,0,none⟩)) (.pointer (some ⟨mb,0,none⟩)) (.pointer (some ⟨ab,0,none⟩)) (.pointer (some ⟨tb,0,none⟩)) w1:=by
 have k5:=h.md.c5
 have k9:=(h.st.c9).1
 have z0:=x0.size
 have z1:=x1.size
 have hp0:w0.heap.size<=pb:=by omega
 have ht0:w0.heap.size<=tb:=by omega
 have nkp:∀b,N1 b->¬V5 w0 N1 b:=λb hb hk=>hk.2 hb
 have c1:w1.cell? ⟨pb,1,none⟩=some sp:=op.cell (off:=1)
 unfold KY
 have hst:=h.st
 cases so with
 |none=>
  obtain⟨rfl,hcs0,_⟩:=hst
  have l16:=pF op (dC k5.l k9.l)
  simp(disch:=omega)only[SV,c1,aKY,l16]
  refine rL ot rfl (dC k5.l k9.l) (Le k5.o k9.o) λu9 q9 y9 t9=> ?_
  refine eU q9 (by rw[dC k5.l k9.l];omega) ?_
  rw[aJY,aJH (by rw[dC k5.l k9.l];omega)]
  have hPM9:=(h.le (aKJ n 3)).wr ot rfl (by intro x hx;simp only[aJK,aJN,or_false]at hx;rcases hx with rfl|rfl|rfl|rfl|rfl|rfl|rfl|rfl|rfl|rfl|rfl|rfl|rfl|rfl|rfl|rfl<;>rfl) hNb.2.2.2 ht0 y9 t9 hlz (λc hc hi=>hcs c hc (bO hi λb hb=>by omega))
  exact hK _ _ ⟨S,hS,_,_,_,_,_,rfl,hPM9,(λs hs=>nomatch hs),hN1,λc hc=> .inl hc,(x1.mono λ_ _ h=>h.elim).trans y9 λy hy hm=>by omega⟩
 |some s=>
  obtain⟨q,hv,rfl,rfl,hR,hz,hSes,hnm,hman,hlen⟩:=hst
  have hman':=hman
  have m1:w1.cell? ⟨mb,1,none⟩=some (.int .u32 (m.part:Nat)):=om.cell (off:=1)
  have e1:IntKind.i64.wrap ((m.part:Nat):Int)=((m.part:Nat):Int):=dG (by omega) (by have:=hm.part;omega)
  have lA:(aB 54 (.pointer (some ⟨ab,0,none⟩))).run pg w1= .ok (.value (.agg (aC a bv kv).toArray)) w1:=Mk (off:=0) oa (by simp)
  simp(disch:=omega)only[SV,c1,aKI,m1,e1,lA]
  refine(aFJ hf hb hfl hm.part).mono ?_
  rintro r v2 ⟨b,hb2,hbl2,hbz2,xp⟩
  have op2:=op.ext xp (λh=>h)
  have oa2:=oa.ext xp (λh=>h)
  have c12:v2.cell? ⟨pb,1,none⟩=some (dP q):=op2.cell (off:=1)
  have a12:v2.cell? ⟨ab,1,none⟩=some (.int .i64 a.part):=oa2.cell (off:=1)
  have hsl:=hlog s rfl
  have hBk:GN 2 S:=by
   obtain⟨D,sv,wv,_,_,h3⟩:=h.md
   exact h3.bk.le (by omega)
  simp(disch:=omega)only[SV,c12,a12]
  refine(aA0 (hSes.new xp) (aL.refl v2 aT) hBk (by rw[hlen,hman]) hb2 (by omega) (hbz2 _ (λhi=>hfz (bO hi λb hb=>hb.1)) (λhi=>hbz (bO hi λb hb=>hb.1))) (by omega) hpt).mono ?_
  rintro r' v3 ⟨rfl,hSes3,x3⟩
  have op3:=op2.ext x3 (nkp _ hNb.1)
  have oa3:=oa2.ext x3 (nkp _ hNb.2.2.1)
  have ot3:=(ot.ext xp (λh=>h)).ext x3 (nkp _ hNb.2.2.2)
  have hd3:=(h.md.prog (xp.mono λ_ _ h=>h.elim)).prog x3
  have hR3:Uk v3 s lv0 hv:=by
   have hR2:=hR.new xp
   exact⟨hR2.man,dS hR2.lv x3 λhi=>hlz (bO hi λb hb=>hb.1),hR2.hv.ext x3 hz,hR2.ep,hR2.lg,hR2.hl,hR2.nl⟩
  have l40:(aB 40 (.pointer (some ⟨pb,2,none⟩))).run pg v3= .ok (.value (.agg cd.toArray)) v3:=by
   have:=bW (off:=2) op3 (by rw[dC k5.l k9.l];omega)
   rwa [aiD k5.l]at this
  have l47:(aB 47 (.pointer (some ⟨pb,7,none⟩))).run pg v3= .ok (.value (.agg (yU s lv0 hv).toArray)) v3:=by
   have:=wL (off:=7) op3 (by rw[dC k5.l k9.l];omega)
   rwa [aDS k5.l k9.l]at this
  have a13:v3.cell? ⟨ab,1,none⟩=some (.int .i64 a.part):=oa3.cell (off:=1)
  have hb3:Bs v3 r b:=hb2.ext x3 (hbz2 _ (λhi=>hfz (bO hi λb hb=>hb.1)) (λhi=>hbz (bO hi λb hb=>hb.1)))
  have hcv:=eP hb3
  simp(disch:=omega)only[SV,l40,l47,a13,hcv]
  refine(aFO (N:=n) (i:=a.part) (hd3.le (by omega)) hR3 (by rw[hlen,hman]) (by omega) (by omega)).mono ?_
  rintro r'' w3 ⟨dv',hv',rfl,hd4,hR4,hN4,x4⟩
  obtain⟨ce,rfl,-,-,-,-⟩:=hd4.cs
  have hlk:=aDW (S:=S) (s:=s) (i:=a.part) (b:=b)
  obtain⟨P,hPe⟩:∃P,P=yT aX aY S s a.part b:=⟨_,rfl⟩
  have hSP:Hd P.1:=by rw[hPe];exact aFY hS hnm
  rw[<-hPe]at hlk hd4 hR4 hN4 hSes3⊢
  obtain⟨N3,hN3e⟩:∃N3,N3=NR N1 v3 w3:=⟨_,rfl⟩
  have hPM:PM w0 N3 w3 n P.1 (some P.2.1) m lv0 p (dP q) ce (yU P.2.1 lv0 hv'):=by
   rw[hN3e]
   exact⟨uA.model hd4 x4.size,q,hv',rfl,rfl,hR4,aDf hN4 hz,hSes3.addR x4,by rw[hlk.1];exact hnm,by rw[hlk.2.1];exact hman,by rw[hlk.2.2.1];exact hlen⟩
  have hp3:N3 pb:=by rw[hN3e];exact .inl hNb.1
  have ht3:N3 tb:=by rw[hN3e];exact .inl hNb.2.2.2
  have hN3:∀b,N b->N3 b:=λb hb=>by rw[hN3e];exact .inl (hN1 b hb)
  have op:=op3.ext x4 (λh=>h)
  have ot:=ot3.ext x4 (λh=>h)
  have zp:=xp.size
  have z3:=x3.size
  have z4:=x4.size
  obtain⟨cs',hcs'⟩:∃cs',cs'=yU P.2.1 lv0 hv':=⟨_,rfl⟩
  rw[<-hcs']at hPM⊢
  have hnw:=aAS (w:=v3) (s:=s) (s':=P.2.1) (lv0:=lv0) (hv:=hv) (hv':=hv') (aAv hN4)
  rw[<-hcs']at hnw
  have hold:∀c∈cs',¬fK c (λy=>w3.heap.size<=y):=by
   intro c hc
   rw[hcs']at hc
   simp only[aJK,aJN,or_false]at hc
   rcases hc with rfl|rfl|rfl|rfl|rfl|rfl|rfl|rfl|rfl<;>first|exactλhi=>hi|exactλhi=>hlz (bO hi λb hb=>by omega)|exact hR4.hv.old
  have hloc:∀c∈cs',∀y,w.heap.size<=y->(y<w1.heap.size∨w3.heap.size<=y)->¬fK c (λb=>b=y):=by
   intro c hc y hy hyy hi
   rcases hyy with hyy|hyy
   .rcases hnw c hc with h1|rfl|h1
    .exact hcs c h1 (bO hi λb hb=>by omega)
    .exact hlz (bO hi λb hb=>by omega)
    .exact h1 _ (λb hb=>by omega) hi
   .exact hold c hc (bO hi λb hb=>by omega)
  have hlog':∀s',some P.2.1=some s'->s'.log<=L+13:=λs' h=>by cases h;have:=hlk.2.2.2;omega
  have hcsn:CsN w lv0 (yU s lv0 hv) cs':=λc hc=>by
   rcases hnw c hc with h1|h1|h1
   .exact .inl h1
   .exact .inr (.inl h1)
   .exact .inr (.inr λM hM=>h1 M λb hb=>by have:=hM b hb;omega)
  have x03:aL w w3 (V5 w0 N):=(((x1.seq xp).mono λ_ _ h=>h.elim).seq (x3.mono λ_ _ h=>⟨h.1,λhn=>h.2 (hN1 _ hn)⟩)).seq (x4.mono λ_ _ h=>h.elim)
  have hK:∀r w',StR w0 N w n m lv0 p (yU s lv0 hv) P.1 (L+13) r w'->RR r w':=λr w' h=>hK r w' ⟨P.1,hSP,h⟩
  have c5:=hPM.md.c5
  obtain⟨c9,-⟩:=hPM.st.c9
  simp(disch:=omega)only[SV]
  refine aV λu3 q3 y3 t3=> ?_
  refine bP λu4 q4 y4 t4=> ?_
  have hPM4:=hPM.newR (y3.seq y4)
  have g3:NR N3 w3 u4 w3.heap.size:= .inr ⟨aJO _,by omega⟩
  have g4:NR N3 w3 u4 u3.heap.size:= .inr ⟨by omega,by omega⟩
  have gp:NR N3 w3 u4 pb:= .inl hp3
  have gt:NR N3 w3 u4 tb:= .inl ht3
  have q3:=q3.ext y4 (λh=>h)
  have hcs3:∀c∈cs',∀y,w.heap.size<=y->(y<w1.heap.size∨w3.heap.size<=y)->¬fK c (λb=>b=y):=hloc
  have lt3:=op.lt
  have hltt:=ot.lt
  refine cR q3 rfl c5.l c5.o λu5 q5 y5 t5=> ?_
  have hPM5:=hPM4.wr q3 rfl (by intro x hx;simp only[aJK,aJN,or_false]at hx;rcases hx with rfl|rfl|rfl|rfl|rfl<;>rfl) g3 (by omega) y5 t5 hlz (λc hc=>hcs3 c hc _ (by omega) (.inr (by omega)))
  refine fL (q4.ext y5 (by omega)) rfl c9.l c9.o λu6 q6 y6 t6=> ?_
  have hPM6:=hPM5.wr (q4.ext y5 (by omega)) rfl (by intro x hx;simp only[aJK,aJN,or_false]at hx;rcases hx with rfl|rfl|rfl|rfl|rfl|rfl|rfl|rfl|rfl<;>rfl) g4 (by omega) y6 t6 hlz (λc hc=>hcs3 c hc _ (by omega) (.inr (by omega)))
  have op6:=(((op.ext y3 (λh=>h)).ext y4 (λh=>h)).ext y5 (by omega)).ext y6 (by omega)
  have ot6:=(((ot.ext y3 (λh=>h)).ext y4 (λh=>h)).ext y5 (by omega)).ext y6 (by omega)
  have l12:=cF (q5.ext y6 (by omega)) c5.l
  simp(disch:=omega)only[SV,l12]
  refine dJ op6 (by simpa using c5.l) (by simpa using c5.o) (by rw[dC k5.l k9.l];omega) λu7 q7 y7 t7=> ?_
  rw[aJZ,Xf k5.l c5.l]at q7
  have hPM7:=hPM6.wr op6 (IX k5.s k9.s) (RT k5.u k9.u) gp hp0 y7 t7 hlz (λc hc=>hcs3 c hc _ (by omega) (.inl (by omega)))
  have l13:=eS (q6.ext y7 (by omega)) c9.l
  simp(disch:=omega)only[SV,l13]
  refine pU (off:=7) q7 (by simpa using c9.l) (by simpa using c9.o) (by rw[dC c5.l k9.l];omega) λu8 q8 y8 t8=> ?_
  rw[aJZ,aqK c5.l k9.l c9.l]at q8
  have hPM8:=hPM7.wr q7 (IX c5.s k9.s) (RT c5.u k9.u) gp hp0 y8 t8 hlz (λc hc=>hcs3 c hc _ (by omega) (.inl (by omega)))
  have l16:=pF q8 (dC c5.l c9.l)
  have kee:∀e:Int,(e==e)=true:=λe=>by simp
  simp(disch:=omega)only[SV,l16,kee]
  have ot8:=(ot6.ext y7 (by omega)).ext y8 (by omega)
  refine rL ot8 rfl (dC c5.l c9.l) (Le c5.o c9.o) λu9 q9 y9 t9=> ?_
  refine eU q9 (by rw[dC c5.l c9.l];omega) ?_
  rw[aJY,aJH (by rw[dC c5.l c9.l];omega)]
  have hPM9:=hPM8.wr ot8 rfl (by intro x hx;simp only[aJK,aJN,or_false]at hx;rcases hx with rfl|rfl|rfl|rfl|rfl|rfl|rfl|rfl|rfl|rfl|rfl|rfl|rfl|rfl|rfl|rfl<;>rfl) gt ht0 y9 t9 hlz (λc hc=>hcs3 c hc _ (by omega) (.inl (by omega)))
  refine hK _ _ ⟨_,_,_,_,_,rfl,hPM9,hlog',λb hb=> .inl (hN3 b hb),hcsn, ?_⟩
  have y39:aL w3 u9 (λy=>y=pb∨y=tb):=by
   have a1:aL w3 u6 aT:=((y3.seq y4).trans y5 λy hy h=>by omega).trans y6 λy hy h=>by omega
   exact((((a1.mono λ_ _ h=>h.elim).seq (y7.mono λ_ _ h=> .inl h)).seq (y8.mono λ_ _ h=> .inl h)).seq (y9.mono λ_ _ h=> .inr h))
  exact x03.trans y39 λy hy h=>by omega
end
section
variable{w0 w w1:aL0}{N N1:Nat->Prop}{n p pb tb:Nat}{S:cG}{so:Option eT}{m:Gh}{lv0 sp:aL1}{cd cs:List aL1}{RR:aL1->aL0->Prop}
theorem aCV{S:cG}{s:eT}(hl:s.hv.length=s.man.leaves.length):(dV aX S s).2.1.nm=s.nm/\(dV aX S s).2.1.man=s.man/\(dV aX S s).2.1.hv.length=s.hv.length/\(dV aX S s).2.1.log=s.log:=by
 have hw:∀b,(bQ aX s.man b).length=s.hv.length:=λb=>by rw[hl];unfold bQ;simp
 unfold dV
 split
 .exact ⟨rfl,rfl,rfl,rfl⟩
 split
 .exact ⟨rfl,rfl,rfl,rfl⟩
 split
 .exact ⟨rfl,rfl,rfl,rfl⟩
 split
 .exact ⟨rfl,rfl,rfl,rfl⟩
 split
 .exact ⟨rfl,rfl,rfl,rfl⟩
 split
 .exact ⟨rfl,rfl,hw _,rfl⟩
 simp only
 split
 .exact ⟨rfl,rfl,hw _,rfl⟩
 .exact ⟨rfl,rfl,hw _,rfl⟩
theorem aCg{L:Nat}(h:PM w0 N1 w1 (n+3) S so m lv0 p sp cd cs)(x0:aL w0 w aT)(x1:aL w w1 aT)(hN1:∀b,N b->N1 b)(hS:Hd S)(hm:CM m)(hlz:¬fK lv0 (λy=>w0.heap.size<=y))
 (op:bD w1 pb (pV p sp cd cs)) (ot:bD w1 tb Z16) (hord:w.heap.size<=pb/\w.heap.size<=tb/\pb≠tb/\pb<w1.heap.size/\tb<w1.heap.size) (hNb:N1 pb/\N1 tb)
 (hcs:∀c∈cs,¬fK c (λy=>w.heap.size<=y)) (hlog:∀s,so=some s->s.log<=L) (hL:L<=100000000)
 (hK:∀r w',(∃S',Hd S'/\StR w0 N w n m lv0 p cs S' (L+13) r w')->RR r w'):
 KZ RR (.pointer (some ⟨pb,0,none⟩)) (.pointer (some ⟨tb,0,none⟩)) w1:=by
 have k5:=h.md.c5
 have k9:=(h.st.c9).1
 have z0:=x0.size
 have z1:=x1.size
 have hp0:w0.heap.size<=pb:=by omega
 have ht0:w0.heap.size<=tb:=by omega
 have nkp:∀b,N1 b->¬V5 w0 N1 b:=λb hb hk=>hk.2 hb
 have c1:w1.cell? ⟨pb,1,none⟩=some sp:=op.cell (off:=1)
 unfold KZ
 have hst:=h.st
 cases so with
 |none=>
  obtain⟨rfl,hcs0,_⟩:=hst
  have l16:=pF op (dC k5.l k9.l)
  simp(disch:=omega)only[SV,c1,aKY,l16]
  refine rL ot rfl (dC k5.l k9.l) (Le k5.o k9.o) λu9 q9 y9 t9=> ?_
  refine eU q9 (by rw[dC k5.l k9.l];omega) ?_
  rw[aJY,aJH (by rw[dC k5.l k9.l];omega)]
  have hPM9:=(h.le (aKJ n 3)).wr ot rfl (by intro x hx;simp only[aJK,aJN,or_false]at hx;rcases hx with rfl|rfl|rfl|rfl|rfl|rfl|rfl|rfl|rfl|rfl|rfl|rfl|rfl|rfl|rfl|rfl<;>rfl) hNb.2 ht0 y9 t9 hlz (λc hc hi=>hcs c hc (bO hi λb hb=>by omega))
  exact hK _ _ ⟨S,hS,_,_,_,_,_,rfl,hPM9,(λs hs=>nomatch hs),hN1,λc hc=> .inl hc,(x1.mono λ_ _ h=>h.elim).trans y9 λy hy hm=>by omega⟩
 |some s=>
  obtain⟨q,hv,rfl,rfl,hR,hz,hSes,hnm,hman,hlen⟩:=hst
  have hsl:=hlog s rfl
  have hBk:GN 2 S:=by
   obtain⟨D,sv,wv,_,_,h3⟩:=h.md
   exact h3.bk.le (by omega)
  have hfs:∀{k:ByteArray} b,bF k S.seen=some b->b.length<=65535:=λ{k} b hb=>(hS.se.2 _ (Rd hb)).2
  simp(disch:=omega)only[SV,c1,aKI]
  refine(VU hSes hBk (λb hb=>by have:=hfs b hb;omega)).mono ?_
  rintro r' v3 ⟨rfl,hSes3,x3⟩
  have op3:=op.ext x3 (nkp _ hNb.1)
  have ot3:=ot.ext x3 (nkp _ hNb.2)
  have hd3:=h.md.prog x3
  have hR3:Uk v3 s lv0 hv:=⟨hR.man,dS hR.lv x3 λhi=>hlz (bO hi λb hb=>hb.1),hR.hv.ext x3 hz,hR.ep,hR.lg,hR.hl,hR.nl⟩
  have l40:(aB 40 (.pointer (some ⟨pb,2,none⟩))).run pg v3= .ok (.value (.agg cd.toArray)) v3:=by
   have:=bW (off:=2) op3 (by rw[dC k5.l k9.l];omega)
   rwa [aiD k5.l]at this
  have l47:(aB 47 (.pointer (some ⟨pb,7,none⟩))).run pg v3= .ok (.value (.agg (yU s lv0 hv).toArray)) v3:=by
   have:=wL (off:=7) op3 (by rw[dC k5.l k9.l];omega)
   rwa [aDS k5.l k9.l]at this
  simp(disch:=omega)only[SV,l40,l47]
  refine(azA (N:=n) (hd3.le (by omega)) hR3 (λb hb=>by have:=hfs b hb;omega)).mono ?_
  rintro r'' w3 ⟨dv',hv',rfl,hd4,hR4,hN4,x4⟩
  obtain⟨ce,rfl,-,-,-,-⟩:=hd4.cs
  have hlk:=aCV (S:=S) (s:=s) (by rw[hlen,hman])
  obtain⟨P,hPe⟩:∃P,P=dV aX S s:=⟨_,rfl⟩
  have hSP:Hd P.1:=by rw[hPe];exact aFW hS hnm
  rw[<-hPe]at hlk hd4 hR4 hN4 hSes3⊢
  obtain⟨N3,hN3e⟩:∃N3,N3=NR N1 v3 w3:=⟨_,rfl⟩
  have hPM:PM w0 N3 w3 n P.1 (some P.2.1) m lv0 p (dP q) ce (yU P.2.1 lv0 hv'):=by
   rw[hN3e]
   exact⟨uA.model hd4 x4.size,q,hv',rfl,rfl,hR4,aDf hN4 hz,hSes3.addR x4,by rw[hlk.1];exact hnm,by rw[hlk.2.1];exact hman,by rw[hlk.2.2.1];exact hlen⟩
  have hp3:N3 pb:=by rw[hN3e];exact .inl hNb.1
  have ht3:N3 tb:=by rw[hN3e];exact .inl hNb.2
  have hN3:∀b,N b->N3 b:=λb hb=>by rw[hN3e];exact .inl (hN1 b hb)
  have op:=op3.ext x4 (λh=>h)
  have ot:=ot3.ext x4 (λh=>h)
  have z3:=x3.size
  have z4:=x4.size
  obtain⟨cs',hcs'⟩:∃cs',cs'=yU P.2.1 lv0 hv':=⟨_,rfl⟩
  rw[<-hcs']at hPM⊢
  have hnw:=aAS (w:=v3) (s:=s) (s':=P.2.1) (lv0:=lv0) (hv:=hv) (hv':=hv') (aAv hN4)
  rw[<-hcs']at hnw
  have hold:∀c∈cs',¬fK c (λy=>w3.heap.size<=y):=by
   intro c hc
   rw[hcs']at hc
   simp only[aJK,aJN,or_false]at hc
   rcases hc with rfl|rfl|rfl|rfl|rfl|rfl|rfl|rfl|rfl<;>first|exactλhi=>hi|exactλhi=>hlz (bO hi λb hb=>by omega)|exact hR4.hv.old
  have hloc:∀c∈cs',∀y,w.heap.size<=y->(y<w1.heap.size∨w3.heap.size<=y)->¬fK c (λb=>b=y):=by
   intro c hc y hy hyy hi
   rcases hyy with hyy|hyy
   .rcases hnw c hc with h1|rfl|h1
    .exact hcs c h1 (bO hi λb hb=>by omega)
    .exact hlz (bO hi λb hb=>by omega)
    .exact h1 _ (λb hb=>by omega) hi
   .exact hold c hc (bO hi λb hb=>by omega)
  have hlog':∀s',some P.2.1=some s'->s'.log<=L+13:=λs' h=>by cases h;have:=hlk.2.2.2;omega
  have hcsn:CsN w lv0 (yU s lv0 hv) cs':=λc hc=>by
   rcases hnw c hc with h1|h1|h1
   .exact .inl h1
   .exact .inr (.inl h1)
   .exact .inr (.inr λM hM=>h1 M λb hb=>by have:=hM b hb;omega)
  have x03:aL w w3 (V5 w0 N):=((x1.mono λ_ _ h=>h.elim).seq (x3.mono λ_ _ h=>⟨h.1,λhn=>h.2 (hN1 _ hn)⟩)).seq (x4.mono λ_ _ h=>h.elim)
  have hK:∀r w',StR w0 N w n m lv0 p (yU s lv0 hv) P.1 (L+13) r w'->RR r w':=λr w' h=>hK r w' ⟨P.1,hSP,h⟩
  have c5:=hPM.md.c5
  obtain⟨c9,-⟩:=hPM.st.c9
  simp(disch:=omega)only[SV]
  refine aV λu3 q3 y3 t3=> ?_
  refine bP λu4 q4 y4 t4=> ?_
  have hPM4:=hPM.newR (y3.seq y4)
  have g3:NR N3 w3 u4 w3.heap.size:= .inr ⟨aJO _,by omega⟩
  have g4:NR N3 w3 u4 u3.heap.size:= .inr ⟨by omega,by omega⟩
  have gp:NR N3 w3 u4 pb:= .inl hp3
  have gt:NR N3 w3 u4 tb:= .inl ht3
  have q3:=q3.ext y4 (λh=>h)
  have hcs3:∀c∈cs',∀y,w.heap.size<=y->(y<w1.heap.size∨w3.heap.size<=y)->¬fK c (λb=>b=y):=hloc
  have lt3:=op.lt
  have hltt:=ot.lt
  refine cR q3 rfl c5.l c5.o λu5 q5 y5 t5=> ?_
  have hPM5:=hPM4.wr q3 rfl (by intro x hx;simp only[aJK,aJN,or_false]at hx;rcases hx with rfl|rfl|rfl|rfl|rfl<;>rfl) g3 (by omega) y5 t5 hlz (λc hc=>hcs3 c hc _ (by omega) (.inr (by omega)))
  refine fL (q4.ext y5 (by omega)) rfl c9.l c9.o λu6 q6 y6 t6=> ?_
  have hPM6:=hPM5.wr (q4.ext y5 (by omega)) rfl (by intro x hx;simp only[aJK,aJN,or_false]at hx;rcases hx with rfl|rfl|rfl|rfl|rfl|rfl|rfl|rfl|rfl<;>rfl) g4 (by omega) y6 t6 hlz (λc hc=>hcs3 c hc _ (by omega) (.inr (by omega)))
  have op6:=(((op.ext y3 (λh=>h)).ext y4 (λh=>h)).ext y5 (by omega)).ext y6 (by omega)
  have ot6:=(((ot.ext y3 (λh=>h)).ext y4 (λh=>h)).ext y5 (by omega)).ext y6 (by omega)
  have l12:=cF (q5.ext y6 (by omega)) c5.l
  simp(disch:=omega)only[SV,l12]
  refine dJ op6 (by simpa using c5.l) (by simpa using c5.o) (by rw[dC k5.l k9.l];omega) λu7 q7 y7 t7=> ?_
  rw[aJZ,Xf k5.l c5.l]at q7
  have hPM7:=hPM6.wr op6 (IX k5.s k9.s) (RT k5.u k9.u) gp hp0 y7 t7 hlz (λc hc=>hcs3 c hc _ (by omega) (.inl (by omega)))
  have l13:=eS (q6.ext y7 (by omega)) c9.l
  simp(disch:=omega)only[SV,l13]
  refine pU (off:=7) q7 (by simpa using c9.l) (by simpa using c9.o) (by rw[dC c5.l k9.l];omega) λu8 q8 y8 t8=> ?_
  rw[aJZ,aqK c5.l k9.l c9.l]at q8
  have hPM8:=hPM7.wr q7 (IX c5.s k9.s) (RT c5.u k9.u) gp hp0 y8 t8 hlz (λc hc=>hcs3 c hc _ (by omega) (.inl (by omega)))
  have l16:=pF q8 (dC c5.l c9.l)
  have kee:∀e:Int,(e==e)=true:=λe=>by simp
  simp(disch:=omega)only[SV,l16,kee]
  have ot8:=(ot6.ext y7 (by omega)).ext y8 (by omega)
  refine rL ot8 rfl (dC c5.l c9.l) (Le c5.o c9.o) λu9 q9 y9 t9=> ?_
  refine eU q9 (by rw[dC c5.l c9.l];omega) ?_
  rw[aJY,aJH (by rw[dC c5.l c9.l];omega)]
  have hPM9:=hPM8.wr ot8 rfl (by intro x hx;simp only[aJK,aJN,or_false]at hx;rcases hx with rfl|rfl|rfl|rfl|rfl|rfl|rfl|rfl|rfl|rfl|rfl|rfl|rfl|rfl|rfl|rfl<;>rfl) gt ht0 y9 t9 hlz (λc hc=>hcs3 c hc _ (by omega) (.inl (by omega)))
  refine hK _ _ ⟨_,_,_,_,_,rfl,hPM9,hlog',λb hb=> .inl (hN3 b hb),hcsn, ?_⟩
  have y39:aL w3 u9 (λy=>y=pb∨y=tb):=by
   have a1:aL w3 u6 aT:=((y3.seq y4).trans y5 λy hy h=>by omega).trans y6 λy hy h=>by omega
   exact((((a1.mono λ_ _ h=>h.elim).seq (y7.mono λ_ _ h=> .inl h)).seq (y8.mono λ_ _ h=> .inl h)).seq (y9.mono λ_ _ h=> .inr h))
  exact x03.trans y39 λy hy h=>by omega
end
theorem aCJ(x:Int)(m:Nat)(hm:m<=1000):∃j:Nat,j<=m/\acA .i64 x (m:Int)=(j:Int):=by
 unfold acA
 have h1:(BitVec.ofInt IntKind.i64.bits x&&&BitVec.ofInt IntKind.i64.bits (m:Int)).toNat<=m:=by
  rw[BitVec.toNat_and]
  refine aK5 Nat.and_le_right ?_
  rw[BitVec.ofInt_natCast,BitVec.toNat_ofNat]
  exact Nat.mod_le _ _
 exact⟨_,h1,dG (by omega) (by omega)⟩
theorem auK{S:cG}{m:Gh}{s:eT}(hf:∀{k:ByteArray} b,bF k S.seen=some b->b.length<=65535)(h:(sY aX aY S sF m).2.1=some s):s.log<=65548:=by
 have hb:(fU S (qA S sF m)).2.1.log<=65548:=by
  have hl:=(Ni (S:=S) (s:=qA S sF m)).2.2.2.2
  have hrd:(bS S (cZ (qA S sF m).nm)).1.length<=65535:=by
   unfold bS
   split
   .simp
   .split
    .simp
    .rename_i hg
     exact hf _ hg
  unfold fU
  split
  .show 0<=_;omega
  .split
   .show 0<=_;omega
   .simp only
    have hl2:=RC aY (bS S (cZ (qA S sF m).nm)).1.length (bS S (cZ (qA S sF m).nm)).1
    have hl3:13*(gB aY (bS S (cZ (qA S sF m).nm)).1).length<=(bS S (cZ (qA S sF m).nm)).1.length:=hl2
    unfold bZ
    simp only
    split
    .show 13*_+13<=_;omega
    .show 13*_<=_;omega
 rw[Er]at h
 split at h
 .cases h
 .split at h
  .cases h
  .unfold KS at h
   split at h
   .split at h
    .cases h
    .have h:some (fU S (qA S sF m)).2.1=some s:=h
     injection h with h
     rw[<-h];exact hb
   .split at h
    .cases h
    .split at h
     .cases h
     .have h:some ({(fU S (qA S sF m)).2.1 with hv:=nH (fU S (qA S sF m)).2.2.2 (bQ aX (fU S (qA S sF m)).2.1.man (cC (fU S (qA S sF m)).1 (fU S (qA S sF m)).2.1).2.1) (fU S (qA S sF m)).2.1.man.leaves.length}:eT)=some s:=h
      injection h with h
      rw[<-h];exact hb
theorem Wc.disk {w0 w:aL0}{N:Nat->Prop}{S S':cG}{m:Gh}{lv0 sp R:aL1}{p:Nat}{cs:List aL1}{so:Option eT}{F:FuncId}{args:Array aL1}(h:Wc w0 N w S m lv0 p sp cs so)(hlz:¬fK lv0 (λy=>w0.heap.size<=y))(hop:∀X D,fS w p X D S->(∀b,X b->w0.heap.size<=b/\¬N b)->aG pg F args w (λr w'=>r=R/\CA w p X D S' w')):
 aG pg F args w (λr w'=>r=R/\Wc w0 N w' S' m lv0 p sp cs so/\aL w w' (V5 w0 N)):=by
 cases so with
 |none=>
  obtain⟨h1,h2,X,D,hd,hX,x0,hN⟩:=h
  refine(hop X D hd hX).mono ?_
  rintro r w' ⟨rfl,hp⟩
  obtain⟨a,b⟩:=D8.post hd hX x0 hN hp
  exact⟨rfl,⟨h1,h2,a⟩,b⟩
 |some s=>
  obtain⟨q,hv,h1,h2,h3,h4,⟨X,D,Y,lv,hvv,hst,x0,hN⟩,h6⟩:=h
  have hX:∀b,X b->w0.heap.size<=b/\¬N b:=λb hb=>⟨hst.lo b (.inl hb),λhn=>(hN b hn).2 (.inl hb)⟩
  refine(hop X D hst.dsk hX).mono ?_
  rintro r w' ⟨rfl,hp⟩
  obtain⟨a,x⟩:=KH.disk hst x0 hN hp
  exact⟨rfl,⟨q,hv,h1,h2,⟨h3.man,dS h3.lv x λhi=>hlz (bO hi λb hb=>hb.1),h3.hv.ext x h4,h3.ep,h3.lg,h3.hl,h3.nl⟩,h4,a,h6⟩,x⟩
section
variable{w0 w w1:aL0}{N N1:Nat->Prop}{n p pb tb:Nat}{S:cG}{so:Option eT}{m:Gh}{lv0 sp:aL1}{cd cs:List aL1}{RR:aL1->aL0->Prop}
theorem uA.left {Z:Nat->Prop}{w:aL0}{cd:List aL1}(h:uA Z n w S (.agg cd.toArray))(j:Nat)(hj:j<=15):uA Z n w {S with left:=(j:Int)} (.agg (cd.set 3 (.int .i64 (j:Nat))).toArray):=by
 obtain⟨D,sv,wv,hcd,h2,h3⟩:=h
 have hcd:cd=AM D sv wv:=by
  injection hcd with e
  have:=congrArg Array.toList e
  simpa using this
 subst hcd
 refine⟨{D with left:=(j:Int)},sv,wv,rfl,⟨h2.sure,h2.way,h2.wz⟩,⟨aEk h3.sim _,⟨⟨?_,h3.bk.bd.seen,h3.bk.bd.under,h3.bk.bd.room⟩,h3.bk.sz,h3.bk.un⟩,⟨h3.rb.fs,h3.rb.ops,h3.rb.len⟩,h3.len⟩⟩
 show-1<=(j:Int)/\(j:Int)<=9223372036854775807
 omega
theorem Wc.like {w:aL0}{S':cG}(h:Wc w0 N w S' m lv0 p sp cs so):Wc w0 N w S' m lv0 p sp cs so:=h
theorem azM{a:arU}{bv kv:aL1}{ab L:Nat}(h:PM w0 N1 w1 (n+3) S so m lv0 p sp cd cs)(x0:aL w0 w aT)(x1:aL w w1 aT)(hN1:∀b,N b->N1 b)(hS:Hd S)(hlz:¬fK lv0 (λy=>w0.heap.size<=y))
 (op:bD w1 pb (pV p sp cd cs)) (oa:bD w1 ab (aC a bv kv)) (ot:bD w1 tb Z16) (hord:w.heap.size<=pb/\w.heap.size<=ab/\w.heap.size<=tb/\pb≠tb/\pb<w1.heap.size/\tb<w1.heap.size) (hNb:N1 pb/\N1 ab/\N1 tb)
 (hcs:∀c∈cs,¬fK c (λy=>w.heap.size<=y)) (hlog:∀s,so=some s->s.log<=L)
 (hK:∀r w',(∃S',Hd S'/\StR w0 N w n m lv0 p cs S' (L+13) r w')->RR r w'):
 La RR (.pointer (some ⟨pb,0,none⟩)) (.pointer (some ⟨ab,0,none⟩)) (.pointer (some ⟨tb,0,none⟩)) w1:=by
 have k5:=h.md.c5
 obtain⟨k9,a0,hsp⟩:=h.st.c9
 have z0:=x0.size
 have z1:=x1.size
 have hp0:w0.heap.size<=pb:=by omega
 have ht0:w0.heap.size<=tb:=by omega
 have nkp:∀b,N1 b->¬V5 w0 N1 b:=λb hb hk=>hk.2 hb
 have c0:w1.cell? ⟨pb,0,none⟩=some (dP p):=op.cell (off:=0)
 have a5:w1.cell? ⟨ab,5,none⟩=some (.int .i64 a.stop):=oa.cell (off:=5)
 obtain⟨j,hj,hje⟩:=aCJ a.stop 15 (by omega)
 have hje:acA .i64 a.stop 15=(j:Int):=hje
 unfold La
 simp(disch:=omega)only[SV,c0,a5,hje]
 refine(Wc.disk (R:= .tuple #[]) (S':={S with left:=(j:Int)}) h.st hlz (λX D hd _=> ?_)).mono ?_
 .have:=aHl (a:=(j:Int)) hd
  rw[show max (j:Int) (-1)=(j:Int)by omega]at this
  exact this
 rintro r w2 ⟨rfl,hst,x2⟩
 have op2:=op.ext x2 (nkp _ hNb.1)
 have oa2:=oa.ext x2 (nkp _ hNb.2.1)
 have ot2:=ot.ext x2 (nkp _ hNb.2.2)
 have a52:w2.cell? ⟨ab,5,none⟩=some (.int .i64 a.stop):=oa2.cell (off:=5)
 have hd2:=(h.md.prog x2).left j hj
 have hPM:PM w0 N1 w2 (n+3) {S with left:=(j:Int)} so m lv0 p sp (cd.set 3 (.int .i64 (j:Nat))) cs:=⟨hd2,hst⟩
 have c5:=hPM.md.c5
 simp(disch:=omega)only[SV,a52,hje]
 refine DD op2 rfl (by rw[dC k5.l k9.l];omega) λw3 o3 x3 s3=> ?_
 have o3:bD w3 pb (pV p sp (cd.set 3 (.int .i64 (j:Nat))) cs):=by
  have e:(pV p sp cd cs).set (2+3) (.int .i64 (j:Nat))=pV p sp (cd.set 3 (.int .i64 (j:Nat))) cs:=by
   match cd,k5.l with
   |[a,b,c,d,e],_=>rfl
  rw[<-e];exact o3
 subst hsp
 have hPM3:=hPM.wr op2 (IX k5.s k9.s) (RT k5.u k9.u) hNb.1 hp0 x3 s3 hlz (λc hc hi=>hcs c hc (bO hi λb hb=>by omega))
 have l16:=pF o3 (dC c5.l k9.l)
 simp(disch:=omega)only[SV,l16]
 have ot3:=ot2.ext x3 (λh=>hord.2.2.2.1 h.symm)
 refine rL ot3 rfl (dC c5.l k9.l) (Le c5.o k9.o) λu9 q9 y9 t9=> ?_
 refine eU q9 (by rw[dC c5.l k9.l];omega) ?_
 rw[aJY,aJH (by rw[dC c5.l k9.l];omega)]
 have hPM9:=(hPM3.le (aKJ n 3)).wr ot3 rfl (by intro x hx;simp only[aJK,aJN,or_false]at hx;rcases hx with rfl|rfl|rfl|rfl|rfl|rfl|rfl|rfl|rfl|rfl|rfl|rfl|rfl|rfl|rfl|rfl<;>rfl) hNb.2.2 ht0 y9 t9 hlz (λc hc hi=>hcs c hc (bO hi λb hb=>by omega))
 refine hK _ _ ⟨{S with left:=(j:Int)},⟨hS.se,hS.su,hS.un,hS.rm⟩,_,_,_,_,_,rfl,hPM9,λs hs=>by have:=hlog s hs;omega,hN1,λc hc=> .inl hc, ?_⟩
 exact(((x1.mono λ_ _ h=>h.elim).seq (x2.mono λ_ _ h=>⟨h.1,λhn=>h.2 (hN1 _ hn)⟩)).trans x3 λy hy hm=>by omega).trans y9 λy hy hm=>by omega
theorem akR{mb L:Nat}{S0:cG}(h:PM w0 N1 w1 (n+3) S so m lv0 p sp cd cs)(hg:nQ w0)(x0:aL w0 w aT)(x1:aL w w1 (V5 w0 N))(hN1:∀b,N b->N1 b)(hS:Hd S)(hm:CM m)(hlv:Cl w1 32 lv0 m.leaves.length (V6 m.leaves))(hlz:¬fK lv0 (λy=>w0.heap.size<=y))(x01:aL w0 w1 aT)
 (op:bD w1 pb (pV p sp cd cs)) (om:bD w1 mb (xV m lv0)) (ot:bD w1 tb Z16) (hord:w.heap.size<=pb/\w.heap.size<=mb/\w.heap.size<=tb/\pb≠tb/\pb<w1.heap.size/\tb<w1.heap.size) (hNb:N1 pb/\N1 tb)
 (hcs:∀c∈cs,¬fK c (λy=>w.heap.size<=y)) (hlog:∀s,so=some s->s.log<=L) (hL:65535<=L)
 (hK:∀r w',(∃S',Hd S'/\StR w0 N w n m lv0 p cs S' (L+13) r w')->RR r w'):
 Ff RR (.pointer (some ⟨pb,0,none⟩)) (.pointer (some ⟨mb,0,none⟩)) (.pointer (some ⟨tb,0,none⟩)) w1:=by
 have k5:=h.md.c5
 obtain⟨k9,a0,hsp⟩:=h.st.c9
 have z0:=x0.size
 have z1:=x1.size
 have l16:=pF op (dC k5.l k9.l)
 have lm:(aB 30 (.pointer (some ⟨mb,0,none⟩))).run pg w1= .ok (.value (.agg (xV m lv0).toArray)) w1:=gA (off:=0) om (by simp)
 unfold Ff
 simp(disch:=omega)only[SV,l16,lm]
 obtain⟨S',so',e,hO⟩:∃S' so' e,sY aX aY S sF m=(S',so',e):=⟨_,_,_,rfl⟩
 have hSo:Hd S':=by have:=awE (m:=m) hS;rw[hO]at this;exact this
 have hol:∀s,so'=some s->s.log<=65548:=by
  intro s hs
  have:=auK (S:=S) (m:=m) (s:=s) (λb hb=>(hS.se.2 _ (Rd hb)).2) (by rw[hO];exact hs)
  exact this
 refine(auL h hg x01 hm hlv hlz (by have:=WB hS.se;omega) hO (λc hc hi=>hcs c hc (bO hi λb hb=>by omega))).mono ?_
 rintro r w2 ⟨N',so'',sp'',cd',cs'',rfl,hPM,j1,j2,hN',hcn,x2⟩
 have c5:=hPM.md.c5
 obtain⟨c9,a1,hsp1⟩:=hPM.st.c9
 subst hsp1
 have z2:=x2.size
 have ot2:=ot.ext x2 (λhk=>hk.2 hNb.2)
 simp(disch:=omega)only[SV]
 refine rL ot2 rfl (dC c5.l c9.l) (Le c5.o c9.o) λu9 q9 y9 t9=> ?_
 refine eU q9 (by rw[dC c5.l c9.l];omega) ?_
 rw[aJY,aJH (by rw[dC c5.l c9.l];omega)]
 have hcst:∀c∈cs'',¬fK c (λy=>y=tb):=hcn.of (λb hb=>by omega) (λhi=>hlz (bO hi λb hb=>by omega)) (λc hc hi=>hcs c hc (bO hi λb hb=>by omega))
 have hPM9:=hPM.wr ot2 rfl (by intro x hx;simp only[aJK,aJN,or_false]at hx;rcases hx with rfl|rfl|rfl|rfl|rfl|rfl|rfl|rfl|rfl|rfl|rfl|rfl|rfl|rfl|rfl|rfl<;>rfl) (hN' _ hNb.2) (by omega) y9 t9 hlz hcst
 refine hK _ _ ⟨S',hSo,_,_,_,_,_,rfl,hPM9, ?_,λb hb=>hN' b (hN1 b hb), ?_, ?_⟩
 .intro s hs
  cases so' with
  |none=>rw[j1 rfl]at hs;have:=hlog s hs;omega
  |some s'=>rw[j2 s' rfl]at hs;cases hs;have:=hol s rfl;omega
 .intro c hc
  rcases hcn c hc with h1|h1|h1
  .exact .inl h1
  .exact .inr (.inl h1)
  .exact .inr (.inr λM hM=>h1 M λb hb=>by have:=hM b hb;omega)
 .exact (x1.seq (x2.mono λ_ _ h=>⟨h.1,λhn=>h.2 (hN1 _ hn)⟩)).trans y9 λy hy hm=>by omega
end
theorem Wc.newR {w0 w w':aL0}{N:Nat->Prop}{S:cG}{m:Gh}{lv0 sp:aL1}{p:Nat}{cs:List aL1}{so:Option eT}(h:Wc w0 N w S m lv0 p sp cs so)(x:aL w w' aT):Wc w0 (NR N w w') w' S m lv0 p sp cs so:=by
 cases so with
 |none=>exact⟨h.1,h.2.1,h.2.2.addR x⟩
 |some s=>
  obtain⟨q,hv,h1,h2,h3,h4,h5,h6⟩:=h
  exact⟨q,hv,h1,h2,h3.new x,λhi=>h4 (bO hi λb hb=>aqF hb),h5.addR x,h6⟩
section
variable{w0 w w1:aL0}{N N1:Nat->Prop}{n p pb tb:Nat}{S:cG}{so:Option eT}{m:Gh}{lv0 sp:aL1}{cd cs:List aL1}{RR:aL1->aL0->Prop}
theorem awG{a:arU}{bv kv:aL1}{ab mb L:Nat}(h:PM w0 N1 w1 (n+3) S so m lv0 p sp cd cs)(hg:nQ w0)(x0:aL w0 w aT)(x1:aL w w1 aT)(hN1:∀b,N b->N1 b)(hS:Hd S)(hm:CM m)(hlv:Cl w1 32 lv0 m.leaves.length (V6 m.leaves))(hlz:¬fK lv0 (λy=>w0.heap.size<=y))
 (hkv:Sl w1 kv (a.keep.map Value.bool)) (hkz:¬fK kv (λy=>w0.heap.size<=y)) (hkl:a.keep.length<=9223372036854775807)
 (op:bD w1 pb (pV p sp cd cs)) (om:bD w1 mb (xV m lv0)) (oa:bD w1 ab (aC a bv kv)) (ot:bD w1 tb Z16) (hord:w.heap.size<=pb/\w.heap.size<=mb/\w.heap.size<=ab/\w.heap.size<=tb/\pb≠tb/\pb≠mb/\pb≠ab/\pb<w1.heap.size/\tb<w1.heap.size) (hNb:N1 pb/\N1 mb/\N1 ab/\N1 tb)
 (hcs:∀c∈cs,¬fK c (λy=>w.heap.size<=y)) (hlog:∀s,so=some s->s.log<=L) (hL:65535<=L)
 (hK:∀r w',(∃S',Hd S'/\StR w0 N w n m lv0 p cs S' (L+13) r w')->RR r w'):
 Lb RR (.pointer (some ⟨pb,0,none⟩)) (.pointer (some ⟨mb,0,none⟩)) (.pointer (some ⟨ab,0,none⟩)) (.pointer (some ⟨tb,0,none⟩)) w1:=by
 have k5:=h.md.c5
 obtain⟨k9,a0,hsp⟩:=h.st.c9
 have z0:=x0.size
 have z1:=x1.size
 have nkp:∀b,N1 b->¬V5 w0 N1 b:=λb hb hk=>hk.2 hb
 have c0:w1.cell? ⟨pb,0,none⟩=some (dP p):=op.cell (off:=0)
 have a4:w1.cell? ⟨ab,4,none⟩=some kv:=oa.cell (off:=4)
 obtain⟨D0,sv0,wv0,_,_,hRK⟩:=id h.md
 unfold Lb
 simp(disch:=omega)only[SV,c0,a4]
 refine(Wc.disk (R:= .tuple #[]) (S':=crS S a.keep) h.st hlz (λX D hd hX=> ?_)).mono ?_
 .refine aE4 hd hkv (λhi=>hkz (bO hi λb hb=>(hX b hb).1)) hkl (by have:=hRK.bk.un;omega) (λi _=>by have:=WB (afX (ks:=a.keep) hS.su hS.un i);omega) λo ho=> ?_
  have:=(hRK.rb.ops o (by rw[hRK.sim.wy];exact ho)).2
  omega
 rintro r w2 ⟨rfl,hst,x2⟩
 have op2:=op.ext x2 (nkp _ hNb.1)
 have om2:=om.ext x2 (nkp _ hNb.2.1)
 have oa2:=oa.ext x2 (nkp _ hNb.2.2.1)
 have ot2:=ot.ext x2 (nkp _ hNb.2.2.2)
 have a42:w2.cell? ⟨ab,4,none⟩=some kv:=oa2.cell (off:=4)
 have hkv2:=hkv.ext x2 λhi=>hkz (bO hi λb hb=>hb.1)
 have l40:(aB 40 (.pointer (some ⟨pb,2,none⟩))).run pg w2= .ok (.value (.agg cd.toArray)) w2:=by
  have:=bW (off:=2) op2 (by rw[dC k5.l k9.l];omega)
  rwa [aiD k5.l]at this
 have hSc:=aHj (ks:=a.keep) hS
 simp(disch:=omega)only[SV,l40,a42]
 refine(aB6 (h.md.prog x2) hkv2 hkl (by have:=WB hSc.se;omega)).mono ?_
 rintro r w3 ⟨hd3,x3⟩
 obtain⟨ce,rfl,-,-,-,-⟩:=hd3.cs
 have z2:=x2.size
 have z3:=x3.size
 have op3:=op2.ext x3 (λh=>h)
 have hPM:PM w0 (NR N1 w2 w3) w3 (n+3) (crS S a.keep) so m lv0 p sp ce cs:=⟨uA.model hd3 x3.size,hst.newR x3⟩
 have c5:=hPM.md.c5
 refine dJ op3 (by simpa using c5.l) (by simpa using c5.o) (by rw[dC k5.l k9.l];omega) λw4 o4 x4 s4=> ?_
 rw[aJZ,Xf k5.l c5.l]at o4
 subst hsp
 have hPM4:=hPM.wr op3 (IX k5.s k9.s) (RT k5.u k9.u) (.inl hNb.1) (by omega) x4 s4 hlz (λc hc hi=>hcs c hc (bO hi λb hb=>by omega))
 have x14:aL w w4 (V5 w0 N):=(((x1.mono λ_ _ h=>h.elim).seq (x2.mono λ_ _ h=>⟨h.1,λhn=>h.2 (hN1 _ hn)⟩)).seq (x3.mono λ_ _ h=>h.elim)).trans x4 λy hy hm=>by omega
 have x04:aL w0 w4 aT:=x0.trans x14 λy hy hk=>by have:=hk.1;omega
 have hlv4:Cl w4 32 lv0 m.leaves.length (V6 m.leaves):=dS (dS (dS hlv x2 λhi=>hlz (bO hi λb hb=>hb.1)) x3 (bC _)) x4 λhi=>hlz (bO hi λb hb=>by omega)
 have key:=akR (S0:=S) (mb:=mb) (L:=L) (RR:=RR) hPM4 hg x0 x14 (λb hb=> .inl (hN1 b hb)) hSc hm hlv4 hlz x04 o4 ((om2.ext x3 (λh=>h)).ext x4 (by omega)) ((ot2.ext x3 (λh=>h)).ext x4 (by omega)) (by omega) ⟨.inl hNb.1,.inl hNb.2.2.2⟩ hcs hlog hL hK
 exact key
end
section
variable{w0 w w1:aL0}{N N1:Nat->Prop}{n p pb tb:Nat}{S:cG}{so:Option eT}{m:Gh}{lv0 sp:aL1}{cd cs:List aL1}{RR:aL1->aL0->Prop}
theorem awH{a:arU}{bv kv:aL1}{ab L:Nat}(h:PM w0 N1 w1 (n+3) S so m lv0 p sp cd cs)(x0:aL w0 w aT)(x1:aL w w1 aT)(hN1:∀b,N b->N1 b)(hS:Hd S)(hlz:¬fK lv0 (λy=>w0.heap.size<=y))
 (hb:Bs w1 bv a.bytes) (hbz:¬fK bv (λy=>w0.heap.size<=y)) (hbl:a.bytes.length<=1000) (hnm:a.name<256) (hps: -9223372036854775808<=a.pos/\a.pos<=1073741824)
 (op:bD w1 pb (pV p sp cd cs)) (oa:bD w1 ab (aC a bv kv)) (ot:bD w1 tb Z16) (hord:w.heap.size<=pb/\w.heap.size<=ab/\w.heap.size<=tb/\pb≠tb/\pb<w1.heap.size/\tb<w1.heap.size) (hNb:N1 pb/\N1 ab/\N1 tb)
 (hcs:∀c∈cs,¬fK c (λy=>w.heap.size<=y)) (hlog:∀s,so=some s->s.log<=L)
 (hK:∀r w',(∃S',Hd S'/\StR w0 N w n m lv0 p cs S' (L+13) r w')->RR r w'):
 Lc RR (.pointer (some ⟨pb,0,none⟩)) (.pointer (some ⟨ab,0,none⟩)) (.pointer (some ⟨tb,0,none⟩)) w1:=by
 have k5:=h.md.c5
 obtain⟨k9,a0,hsp⟩:=h.st.c9
 have z0:=x0.size
 have z1:=x1.size
 have nkp:∀b,N1 b->¬V5 w0 N1 b:=λb hb hk=>hk.2 hb
 have cl:∀{W k v},aL w1 W aT->(aC a bv kv)[k]?=some v->W.cell? ⟨ab,k,none⟩=some v:=λ{W k v} x hk=>by rw[(oa.ext x (λh=>h)).cell];exact hk
 have cp:∀{W},aL w1 W aT->W.cell? ⟨pb,0,none⟩=some (dP p):=λ{W} x=>(op.ext x (λh=>h)).cell (off:=0)
 have xd:=aL.dr w1 aT
 have c0:=cp xd
 have a6:(dr w1).cell? ⟨ab,6,none⟩=some (.int .u8 (a.name:Nat)):=cl xd rfl
 obtain⟨D0,sv0,wv0,_,_,hRK⟩:=id h.md
 unfold Lc Uv
 simp(disch:=omega)only[SV,c0,a6]
 refine(afS hnm).mono ?_
 rintro r w2 ⟨rfl,y2⟩
 have x2:=xd.seq y2
 have c02:=cp x2
 have a72:w2.cell? ⟨ab,7,none⟩=some (.int .i64 a.pos):=cl x2 rfl
 have a22:w2.cell? ⟨ab,2,none⟩=some bv:=cl x2 rfl
 have a7d:(dr w1).cell? ⟨ab,7,none⟩=some (.int .i64 a.pos):=cl xd rfl
 have a2d:(dr w1).cell? ⟨ab,2,none⟩=some bv:=cl xd rfl
 have h2:=h.new x2
 simp(disch:=omega)only[SV,c02,a72,a22,a7d,a2d]
 obtain⟨nm,hnme⟩:∃nm,nm=nmK (a.name%4):=⟨_,rfl⟩
 have hn4:nm4 nm:=hnme▸aH3 _
 rw[<-hnme]
 refine(Wc.disk (R:= .int .i64 (zU S nm a.pos a.bytes).2) (S':=(zU S nm a.pos a.bytes).1) h2.st hlz (λX D hd hX=>Wz hd hRK.bk.bd (hb.ext x2 (bC _)) (by omega) (by omega) hps.1)).mono ?_
 rintro r w3 ⟨rfl,hst,x3⟩
 have hS3:Hd (zU S nm a.pos a.bytes).1:=SS hS hn4
 have op3:=(op.ext x2 (λh=>h)).ext x3 (nkp _ hNb.1)
 have oa3:=(oa.ext x2 (λh=>h)).ext x3 (nkp _ hNb.2.1)
 have ot3:=(ot.ext x2 (λh=>h)).ext x3 (nkp _ hNb.2.2)
 have hd3:=h2.md.prog x3
 have hb3:Bs w3 bv a.bytes:=(hb.ext x2 (bC _)).ext x3 λhi=>hbz (bO hi λb hb=>hb.1)
 have z2:=x2.size
 have z3:=x3.size
 have ld:∀{W},aL w3 W aT->(aB 40 (.pointer (some ⟨pb,2,none⟩))).run pg W= .ok (.value (.agg cd.toArray)) W:=λ{W} x=>by
  have:=bW (off:=2) (op3.ext x (λh=>h)) (by rw[dC k5.l k9.l];omega)
  rwa [aiD k5.l]at this
 have cl3:∀{W k v},aL w3 W aT->(aC a bv kv)[k]?=some v->W.cell? ⟨ab,k,none⟩=some v:=λ{W k v} x hk=>by rw[(oa3.ext x (λh=>h)).cell];exact hk
 have cv:∀{W},aL w3 W aT->(cP 22 9 bv).run pg W= .ok (.value (.string ⟨a.bytes.toArray⟩)) W:=λ{W} x=>eP (hb3.ext x (bC _))
 have fin:∀{vO vE:aL0} {w20:Nat} {ce:List aL1},aL w3 vO aT->uA (zOf w0 w3 N1) n vO (zU S nm a.pos a.bytes).1 (.agg ce.toArray)->aL vO vE (λy=>y=w20)->((∃l,bD vO w20 l/\YO l=true)∨vO.heap.size<=w20)->w3.heap.size<=w20->bD vE w20 ce→
     Fg RR (.pointer (some ⟨pb,0,none⟩)) (.pointer (some ⟨tb,0,none⟩)) (.int .i64 (zU S nm a.pos a.bytes).2) (.pointer (some ⟨w20,0,none⟩)) (.int .i64 (zU S nm a.pos a.bytes).2) vE:=by
  intro vO vE w20 ce xO hd xE hw hg o20
  have zO:=xO.size
  have xE3:aL w3 vE aT:=xO.trans xE λy hy h=>by omega
  have zE:=xE3.size
  have hdE:=hd.keep xE λb hb=>hb▸hw
  have hPM:PM w0 (NR N1 w3 vE) vE n (zU S nm a.pos a.bytes).1 so m lv0 p sp ce cs:=⟨uA.model hdE xE3.size,hst.newR xE3⟩
  have c5:=hPM.md.c5
  have opE:=op3.ext xE3 (λh=>h)
  have otE:=ot3.ext xE3 (λh=>h)
  have l20:=cF o20 c5.l
  unfold Fg
  simp(disch:=omega)only[SV,l20]
  refine dJ opE (by simpa using c5.l) (by simpa using c5.o) (by rw[dC k5.l k9.l];omega) λu7 q7 y7 t7=> ?_
  rw[aJZ,Xf k5.l c5.l]at q7
  subst hsp
  have hPM7:=hPM.wr opE (IX k5.s k9.s) (RT k5.u k9.u) (.inl hNb.1) (by omega) y7 t7 hlz (λc hc hi=>hcs c hc (bO hi λb hb=>by omega))
  have l16:=pF q7 (dC c5.l k9.l)
  have kee:∀e:Int,(e==e)=true:=λe=>by simp
  simp(disch:=omega)only[SV,l16,kee]
  have ot8:=otE.ext y7 (λh=>hord.2.2.2.1 h.symm)
  refine rL ot8 rfl (dC c5.l k9.l) (Le c5.o k9.o) λu9 q9 y9 t9=> ?_
  refine eU q9 (by rw[dC c5.l k9.l];omega) ?_
  rw[aJY,aJH (by rw[dC c5.l k9.l];omega)]
  have hPM9:=hPM7.wr ot8 rfl (by intro x hx;simp only[aJK,aJN,or_false]at hx;rcases hx with rfl|rfl|rfl|rfl|rfl|rfl|rfl|rfl|rfl|rfl|rfl|rfl|rfl|rfl|rfl|rfl<;>rfl) (.inl hNb.2.2) (by omega) y9 t9 hlz (λc hc hi=>hcs c hc (bO hi λb hb=>by omega))
  refine hK _ _ ⟨_,hS3,_,_,_,_,_,rfl,hPM9,λs hs=>by have:=hlog s hs;omega,λb hb=> .inl (hN1 b hb),λc hc=> .inl hc, ?_⟩
  exact(((((x1.seq x2).mono λ_ _ h=>h.elim).seq (x3.mono λ_ _ h=>⟨h.1,λhn=>h.2 (hN1 _ hn)⟩)).seq (xE3.mono λ_ _ h=>h.elim)).trans y7 λy hy hm=>by omega).trans y9 λy hy hm=>by omega
 have v0:=aL.dr w3 aT
 have l0:=ld v0
 have n0:(dr w3).cell? ⟨ab,6,none⟩=some (.int .u8 (a.name:Nat)):=cl3 v0 rfl
 have p0:(dr w3).cell? ⟨ab,7,none⟩=some (.int .i64 a.pos):=cl3 v0 rfl
 have b0:(dr w3).cell? ⟨ab,2,none⟩=some bv:=cl3 v0 rfl
 have cv0:=cv v0
 refine Qx (Qx ?_ ?_) ?_
 .simp (disch:=omega)only[SV,l0,n0]
  refine(afS hnm).mono ?_
  rintro r u1 ⟨rfl,y1⟩
  rw[<-hnme]
  have x1':=v0.seq y1
  have l1:=ld x1'
  have p1:u1.cell? ⟨ab,7,none⟩=some (.int .i64 a.pos):=cl3 x1' rfl
  have b1:u1.cell? ⟨ab,2,none⟩=some bv:=cl3 x1' rfl
  have cv1:=cv x1'
  simp(disch:=omega)only[SV,l1,p1,b1,cv1,p0,b0,cv0]
  refine(HU (N:=n) ((hd3.new x1').le (by omega)) (by omega)).mono ?_
  rintro r u2 ⟨dv',rfl,hd',yO⟩
  obtain⟨ce,rfl,ce5,-,ce1,-⟩:=hd'.cs
  simp(disch:=omega)only[SV]
  refine aV λu3 oW y3 s3=> ?_
  try simp(disch:=omega)only[SV]
  refine cR oW rfl ce5 ce1 λu4 o4 y4 s4=> ?_
  try simp(disch:=omega)only[SV]
  have x2':=x1'.seq yO
  have zz:=x2'.size
  have zz3:=y3.size
  exact fin (vO:=u3) (x2'.seq y3) (hd'.new y3) y4 (.inl ⟨_,oW,rfl⟩) (by omega) o4
 .simp (disch:=omega)only[SV,l0,n0]
  refine(afS hnm).mono ?_
  rintro r u1 ⟨rfl,y1⟩
  rw[<-hnme]
  have x1':=v0.seq y1
  have l1:=ld x1'
  have p1:u1.cell? ⟨ab,7,none⟩=some (.int .i64 a.pos):=cl3 x1' rfl
  have b1:u1.cell? ⟨ab,2,none⟩=some bv:=cl3 x1' rfl
  have cv1:=cv x1'
  simp(disch:=omega)only[SV,l1,p1,b1,cv1,p0,b0,cv0]
  refine aV λu2 oW y2' s2'=> ?_
  have x2':=x1'.seq y2'
  have l2:=ld x2'
  have n2:u2.cell? ⟨ab,6,none⟩=some (.int .u8 (a.name:Nat)):=cl3 x2' rfl
  have p2:u2.cell? ⟨ab,7,none⟩=some (.int .i64 a.pos):=cl3 x2' rfl
  have b2:u2.cell? ⟨ab,2,none⟩=some bv:=cl3 x2' rfl
  have cv2:=cv x2'
  try simp(disch:=omega)only[SV,l2,n2,p2,b2,cv2]
  refine(HU (N:=n) ((hd3.new x2').le (by omega)) (by omega)).mono ?_
  rintro r u3 ⟨dv',rfl,hd',yO⟩
  obtain⟨ce,rfl,ce5,-,ce1,-⟩:=hd'.cs
  simp(disch:=omega)only[SV]
  have oW:=oW.ext yO (λh=>h)
  refine cR oW rfl ce5 ce1 λu4 o4 y4 s4=> ?_
  try simp(disch:=omega)only[SV]
  have zz:=x1'.size
  exact fin (vO:=u3) (x2'.seq yO) hd' y4 (.inl ⟨_,oW,rfl⟩) (by omega) o4
 .simp (disch:=omega)only[SV,l0,n0,p0,b0,cv0]
  refine aV λu1 oW y1 s1=> ?_
  have x1':=v0.seq y1
  have l1:=ld x1'
  have n1:u1.cell? ⟨ab,6,none⟩=some (.int .u8 (a.name:Nat)):=cl3 x1' rfl
  have p1:u1.cell? ⟨ab,7,none⟩=some (.int .i64 a.pos):=cl3 x1' rfl
  have b1:u1.cell? ⟨ab,2,none⟩=some bv:=cl3 x1' rfl
  have cv1:=cv x1'
  try simp(disch:=omega)only[SV,l1,n1,p1,b1,cv1]
  refine(afS hnm).mono ?_
  rintro r u2 ⟨rfl,y2'⟩
  rw[<-hnme]
  have x2':=x1'.seq y2'
  have l2:=ld x2'
  have n2:u2.cell? ⟨ab,6,none⟩=some (.int .u8 (a.name:Nat)):=cl3 x2' rfl
  have p2:u2.cell? ⟨ab,7,none⟩=some (.int .i64 a.pos):=cl3 x2' rfl
  have b2:u2.cell? ⟨ab,2,none⟩=some bv:=cl3 x2' rfl
  have cv2:=cv x2'
  try simp(disch:=omega)only[SV,l2,n2,p2,b2,cv2]
  refine(HU (N:=n) ((hd3.new x2').le (by omega)) (by omega)).mono ?_
  rintro r u3 ⟨dv',rfl,hd',yO⟩
  obtain⟨ce,rfl,ce5,-,ce1,-⟩:=hd'.cs
  simp(disch:=omega)only[SV]
  have oW:=(oW.ext y2' (λh=>h)).ext yO (λh=>h)
  refine cR oW rfl ce5 ce1 λu4 o4 y4 s4=> ?_
  try simp(disch:=omega)only[SV]
  exact fin (vO:=u3) (x2'.seq yO) hd' y4 (.inl ⟨_,oW,rfl⟩) (aJO _) o4
end
theorem aHk{w0 w:aL0}{N:Nat->Prop}{n p:Nat}{S:cG}{so:Option eT}{m:Gh}{lv0 sp fv bv kv:aL1}{cd cs:List aL1}{f:List UInt8}{a:arU}{L:Nat}(h:PM w0 N w (n+3) S so m lv0 p sp cd cs)(hg:nQ w0)(x0:aL w0 w aT)(hS:Hd S)(hm:CM m)(hlv:Cl w 32 lv0 m.leaves.length (V6 m.leaves))(hlz:¬fK lv0 (λy=>w0.heap.size<=y))
 (hf:Bs w fv f) (hfz:¬fK fv (λy=>w0.heap.size<=y)) (hb:Bs w bv a.bytes) (hbz:¬fK bv (λy=>w0.heap.size<=y)) (hfl:f.length<=1000) (hbl:a.bytes.length<=1000) (hpt: -9223372036854775808<=a.part/\a.part<=9223372036854775807)
 (hkv:Sl w kv (a.keep.map Value.bool)) (hkz:¬fK kv (λy=>w0.heap.size<=y)) (hkl:a.keep.length<=9223372036854775807) (hnm:a.name<256) (hps: -9223372036854775808<=a.pos/\a.pos<=1073741824)
 (hcs:∀c∈cs,¬fK c (λy=>w.heap.size<=y)) (hlog:∀s,so=some s->s.log<=L) (hL:65535<=L/\L<=100000000):
 aG pg zY #[.agg (pV p sp cd cs).toArray,fv,.agg (xV m lv0).toArray,.agg (aC a bv kv).toArray] w (λr w'=>∃S',Hd S'/\StR w0 N w n m lv0 p cs S' (L+13) r w'):=by
 refine adA ?_
 obtain⟨RR,hRR⟩:∃RR:aL1->aL0->Prop,RR=λr w'=>∃S',Hd S'/\StR w0 N w n m lv0 p cs S' (L+13) r w':=⟨_,rfl⟩
 rw[<-hRR]
 have hK:∀r w',(∃S',Hd S'/\StR w0 N w n m lv0 p cs S' (L+13) r w')->RR r w':=λr w' h=>by rw[hRR];exact h
 unfold ahR RA Rz
 refine cA λw1 o1 x1 s1=> ?_
 rw[Cf]at o1
 refine cA λw2 o2 x2 s2=> ?_
 rw[Cf]at o2
 refine cA λw3 o3 x3 s3=> ?_
 rw[Cf]at o3
 refine yC λw4 o4 x4 s4=> ?_
 have o4:bD w4 w3.heap.size Z16:=o4
 obtain⟨pb,hpb⟩:∃pb,pb=w.heap.size:=⟨_,rfl⟩
 obtain⟨mb,hmb⟩:∃mb,mb=w1.heap.size:=⟨_,rfl⟩
 obtain⟨ab,hab⟩:∃ab,ab=w2.heap.size:=⟨_,rfl⟩
 obtain⟨tb,htb⟩:∃tb,tb=w3.heap.size:=⟨_,rfl⟩
 rw[<-hpb]at o1⊢
 rw[<-hmb]at o2⊢
 rw[<-hab]at o3⊢
 rw[<-htb]at o4⊢
 have x04:aL w w4 aT:=((x1.seq x2).seq x3).seq x4
 have op:=o1.ext ((x2.seq x3).seq x4) (λh=>h)
 have om:=o2.ext (x3.seq x4) (λh=>h)
 have oa:=o3.ext x4 (λh=>h)
 have hPM:=h.newR x04
 obtain⟨N1,hN1e⟩:∃N1,N1=NR N w w4:=⟨_,rfl⟩
 rw[<-hN1e]at hPM
 have hN1:∀b,N b->N1 b:=λb hb=>by rw[hN1e];exact .inl hb
 have hNn:∀b,N1 b->N b∨w.heap.size<=b:=λb hb=>by rw[hN1e]at hb;exact hb.imp id λh=>h.1
 have n1:∀b,w.heap.size<=b->b<w4.heap.size->N1 b:=λb h1 h2=>by rw[hN1e];exact .inr ⟨h1,h2⟩
 have hp1:N1 pb:=n1 pb (by omega) (by omega)
 have hm1:N1 mb:=n1 mb (by omega) (by omega)
 have ha1:N1 ab:=n1 ab (by omega) (by omega)
 have ht1:N1 tb:=n1 tb (by omega) (by omega)
 have hf4:=hf.ext x04 (bC _)
 have hb4:=hb.ext x04 (bC _)
 have hk4:=hkv.ext x04 (bC _)
 have hlv4:=dS hlv x04 (bC _)
 have x00:=x0.seq x04
 have cPut:=aCi (RR:=RR) (fv:=fv) (f:=f) (bv:=bv) (kv:=kv) (a:=a) (ab:=ab) (mb:=mb) (pb:=pb) (tb:=tb) (L:=L) hPM x0 x04 hN1 hNn hS hm hlz hf4 hfz hb4 hbz hfl hbl hpt op om oa o4 (by omega) ⟨hp1,hm1,ha1,ht1⟩ hcs hlog hL.2 hK
 have cCom:=aCg (RR:=RR) (pb:=pb) (tb:=tb) (L:=L) hPM x0 x04 hN1 hS hm hlz op o4 (by omega) ⟨hp1,ht1⟩ hcs hlog hL.2 hK
 have cStop:=azM (RR:=RR) (bv:=bv) (kv:=kv) (a:=a) (ab:=ab) (pb:=pb) (tb:=tb) (L:=L) hPM x0 x04 hN1 hS hlz op oa o4 (by omega) ⟨hp1,ha1,ht1⟩ hcs hlog hK
 have cCrash:=awG (RR:=RR) (bv:=bv) (kv:=kv) (a:=a) (ab:=ab) (mb:=mb) (pb:=pb) (tb:=tb) (L:=L) hPM hg x0 x04 hN1 hS hm hlv4 hlz hk4 hkz hkl op om oa o4 (by omega) ⟨hp1,hm1,ha1,ht1⟩ hcs hlog hL.1 hK
 have cWrite:=awH (RR:=RR) (bv:=bv) (kv:=kv) (a:=a) (ab:=ab) (pb:=pb) (tb:=tb) (L:=L) hPM x0 x04 hN1 hS hlz hb4 hbz hbl hnm hps op oa o4 (by omega) ⟨hp1,ha1,ht1⟩ hcs hlog hK
 have cOpen:=akR (S0:=S) (RR:=RR) (mb:=mb) (pb:=pb) (tb:=tb) (L:=L) hPM hg x0 (x04.mono λ_ _ h=>h.elim) hN1 hS hm hlv4 hlz x00 op om o4 (by omega) ⟨hp1,ht1⟩ hcs hlog hL.1 hK
 obtain⟨j,hj,hje⟩:=aCJ a.kind 7 (by omega)
 have hje:acA .i64 a.kind 7=(j:Int):=hje
 have c0:w4.cell? ⟨ab,0,none⟩=some (.int .i64 a.kind):=oa.cell (off:=0)
 unfold IB IA Ry
 simp(disch:=omega)only[SV,c0,hje]
 unfold Iz Rx
 match j,hj with
 |0,_=>
  have e0:(((0:Nat):Int)==0)=true:=rfl
  unfold sV
  simp(disch:=omega)only[SV,e0]
  exact cPut
 |1,_=>
  have e0:(((1:Nat):Int)==0)=false:=rfl
  have e1:(((1:Nat):Int)==1)=true:=rfl
  unfold sV
  simp(disch:=omega)only[SV,e0,e1]
  exact cPut
 |2,_=>
  have e0:(((2:Nat):Int)==0)=false:=rfl
  have e1:(((2:Nat):Int)==1)=false:=rfl
  have e2:(((2:Nat):Int)==2)=true:=rfl
  unfold sV
  simp(disch:=omega)only[SV,e0,e1,e2]
  exact cPut
 |j'+3,hj=>
  have e0:(((j'+3:Nat):Int)==0)=false:=by rw[beq_eq_false_iff_ne];omega
  have e1:(((j'+3:Nat):Int)==1)=false:=by rw[beq_eq_false_iff_ne];omega
  have e2:(((j'+3:Nat):Int)==2)=false:=by rw[beq_eq_false_iff_ne];omega
  unfold sV Rw Rv Iy Ru Rt Ix Rs Rr Iw Rq Rp Iv Uw
  match j',hj with
  |0,_=>
   have e3:(((0+3:Nat):Int)==3)=true:=rfl
   simp(disch:=omega)only[SV,e0,e1,e2,e3]
   exact cCom
  |1,_=>
   have e3:(((1+3:Nat):Int)==3)=false:=rfl
   have e4:(((1+3:Nat):Int)==4)=true:=rfl
   simp(disch:=omega)only[SV,e0,e1,e2,e3,e4]
   exact cStop
  |2,_=>
   have e3:(((2+3:Nat):Int)==3)=false:=rfl
   have e4:(((2+3:Nat):Int)==4)=false:=rfl
   have e5:(((2+3:Nat):Int)==5)=true:=rfl
   simp(disch:=omega)only[SV,e0,e1,e2,e3,e4,e5]
   exact cCrash
  |3,_=>
   have e3:(((3+3:Nat):Int)==3)=false:=rfl
   have e4:(((3+3:Nat):Int)==4)=false:=rfl
   have e5:(((3+3:Nat):Int)==5)=false:=rfl
   have e6:(((3+3:Nat):Int)==6)=true:=rfl
   simp(disch:=omega)only[SV,e0,e1,e2,e3,e4,e5,e6]
   exact cWrite
  |4,_=>
   have e3:(((4+3:Nat):Int)==3)=false:=rfl
   have e4:(((4+3:Nat):Int)==4)=false:=rfl
   have e5:(((4+3:Nat):Int)==5)=false:=rfl
   have e6:(((4+3:Nat):Int)==6)=false:=rfl
   simp(disch:=omega)only[SV,e0,e1,e2,e3,e4,e5,e6]
   exact cOpen
structure arV where
 a:arU
 bv:aL1
 kv:aL1
abbrev acC(x:arV):List aL1:=aC x.a x.bv x.kv
structure anA(w:aL0)(x:arV):Prop where
 b:Bs w x.bv x.a.bytes
 k:Sl w x.kv (x.a.keep.map Value.bool)
 kl:x.a.keep.length<=9223372036854775807
 nm:x.a.name<256
 pt: -9223372036854775808<=x.a.part/\x.a.part<=9223372036854775807
 ps: -9223372036854775808<=x.a.pos
 bl:x.a.bytes.length<=9223372036854775807
theorem Wc.old {w0 w:aL0}{N:Nat->Prop}{S:cG}{m:Gh}{lv0 sp:aL1}{p:Nat}{cs:List aL1}{so:Option eT}(h:Wc w0 N w S m lv0 p sp cs so):∀c∈cs,¬fK c (λy=>w.heap.size<=y):=by
 cases so with
 |none=>
  obtain⟨_,rfl,_⟩:=h
  intro c hc hi
  simp only[aJK,aJN,or_false]at hc
  rcases hc with rfl|rfl|rfl|rfl|rfl|rfl|rfl|rfl|rfl<;>exact hi
 |some s=>
  obtain⟨q,hv,_,rfl,h3,_⟩:=h
  intro c hc
  simp only[aJK,aJN,or_false]at hc
  rcases hc with rfl|rfl|rfl|rfl|rfl|rfl|rfl|rfl|rfl<;>first|exactλhi=>hi|exact Wn h3.lv (by omega)|exact h3.hv.old
theorem aEV(l:List arV):(l.flatMap acC).length=l.length*8:=by
 induction l with
 |nil=>rfl
 |cons p r ih=>simp only[aKz,aJF,aJX,aKD]at ih⊢;omega
theorem aCH:∀{l:List arV} {i j:Nat} (hi:i<l.length),j<8->(l.flatMap acC)[i*8+j]?=(acC l[i])[j]?
 |p::r,0,j,_,hj=>by
  show(acC p++r.flatMap acC)[0*8+j]?=_
  rw[aJ0 (by simpa using hj),aLZ,aJG]
  rfl
 |p::r,i+1,j,hi,hj=>by
  show(acC p++r.flatMap acC)[(i+1)*8+j]?=_
  rw[aJ2 (by simp;omega),show(i+1)*8+j-(acC p).length=i*8+j from by simp;omega]
  exact aCH (by simpa using hi) hj
section
variable{w0:aL0}{p pb mb:Nat}{m:Gh}{lv0 fv scv:aL1}{f:List UInt8}{acs:List arV}{RR:aL1->aL0->Prop}
theorem ayO(hg:nQ w0)(hm:CM m)(hlv:Cl w0 32 lv0 m.leaves.length (V6 m.leaves))(hf:Bs w0 fv f)(hfl:f.length<=200)(hsc:Cl w0 8 scv acs.length (acs.flatMap acC))(hac:∀x∈acs,anA w0 x)(hal:acs.length<=9223372036854775807)(om:bD w0 mb (xV m lv0))
 {w:aL0} {N:Nat->Prop} {S:cG} {so:Option eT} {sp:aL1} {cd cs:List aL1} (h:PM w0 N w 60 S so m lv0 p sp cd cs) (x0:aL w0 w aT) (hS:Hd S) (op:bD w pb (pV p sp cd cs)) (hNp:N pb) (hpb:w0.heap.size<=pb) (hcs:∀c∈cs,¬fK c (λy=>y=pb)) (hlog:∀s,so=some s->s.log<=65548)
 (hK:∀w',aL w0 w' aT->RR (.bool true) w'):
 rY RR fv scv (.pointer (some ⟨mb,0,none⟩)) (.pointer (some ⟨pb,0,none⟩)) w:=by
 have hlz:¬fK lv0 (λy=>w0.heap.size<=y):=Wn hlv (by omega)
 have hfz:¬fK fv (λy=>w0.heap.size<=y):=hf.old
 obtain⟨sa,sc,hse,_⟩:=id hsc
 unfold rY AL GY rX
 refine bM.rule (λq (t:aL1) W=>∃(i:Nat) (N:Nat->Prop) (S:cG) (so:Option eT) (sp:aL1) (cd cs:List aL1),q=20-i/\i<=20/\t= .int .i64 (i:Nat)/\PM w0 N W (60-3*i) S so m lv0 p sp cd cs/\aL w0 W aT/\Hd S/\bD W pb (pV p sp cd cs)/\N pb/\(∀c∈cs,¬fK c (λy=>y=pb))/\(∀s,so=some s->s.log<=65548+13*i)) 20 ⟨0,N,S,so,sp,cd,cs,rfl,by omega,rfl,h,x0,hS,op,hNp,hcs,hlog⟩ ?_
 clear h x0 hS op hNp hcs hlog
 rintro q t W ⟨i,N,S,so,sp,cd,cs,rfl,hi,rfl,h,x0,hS,op,hNp,hcs,hlog⟩
 have k5:=h.md.c5
 obtain⟨k9,a0,hsp⟩:=h.st.c9
 subst hsp
 unfold AK
 by_cases hlt:i<acs.length
 rotate_left
 .have d1:decide ((i:Int)<(acs.length:Int))=false:=by simp;omega
  unfold rW
  rw[hse]
  simp(disch:=omega)only[SV,d1]
  exact hK _ x0
 have d1:decide ((i:Int)<(acs.length:Int))=true:=by simp;omega
 by_cases hi20:i<20
 rotate_left
 .have d2:decide ((i:Int)<20)=false:=by simp;omega
  unfold rW
  rw[hse]
  simp(disch:=omega)only[SV,d1,d2]
  exact hK _ x0
 have d2:decide ((i:Int)<20)=true:=by simp;omega
 have hin:(i:Int).toNat=i:=aJI _
 have q1:(i:Int)+1=((i+1:Nat):Int):=by omega
 obtain⟨x,hx⟩:∃x,x=acs[i]:=⟨_,rfl⟩
 have hxo:anA w0 x:=hac _ (hx▸aKp hlt)
 obtain⟨sb,so',hsa,hcell⟩:∃sb so',sa=some ⟨sb,so',none⟩/\∀W' j v,aL w0 W' aT->j<8->(acC x)[j]?=some v->W'.cell? ⟨sb,so'+i*8+j,none⟩=some v:=by
  obtain⟨a',c',he,hl,hh⟩:=hsc
  rw[hse]at he
  simp only[Value.slice.injEq]at he
  obtain⟨rfl,-,rfl⟩:=he
  obtain⟨sb,so',rfl,h2⟩:=hh (by omega)
  refine⟨sb,so',rfl,λW' j v xW hj hv=> ?_⟩
  have h3:=h2 (i*8+j) (by rw[aEV];omega)
  rw[aCH hlt hj,<-hx,hv]at h3
  rw[aKy]
  exact vW h3 xW (λh=>h)
 subst hsa
 have b2:W.cell? ⟨sb,so'+i*8+2,none⟩=some x.bv:=hcell W 2 _ x0 (by omega) rfl
 have b7:W.cell? ⟨sb,so'+i*8+7,none⟩=some (.int .i64 x.a.pos):=hcell W 7 _ x0 (by omega) rfl
 have hbW:=hxo.b.ext x0 (bC _)
 obtain⟨ba,bc,hbe,_⟩:=hbW.len
 rw[aJC]at hbe
 have b2':=b2
 rw[hbe]at b2'
 subst hse
 by_cases hb300:300<x.a.bytes.length
 .have d3:decide ((300:Int)<(x.a.bytes.length:Int))=true:=by simp;omega
  simp(disch:=omega)only[SV,d1,d2,hin,b2',d3]
  exact hK _ x0
 have d3:decide ((300:Int)<(x.a.bytes.length:Int))=false:=by simp;omega
 by_cases hp30:1073741824<x.a.pos
 .have d4:decide ((1073741824:Int)<x.a.pos)=true:=decide_eq_true hp30
  simp(disch:=omega)only[SV,d1,d2,hin,b2',d3,b7,d4]
  exact hK _ x0
 have d4:decide ((1073741824:Int)<x.a.pos)=false:=decide_eq_false hp30
 have xd:=aL.dr W aT
 have opd:=op.ext xd (λh=>h)
 have l49:=pF opd (dC k5.l k9.l)
 have l30:(aB 30 (.pointer (some ⟨mb,0,none⟩))).run pg (dr W)= .ok (.value (.agg (xV m lv0).toArray)) (dr W):=gA (off:=0) (om.ext (x0.seq xd) (λh=>h)) (by simp)
 have l54:(aB 54 (.pointer (some ⟨sb,so'+i*8,none⟩))).run pg (dr W)= .ok (.value (.agg (acC x).toArray)) (dr W):=Ml (l:=acC x) rfl λj hj=>by
  obtain⟨v,hv⟩:∃v,(acC x)[j]?=some v:=⟨_,aJE hj⟩
  rw[hv]
  exact hcell _ j v (x0.seq xd) hj hv
 simp(disch:=omega)only[SV,d1,d2,hin,b2',d3,b7,d4,l49,l30,l54]
 have hd:=h.new xd
 have x0d:=x0.seq xd
 have hzz:∀{v:aL1} {l:List aL1},Sl w0 v l->¬fK v (λy=>w0.heap.size<=y):=λh=>h.old
 refine(aHk (n:=60-3*(i+1)) (a:=x.a) (L:=65548+13*i) (hd.le (by omega)) hg x0d hS hm (dS hlv x0d (bC _)) hlz (hf.ext x0d (bC _)) hfz (hxo.b.ext x0d (bC _)) hxo.b.old (by omega) (by omega) hxo.pt (hxo.k.ext x0d (bC _)) hxo.k.old hxo.kl hxo.nm ⟨hxo.ps,by omega⟩ hd.st.old hlog (by omega)).mono ?_
 rintro r W2 ⟨S',hS',N',so'',sp'',cd',cs'',rfl,hPM,hlog',hN',hcn,x2⟩
 have c5:=hPM.md.c5
 obtain⟨c9,a1,hsp1⟩:=hPM.st.c9
 subst hsp1
 have zz:=op.lt
 have op2:=opd.ext x2 (λhk=>hk.2 hNp)
 have hcs2:∀c∈cs'',¬fK c (λy=>y=pb):=hcn.of (λb hb=>by show b<W.heap.size;omega) (λhi=>hlz (bO hi λb hb=>by omega)) hcs
 simp(disch:=omega)only[SV]
 refine rL op2 (dC k5.l k9.l) (dC c5.l c9.l) (Le c5.o c9.o) λW3 o3 x3 s3=> ?_
 have hPM3:=hPM.wr op2 (IX k5.s k9.s) (RT k5.u k9.u) (hN' _ hNp) hpb x3 s3 hlz hcs2
 have x03:aL w0 W3 aT:=(x0d.trans x2 λy hy hk=>by have:=hk.1;omega).trans x3 λy hy hm=>by omega
 have l16:=pF o3 (dC c5.l c9.l)
 try simp(disch:=omega)only[SV,l16]
 refine(aDw hPM3 (by have:=aqB hS'.se;omega)).mono ?_
 rintro r W4 ⟨rfl,x4⟩
 simp(disch:=omega)only[SV,q1]
 refine⟨20-(i+1),by omega,i+1,N',S',so'',.pointer a1,cd',cs'',rfl,by omega,rfl,hPM3.new x4,x03.seq x4,hS',o3.ext x4 (λh=>h),hN' _ hNp,hcs2,λs hs=>by have:=hlog' s hs;omega⟩
end
theorem arH{f:List UInt8}{fv scv:aL1}{part room:Nat}{acs:List arV}{w:aL0}(hg:nQ w)(hf:Bs w fv f)(hfl:f.length<=9223372036854775807)(hp:part<256)(hr:room<65536)(hsc:Cl w 8 scv acs.length (acs.flatMap acC))(hac:∀x∈acs,anA w x)(hal:acs.length<=9223372036854775807):
 aG pg BF #[fv,.int .u8 (part:Nat),.int .u16 (room:Nat),scv] w (λr w'=>r= .bool true/\aL w w' aT):=by
 refine PX ?_
 obtain⟨RR,hRR⟩:∃RR:aL1->aL0->Prop,RR=λr w'=>r= .bool true/\aL w w' aT:=⟨_,rfl⟩
 rw[<-hRR]
 have hok:∀w',aL w w' aT->RR (.bool true) w':=λw' x=>by rw[hRR];exact⟨rfl,x⟩
 unfold Mi G0 GZ
 refine(aBm hg).mono ?_
 rintro r w1 ⟨rfl,x1⟩
 obtain⟨fa,fc,hfe,_⟩:=id hf.len
 rw[aJC]at hfe
 subst hfe
 by_cases h200:200<f.length
 .have d1:decide ((200:Int)<(f.length:Int))=true:=by simp;omega
  simp(disch:=omega)only[SV,d1]
  exact hok _ x1
 have d1:decide ((200:Int)<(f.length:Int))=false:=by simp;omega
 have q1:((part:Nat):Int)+1=((part+1:Nat):Int):=by omega
 have e1:IntKind.i64.wrap ((part:Nat):Int)=((part:Nat):Int):=dG (by omega) (by omega)
 have e2:IntKind.i64.wrap ((room:Nat):Int)=((room:Nat):Int):=dG (by omega) (by omega)
 simp(disch:=omega)only[SV,d1,e1,q1]
 refine(ahX (k:=part+1) (hg.ext x1) (hf.ext x1 (bC _)) (by omega) ⟨by omega,by omega⟩).mono ?_
 rintro r w2 ⟨lv,rfl,ho,x2⟩
 obtain⟨m,hmd⟩:∃m,m=kC aX f (part+1):=⟨_,rfl⟩
 have hm:CM m:=by rw[hmd];exact aDA ⟨by omega,by omega⟩ (by omega)
 rw[<-hmd]at ho⊢
 obtain⟨la,lc,hle⟩:∃a c,lv= .slice a m.leaves.length c:=by
  rcases ho.2 with⟨h1,h2⟩|⟨b,c,rest,h1,_⟩
  .exact ⟨none,0,by rw[h1,h2]⟩
  .exact ⟨_,c,h1⟩
 have hlv2:Cl w2 32 lv m.leaves.length (V6 m.leaves):=ho.cl
 try simp(disch:=omega)only[SV]
 refine uB λw3 o3 x3 s3=> ?_
 refine sG o3 rfl (by intro x hx;simp only[aJK,aJN,or_false]at hx;rcases hx with rfl|rfl|rfl;rfl;rfl;rw[hle]<;>rfl) (by simp) λw0 o4 x4 s4=> ?_
 have o4:bD w0 w2.heap.size (xV m lv):=o4
 obtain⟨mb,hmb⟩:∃mb,mb=w2.heap.size:=⟨_,rfl⟩
 rw[<-hmb]at o4⊢
 have x00:aL w w0 aT:=((x1.seq x2).seq x3).trans x4 λy hy h=>by have:=x1.size;have:=x2.size;omega
 have hlv0:Cl w0 32 lv m.leaves.length (V6 m.leaves):=dS (dS hlv2 x3 (bC _)) x4 λhi=>Wn hlv2 (by omega) (bO hi λb hb=>by omega)
 have hf0:=hf.ext x00 (bC _)
 have hsc0:=dS hsc x00 (bC _)
 have hac0:∀x∈acs,anA w0 x:=λx hx=>by
  have h:=hac x hx
  exact⟨h.b.ext x00 (bC _),h.k.ext x00 (bC _),h.kl,h.nm,h.pt,h.ps,h.bl⟩
 have hg0:=hg.ext x00
 have hlz:¬fK lv (λy=>w0.heap.size<=y):=Wn hlv0 (by omega)
 try simp(disch:=omega)only[SV,e2]
 refine(atC (aL.refl w0 aT) (by omega) (by omega)).mono ?_
 rintro r w5 ⟨p,rfl,hD,x5⟩
 try simp(disch:=omega)only[SV,e2]
 refine(aFN (Z:=zOf w0 w5 noN) (N:=66) (by omega) (by omega) (by omega) (λb hb=>hb.2.1)).mono ?_
 rintro r w6 ⟨dv,rfl,hd6,x6⟩
 obtain⟨ce,rfl,ce5,-,ce1,-⟩:=hd6.cs
 try simp(disch:=omega)only[SV]
 refine aV λw7 o7 x7 s7=> ?_
 refine cR o7 rfl ce5 ce1 λw8 o8 x8 s8=> ?_
 have z5:=x5.size
 have z6:=x6.size
 have hd8:=(hd6.new x7).keep x8 λb hb=> .inl ⟨_,hb▸o7,rfl⟩
 have x58:aL w5 w8 aT:=(x6.seq x7).trans x8 λy hy h=>by omega
 have hPM:PM w0 (NR noN w5 w8) w8 66 (Xd room) none m lv p (.pointer none) ce Z9:=⟨uA.model hd8 x58.size,rfl,rfl,hD.addR x58⟩
 have l8:=cF o8 ce5
 have hlm8:(aB 30 (.pointer (some ⟨mb,0,none⟩))).run pg w8= .ok (.value (.agg (xV m lv).toArray)) w8:=gA (off:=0) (o4.ext (x5.seq x58) (λh=>h)) (by simp)
 have hbd:∀w,(bV 49 [(0,dP p),(2,.agg ce.toArray)]).run pg w= .ok (.value (.agg (pV p (.pointer none) ce Z9).toArray)) w:=λw=>by
  match ce,ce5 with
  |[a,b,c,d,e],_=>exact iH _ _ _ _ _ _ _
 have n1:((0:Int) !=0)=false:=rfl
 simp(disch:=omega)only[SV,n1,l8,hbd,hlm8]
 obtain⟨S',so',e,hO⟩:∃S' so' e,sY aX aY (Xd room) sF m=(S',so',e):=⟨_,_,_,rfl⟩
 have hS0:Hd (Xd (room:Int)):=aFX ⟨by omega,by omega⟩
 have hS':Hd S':=by have:=awE (m:=m) hS0;rw[hO]at this;exact this
 have x08:aL w0 w8 aT:=x5.seq x58
 refine(auL (n:=63) hPM hg0 x08 hm (dS hlv0 x08 (bC _)) hlz (by have:=WB hS0.se;omega) hO hPM.st.old).mono ?_
 rintro r w9 ⟨N',so'',sp'',cd',cs'',rfl,hPM9,j1,j2,hN',hcn,x9⟩
 have c5:=hPM9.md.c5
 obtain⟨c9,a1,hsp1⟩:=hPM9.st.c9
 subst hsp1
 try simp(disch:=omega)only[SV]
 refine yC λwa oa xa sa=> ?_
 have oa:bD wa w9.heap.size Z16:=oa
 obtain⟨pb,hpb⟩:∃pb,pb=w9.heap.size:=⟨_,rfl⟩
 rw[<-hpb]at oa⊢
 have z8:=x08.size
 have z9:=x9.size
 have hPMa:=hPM9.newR xa
 have gN:NR N' w9 wa pb:= .inr ⟨by omega,by omega⟩
 have hcsb:∀c∈cs'',¬fK c (λy=>y=pb):=λc hc hi=>hPM9.st.old c hc (bO hi λb hb=>by omega)
 refine rL oa rfl (dC c5.l c9.l) (Le c5.o c9.o) λwb ob xb sb=> ?_
 have hPMb:=hPMa.wr oa rfl (by intro x hx;simp only[aJK,aJN,or_false]at hx;rcases hx with rfl|rfl|rfl|rfl|rfl|rfl|rfl|rfl|rfl|rfl|rfl|rfl|rfl|rfl|rfl|rfl<;>rfl) gN (by omega) xb sb hlz hcsb
 have l16:=pF ob (dC c5.l c9.l)
 simp(disch:=omega)only[SV,l16]
 refine(aDw hPMb (by have:=aqB hS'.se;omega)).mono ?_
 rintro r wc ⟨rfl,xc⟩
 simp(disch:=omega)only[SV]
 have x0c:aL w0 wc aT:=(((x08.trans x9 λy hy hk=>by have:=hk.1;omega).seq xa).trans xb λy hy h=>by omega).seq xc
 refine ayO hg0 hm hlv0 hf0 (by omega) hsc0 hac0 hal o4 ((hPMb.new xc).le (by omega)) x0c hS' (ob.ext xc (λh=>h)) gN (by omega) hcsb ?_ λw' xw=>hok w' (x00.seq xw)
 intro s hs
 cases so' with
 |none=>rw[j1 rfl]at hs;cases hs
 |some s'=>
  rw[j2 s' rfl]at hs
  cases hs
  exact auK (S:=Xd room) (m:=m) (λb hb=>(hS0.se.2 _ (Rd hb)).2) (by rw[hO])
end Go.Proofs.YteelnmpbnaohpaaGreatDoor
namespace Go.En
open Go Go.ChangeShapes Go.WideShapes Go.ChangeAt Go.RowKit Go.Deep
theorem asL{W:aL0}{a:Addr}{n:Nat}{g:Nat->aL1}(h0:0<n)(h:∀i,i<n->W.cell? (a.add i)=some (g i)):∃b off,a=⟨b,off,none⟩/\∀i,i<n->W.cell? ⟨b,off+i,none⟩=some (g i):=by
 obtain⟨b,off,spot⟩:=a
 have hs:spot=none:=by
  have h0:=h 0 h0
  unfold World.cell? at h0
  split at h0
  .cases spot
   .rfl
   .simp [Addr.add]at h0
  .cases h0
 subst hs
 exact⟨b,off,rfl,λi hi=>by rw[<-CP,h i hi]⟩
structure agB where
 a0:Int
 a1:Int
 bv:aL1
 zs:List Int
 c:Bool
 kv:aL1
 ks:List Bool
 a5:Int
 a6:Int
 a7:Int
def LR(x:agB):List aL1:=[.int .i64 x.a0,.int .i64 x.a1,x.bv,.bool x.c,x.kv,.int .i64 x.a5,.int .u8 x.a6,.int .i64 x.a7]
structure YQ(W:aL0)(x:agB):Prop where
 w0:(Lit.int .i64 x.a0).wf=true
 w1:(Lit.int .i64 x.a1).wf=true
 sb:Sl W x.bv (x.zs.map (Value.int .u8))
 lb:x.zs.length<=9223372036854775807
 wb:∀z∈x.zs,(Lit.int .u8 z).wf=true
 sk:Sl W x.kv (x.ks.map Value.bool)
 lk:x.ks.length<=9223372036854775807
 w5:(Lit.int .i64 x.a5).wf=true
 w6:(Lit.int .u8 x.a6).wf=true
 w7:(Lit.int .i64 x.a7).wf=true
theorem aGR{H:Type}{enc:TypeId×aL1->H}{P:Program}{W:aL0}{base fuel:Nat}{sp:Nat->Bool}{hd:Bool}{t e:TypeId}{k:IntKind}{cs:List aL1}{x:DataW H×List MemPlace}(ht:P.underlying t=some (.slice e))(he:P.underlying e=some (.int k))(hc:P.cellsOf e=1)
 (hf:DataW.trod enc P W base sp hd fuel t cs=some x):∃(v:aL1) (zs:List Int),cs=[v]/\Sl W v (zs.map (Value.int k))/\zs.length<=9223372036854775807/\∀z∈zs,(Lit.int k z).wf=true:=by
 rcases open_ints ht he hc hf with⟨hcs,-⟩|⟨a,len,cap,zs,hcs,_,hl,hm,hz,-,hcell,hwz⟩
 .exact ⟨_,[],hcs,⟨none,0,0,rfl,rfl,aJO _,λh=>absurd h (by simp)⟩,by simp,by simp⟩
 .unfold maxLen at hm
  have hle:len<=zs.length:=by rw[hz];split<;>omega
  refine⟨_,zs.take len,hcs,⟨some a,len,cap,rfl,by rw[aJC,aJP];omega,hl,λh0=> ?_⟩,by rw[aJP];omega,λz hz=>hwz z (aLn hz)⟩
  obtain⟨b,off,e,h2⟩:=asL (g:=λi=> .int k (zs.getD i 0)) h0 (λi hi=>by rw[hcell i (by omega)])
  refine⟨b,off,by rw[e],λi hi=> ?_⟩
  rw[h2 i hi,aJ4,aKE hi,aJL,aJE (by omega)]
  rfl
theorem aFe{H:Type}{enc:TypeId×aL1->H}{P:Program}{W:aL0}{base fuel:Nat}{hd:Bool}{t e:TypeId}{cs:List aL1}{x:DataW H×List MemPlace}(ht:P.underlying t=some (.slice e))(he:P.underlying e=some .bool)(hc:P.cellsOf e=1)
 (hf:DataW.trod enc P W base (λ_=>true) hd fuel t cs=some x):∃(v:aL1) (zs:List Bool),cs=[v]/\Sl W v (zs.map Value.bool)/\zs.length<=9223372036854775807:=by
 rcases Go.Deep.open_bools ht he hc hf with⟨hcs,-⟩|⟨a,len,cap,B,hcs,_,hl,hm,-,hcell⟩
 .exact ⟨_,[],hcs,⟨none,0,0,rfl,rfl,aJO _,λh=>absurd h (by simp)⟩,by simp⟩
 .unfold maxLen at hm
  refine⟨_,(List.range len).map B,hcs,⟨some a,len,cap,rfl,by simp,hl,λh0=> ?_⟩,by simp;omega⟩
  obtain⟨b,off,e,h2⟩:=asL (g:=λi=> .bool (B i)) h0 (λi hi=>by rw[hcell i (by omega)])
  refine⟨b,off,by rw[e],λi hi=> ?_⟩
  rw[h2 i hi]
  simp[hi]
theorem aEu{H:Type}{enc:TypeId×aL1->H}{P:Program}{W:aL0}{base fuel:Nat}{hd:Bool}{t e2 e4:TypeId}{f0 f1 f2 f3 f4 f5 f6 f7:Field}{cs:List aL1}{x:DataW H×List MemPlace}
 (ht:P.underlying t=some (.struct #[f0,f1,f2,f3,f4,f5,f6,f7])) (h0:P.underlying f0.type=some (.int .i64)) (h1:P.underlying f1.type=some (.int .i64)) (h2:P.underlying f2.type=some (.slice e2)) (h2':P.underlying e2=some (.int .u8)) (h3:P.underlying f3.type=some .bool) (h4:P.underlying f4.type=some (.slice e4)) (h4':P.underlying e4=some .bool) (h5:P.underlying f5.type=some (.int .i64)) (h6:P.underlying f6.type=some (.int .u8)) (h7:P.underlying f7.type=some (.int .i64))
 (ho:[f0.offset,f1.offset,f2.offset,f3.offset,f4.offset,f5.offset,f6.offset,f7.offset]=[0,1,2,3,4,5,6,7]) (hc:[P.cellsOf f0.type,P.cellsOf f1.type,P.cellsOf f2.type,P.cellsOf f3.type,P.cellsOf f4.type,P.cellsOf f5.type,P.cellsOf f6.type,P.cellsOf f7.type,P.cellsOf e2,P.cellsOf e4,P.cellsOf t]=[1,1,1,1,1,1,1,1,1,1,8])
 (hf:DataW.trod enc P W base (λ_=>true) hd fuel t cs=some x):∃a:agB,cs=LR a/\YQ W a:=by
 simp only[aLu,and_true]at ho hc
 obtain⟨o0,o1,o2,o3,o4,o5,o6,o7⟩:=ho
 obtain⟨c0,c1,c2,c3,c4,c5,c6,c7,ce2,ce4,ct⟩:=hc
 obtain⟨xs,n,_,rfl,hl,hlen,hff⟩:=DataW.trod_struct ht hf
 match xs,hlen with
 |[y0,y1,y2,y3,y4,y5,y6,y7],_=>
  have g0:=hff 0 f0 rfl
  have g1:=hff 1 f1 rfl
  have g2:=hff 2 f2 rfl
  have g3:=hff 3 f3 rfl
  have g4:=hff 4 f4 rfl
  have g5:=hff 5 f5 rfl
  have g6:=hff 6 f6 rfl
  have g7:=hff 7 f7 rfl
  rw[o0,c0]at g0
  rw[o1,c1]at g1
  rw[o2,c2]at g2
  rw[o3,c3]at g3
  rw[o4,c4]at g4
  rw[o5,c5]at g5
  rw[o6,c6]at g6
  rw[o7,c7]at g7
  obtain⟨a0,e0,_,w0⟩:=DataW.trod_int h0 g0
  obtain⟨a1,e1,_,w1⟩:=DataW.trod_int h1 g1
  obtain⟨bv,zs,e2',sb,lb,wb⟩:=aGR h2 h2' ce2 g2
  obtain⟨c,e3,_⟩:=DataW.trod_bool h3 g3
  obtain⟨kv,ks,e4',sk,lk⟩:=aFe h4 h4' ce4 g4
  obtain⟨a5,e5,_,w5⟩:=DataW.trod_int h5 g5
  obtain⟨a6,e6,_,w6⟩:=DataW.trod_int h6 g6
  obtain⟨a7,e7,_,w7⟩:=DataW.trod_int h7 g7
  rw[ct]at hl
  match cs,hl with
  |[x0,x1,x2,x3,x4,x5,x6,x7],_=>
   simp at e0 e1 e2' e3 e4' e5 e6 e7
   subst e2' e4'
   exact⟨⟨a0,a1,x2,zs,c,x4,ks,a5,a6,a7⟩,by rw[e0,e1,e3,e5,e6,e7]<;>rfl,⟨w0,w1,sb,lb,wb,sk,lk,w5,w6,w7⟩⟩
theorem aBN{H:Type}{enc:TypeId×aL1->H}{P:Program}{W:aL0}{base b0:Nat}{r:Reach}{hd:Bool}{t e e2 e4:TypeId}{f0 f1 f2 f3 f4 f5 f6 f7:Field}{v:aL1}{d:DataW H}{ps:List MemPlace}
 (hs:P.underlying t=some (.slice e)) (ht:P.underlying e=some (.struct #[f0,f1,f2,f3,f4,f5,f6,f7])) (h0:P.underlying f0.type=some (.int .i64)) (h1:P.underlying f1.type=some (.int .i64)) (h2:P.underlying f2.type=some (.slice e2)) (h2':P.underlying e2=some (.int .u8)) (h3:P.underlying f3.type=some .bool) (h4:P.underlying f4.type=some (.slice e4)) (h4':P.underlying e4=some .bool) (h5:P.underlying f5.type=some (.int .i64)) (h6:P.underlying f6.type=some (.int .u8)) (h7:P.underlying f7.type=some (.int .i64))
 (ho:[f0.offset,f1.offset,f2.offset,f3.offset,f4.offset,f5.offset,f6.offset,f7.offset]=[0,1,2,3,4,5,6,7]) (hc:[P.cellsOf f0.type,P.cellsOf f1.type,P.cellsOf f2.type,P.cellsOf f3.type,P.cellsOf f4.type,P.cellsOf f5.type,P.cellsOf f6.type,P.cellsOf f7.type,P.cellsOf e2,P.cellsOf e4,P.cellsOf e]=[1,1,1,1,1,1,1,1,1,1,8])
 (hval:Value.okWide P W r b0 t v) (h:DataW.Trod enc P W base (λ_=>true) hd t v d ps):
 ∃xs:List agB,Cl W 8 v xs.length (xs.flatMap LR)/\xs.length<=9223372036854775807/\∀x∈xs,YQ W x:=by
 obtain⟨a0,len,cap,rfl⟩:=okWide_slice hs hval
 obtain⟨fuel,hf⟩:=h
 have fl:∀xs:List agB,(xs.flatMap LR).length=xs.length*8:=λxs=>by
  induction xs with
  |nil=>rfl
  |cons z zs ih=>rw[aKz,aJF,ih,aJX];simp[LR];omega
 have ct:P.cellsOf e=8:=by
  simp only[aLu,and_true]at hc
  exact hc.2.2.2.2.2.2.2.2.2.2
 rcases open_slice hs hf with⟨hcs,-⟩|⟨a,len',cap',m,n,D,Pl,hcs,_,hl,hm,hmm,_,hx⟩
 .have:Value.slice a0 len cap= .slice none 0 0:=by simpa[Value.cells]using hcs
  cases this
  exact⟨[],⟨none,0,rfl,rfl,λh=>absurd h (by simp)⟩,by simp,by simp⟩
 .have:Value.slice a0 len cap= .slice (some a) len' cap':=by simpa[Value.cells]using hcs
  cases this
  unfold maxLen at hm
  have hlm:len<=m:=by rw[hmm];split<;>omega
  have inh:Inhabited agB:=⟨⟨0,0,.slice none 0 0,[],false,.slice none 0 0,[],0,0,0⟩⟩
  have hex:∀i,i<len->∃z:agB,YQ W z/\∀j,j<8->W.cell? ((a.add (i*8)).add j)=(LR z)[j]?:=λi hi=>by
   obtain⟨cs',h1',h2'⟩:=hx i (by omega)
   rw[ct]at h1'
   obtain⟨z,rfl,hw⟩:=aEu ht h0 h1 h2 ‹_› h3 h4 h4' h5 h6 h7 ho hc h2'
   obtain⟨_,hlen,hcc⟩:=World.cells?_some h1'
   exact⟨z,hw,λj hj=>hcc j hj⟩
  obtain⟨Z,hZ⟩:=choose_lt (α:=agB) (n:=len) (p:=λi z=>YQ W z/\∀j,j<8->W.cell? ((a.add (i*8)).add j)=(LR z)[j]?) hex
  refine⟨(List.range len).map Z,⟨some a,cap,by simp,by rw[fl],λhpos=> ?_⟩,by simp;omega,λz hz=> ?_⟩
  .have hpos:0<len:=by simpa using hpos
   obtain⟨b,off,spot⟩:=a
   have hs:spot=none:=by
    have h0:=(hZ 0 hpos).2 0 (by omega)
    simp[LR]at h0
    unfold World.cell? at h0
    split at h0
    .cases spot
     .rfl
     .simp [Addr.add]at h0
    .cases h0
   subst hs
   refine⟨b,off,rfl,λi hi=> ?_⟩
   rw[fl,aJC,aK2]at hi
   have hq:i/8<len:=by omega
   have key:=(hZ (i/8) hq).2 (i%8) (aLo _ (by omega))
   rw[add_add,show i/8*8+i%8=i from by omega,CP]at key
   rw[key]
   have get:∀(zs:List agB) (i j:Nat),j<8->(zs.flatMap LR)[i*8+j]?=(zs[i]?).bind λz=>(LR z)[j]?:=by
    intro zs
    induction zs with
    |nil=>intro i j _;simp
    |cons z zs ih=>
     intro i j hj
     have e3:(LR z).length=8:=rfl
     rw[aKz]
     cases i with
     |zero=>rw[aJ0 (by rw[e3];omega)];simp
     |succ i=>
      rw[aJ2 (by rw[e3];omega),e3,show(i+1)*8+j-8=i*8+j from by omega,ih i j hj]
      simp
   have h3:=get ((List.range len).map Z) (i/8) (i%8) (aLo _ (by omega))
   rw[show i/8*8+i%8=i from by omega]at h3
   rw[h3,aJ4,List.getElem?_range hq]
   rfl
  .obtain ⟨i,hi,rfl⟩:=aKq.1 hz
   exact(hZ i (aKv.1 hi)).1
end Go.En
namespace Go.Proofs.YteelnmpbnaohpaaGreatDoor
open Go Go.En Go.Pu
theorem aGD{W:aL0}{x:agB}(h:YQ W x):∃v:arV,acC v=LR x/\anA W v:=by
 obtain⟨l,hl,hll⟩:=awP x.zs h.wb
 have g0: -9223372036854775808<=x.a1/\x.a1<=9223372036854775807:=by simpa[Lit.wf,IntKind.min,IntKind.max,IntKind.signed,IntKind.bits]using h.w1
 have g7: -9223372036854775808<=x.a7/\x.a7<=9223372036854775807:=by simpa[Lit.wf,IntKind.min,IntKind.max,IntKind.signed,IntKind.bits]using h.w7
 have g6:0<=x.a6/\x.a6<=255:=by simpa[Lit.wf,IntKind.min,IntKind.max,IntKind.signed,IntKind.bits]using h.w6
 refine⟨⟨⟨x.a0,x.a1,l,x.c,x.ks,x.a5,x.a6.toNat,x.a7⟩,x.bv,x.kv⟩, ?_, ?_⟩
 .show [Value.int .i64 x.a0,.int .i64 x.a1,x.bv,.bool x.c,x.kv,.int .i64 x.a5,.int .u8 ((x.a6.toNat:Nat):Int),.int .i64 x.a7]=LR x
  rw[Int.toNat_of_nonneg g6.1]
  rfl
 .exact ⟨by show Sl W x.bv (l.map gT);rw[<-hl];exact h.sb,h.sk,h.lk,by show x.a6.toNat<256;omega,g0,g7.1,by show l.length<=_;rw[hll];exact h.lb⟩
theorem aAf{W:aL0}:∀xs:List agB,(∀x∈xs,YQ W x)->∃acs:List arV,acs.length=xs.length/\acs.flatMap acC=xs.flatMap LR/\∀v∈acs,anA W v
 |[],_=>⟨[],rfl,rfl,λv hv=>(nomatch hv)⟩
 |x::r,h=>by
  obtain⟨v,h1,h2⟩:=aGD (h x aJ7)
  obtain⟨l,h3,h4,h5⟩:=aAf r λy hy=>h y (aJT _ hy)
  refine⟨v::l,by rw[aJX,h3,aJX],by rw[aKz,h1,h4,aKz],λy hy=> ?_⟩
  rcases aJK.1 hy with rfl|hy
  .exact h2
  .exact h5 y hy
end Go.Proofs.YteelnmpbnaohpaaGreatDoor

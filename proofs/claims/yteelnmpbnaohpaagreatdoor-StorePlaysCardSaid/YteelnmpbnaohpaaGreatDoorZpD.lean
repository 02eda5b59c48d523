/- Parts of the proof of StorePlays: merged and given short names by a program of ours. -/
import Derived.Test.YteelnmpbnaohpaaGreatDoorZpC
set_option linter.unusedVariables false
set_option linter.unusedSimpArgs false
open Array renaming getElem?_eq_none → aKn
open Bool renaming false_eq_true → aJM, and_eq_true → aJQ, not_false → aKC, false_and → aKH, true_and → aKM, not_true → aKS, or_eq_true → aKu, or_false → aLB, and_eq_false_iff → aLR, false_or → aLi, or_eq_false_iff → aLm
open Int renaming toNat_natCast → aJI, tdiv_eq_ediv_of_nonneg → aLC
open List renaming getElem?_append_left → aJ0, nil_append → aJ1, getElem?_append_right → aJ2, take_succ_eq_append_getElem → aJ3, getElem?_map → aJ4, mem_cons_self → aJ7, length_replicate → aJ9, length_map → aJC, getElem?_cons_zero → aJD, getElem?_eq_getElem → aJE, length_append → aJF, take_of_length_le → aJH, getElem?_cons_succ → aJJ, mem_cons → aJK, getD_eq_getElem?_getD → aJL, mem_nil_iff → aJN, length_take → aJP, length_drop → aJS, mem_cons_of_mem → aJT, map_cons → aJU, set_cons_zero → aJV, append_assoc → aJW, length_cons → aJX, drop_zero → aJY, toList_toArray → aJZ, length_range → aK2, getElem?_drop → aK7, drop_eq_getElem_cons → aKB, length_nil → aKD, getElem?_take_of_lt → aKE, map_congr_left → aKK, size_toArray → aKL, take_append_drop → aKN, mem_of_getElem? → aKR, length_singleton → aKV, map_set → aKW, map_append → aKb, length_eq_zero_iff → aKd, append_nil → aKf, mem_append → aKg, set_cons_succ → aKi, set_append_right → aKj, mem_singleton → aKm, getElem_mem → aKp, mem_map → aKq, length_set → aKr, getElem?_eq_none → aKt, mem_range → aKv, drop_of_length_le → aKw, flatMap_cons → aKz, mem_flatMap → aLA, map_take → aLD, replicate_succ → aLH, map_replicate → aLK, getElem?_set → aLN, length_filter_le → aLS, map_nil → aLU, replicate_succ' → aLW, set_append_left → aLa, cons_append → aLe, drop_drop → aLf, range_succ → aLh, map_drop → aLj, mem_of_mem_take → aLn, getElem_map → aLq, getElem_of_mem → aLs, replicate_zero → aLt, ext_getElem → aLz
open Nat renaming min_eq_left → aJ5, zero_add → aJG, le_refl → aJO, le_trans → aK5, add_sub_cancel_left → aKG, sub_self → aKT, lt_of_lt_of_le → aKe, mod_eq_of_lt → aKl, add_assoc → aKy, xor_assoc → aLE, div_le_self → aLI, mul_comm → aLL, add_zero → aLX, zero_mul → aLZ, pow_le_pow_right → aLb, mod_lt → aLo, pow_succ → aLr, ne_of_lt → aLy
open Option renaming getD_some → aKF, isNone_some → aKI, isNone_none → aKY, isSome_none → aLM
open Option.some renaming injEq → aKc
open Prod.mk renaming injEq → aLF
open UInt8 renaming toNat_ofNat' → aKZ
namespace Go.Proofs.YteelnmpbnaohpaaGreatDoor
open Go Go.En Go.Pu
set_option maxRecDepth 4000
abbrev xV(m:Gh)(lv:aL1):List aL1:=[.int .u64 (m.size:Nat),.int .u32 (m.part:Nat),lv]
abbrev stC(p:Nat)(s:eT)(lv hv:aL1):List aL1:=
 [dP p,.string s.nm,.int .u64 (s.man.size:Nat),.int .u32 (s.man.part:Nat),lv,.int .u64 (s.epoch:Nat),hv,.int .i64 (s.log:Nat),.bool s.fin,.int .i64 s.err]
abbrev V6 (l:List (List UInt8)):List aL1:=l.flatMap λx=>x.map gT
structure CM(m:Gh):Prop where
 size:m.size<=1000000
 part:1<=m.part/\m.part<=65536
 cnt:m.leaves.length=lD m.size m.part
 max:lD m.size m.part<=1024
 len:∀x∈m.leaves,x.length=32
def aBh(w:aL0)(T:Nat->Prop)(lv:aL1)(l:List (List UInt8)):Prop:=Cl w 32 lv l.length (V6 l)/\¬fK lv T
theorem dS{w w':aL0}{sz n:Nat}{v:aL1}{l:List aL1}{M:Nat->Prop}(h:Cl w sz v n l)(x:aL w w' M)(hM:¬fK v M):Cl w' sz v n l:=by
 obtain⟨a,c,rfl,hl,hh⟩:=h
 refine⟨a,c,rfl,hl,λh0=> ?_⟩
 obtain⟨b,off,rfl,h2⟩:=hh h0
 refine⟨b,off,rfl,λi hi=> ?_⟩
 have hb:¬M b:=λhm=>hM (by
  obtain⟨n',rfl⟩:∃n',n=n'+1:=⟨n-1,by omega⟩
  exact hm)
 obtain⟨y,hy⟩:∃y,l[i]?=some y:=⟨_,aJE hi⟩
 rw[<-h2 i hi]
 have h3:=h2 i hi
 rw[hy]at h3
 rw[vW h3 x hb,h3]
theorem Wn{w:aL0}{sz n:Nat}{v:aL1}{l:List aL1}(h:Cl w sz v n l)(hsz:0<sz):¬fK v (λb=>w.heap.size<=b):=by
 obtain⟨a,c,rfl,hl,hh⟩:=h
 intro hi
 cases n with
 |zero=>unfold fK at hi;split at hi<;>simp_all
 |succ n=>
  obtain⟨b,off,rfl,h2⟩:=hh (by omega)
  have hi:w.heap.size<=b:=hi
  have h3:=h2 0 (by rw[hl];exact Nat.mul_pos (by omega) hsz)
  have hlt:0<l.length:=by rw[hl];exact Nat.mul_pos (by omega) hsz
  rw[aJE hlt]at h3
  unfold World.cell? at h3
  rw[aKn hi]at h3
  cases h3
structure eC(n0:Nat)(w:aL0)(q p:Nat)(X D Y:Nat->Prop)(S:cG)(s:eT)(lv hv:aL1):Prop where
 glob:nQ w
 g0:0<n0/\1<n0
 lo:∀b,X b∨Y b->n0<=b
 hi:n0<=w.heap.size
 dsk:fS w p X D S
 yq:Y q
 yd:∀b,Y b->D b/\¬X b
 own:bD w q (stC p s lv hv)
 man:CM s.man
 lv:aBh w (λb=>X b∨Y b) lv s.man.leaves
 hv:DJ w (λb=>Y b/\b≠q) 1 hv s.hv.length (s.hv.map Value.bool)
 ep:s.epoch<18446744073709551616
 lg:s.log<=1000000000
 hl:s.hv.length<=1024
 nl:s.nm.size<=27
def bY(n0:Nat)(w:aL0)(q p:Nat)(X D Y:Nat->Prop)(S':cG)(s':eT)(w':aL0):Prop:=
 ∃X' D' Y' lv hv,eC n0 w' q p X' D' Y' S' s' lv hv/\(∀b,X' b->X b∨w.heap.size<=b)/\(∀b,D b->D' b)/\(∀b,Y' b->Y b∨w.heap.size<=b)/\aL w w' (λb=>X b∨Y b)
theorem bY.refl {n0:Nat}{w:aL0}{q p:Nat}{X D Y:Nat->Prop}{S:cG}{s:eT}{lv hv:aL1}(h:eC n0 w q p X D Y S s lv hv):bY n0 w q p X D Y S s w:=
 ⟨X,D,Y,lv,hv,h,λ_ h=> .inl h,λ_ h=>h,λ_ h=> .inl h,aL.refl _ _⟩
theorem bY.step {n0:Nat}{w w1 w2:aL0}{q p:Nat}{X D Y X1 D1 Y1:Nat->Prop}{S2:cG}{s2:eT}(x:aL w w1 (λb=>X b∨Y b))(hX:∀b,X1 b->X b∨w.heap.size<=b)(hD:∀b,D b->D1 b)(hY:∀b,Y1 b->Y b∨w.heap.size<=b)
 (h:bY n0 w1 q p X1 D1 Y1 S2 s2 w2):bY n0 w q p X D Y S2 s2 w2:=by
 obtain⟨X2,D2,Y2,lv,hv,h1,h2,h3,h4,h5⟩:=h
 have z:=x.size
 refine⟨X2,D2,Y2,lv,hv,h1,λb hb=> ?_,λb hb=>h3 b (hD b hb),λb hb=> ?_,x.trans h5 λb hb hx=> ?_⟩
 .rcases h2 b hb with h|h
  .exact hX b h
  .exact .inr (by omega)
 .rcases h4 b hb with h|h
  .exact hY b h
  .exact .inr (by omega)
 .rcases hx with h|h
  .rcases hX b h with h|h
   .exact .inl h
   .omega
  .rcases hY b h with h|h
   .exact .inr h
   .omega
theorem fS.xd' {w:aL0}{p:Nat}{X D:Nat->Prop}{S:cG}(h:fS w p X D S):∀b,X b->D b:=by
 obtain⟨_,_,_,_,_,_,_,_,_,_,_,_,h7,_⟩:=h;exact h7
theorem aBh.keep {w w':aL0}{T:Nat->Prop}{lv:aL1}{l:List (List UInt8)}(h:aBh w T lv l)(x:aL w w' T){T':Nat->Prop}(hT:∀b,T' b->T b∨w.heap.size<=b):aBh w' T' lv l:=by
 refine⟨dS h.1 x h.2,λhi=> ?_⟩
 have h3:=Wn h.1 (by decide)
 obtain⟨a,c,rfl,hl,hh⟩:=h.1
 have h2:=h.2
 unfold fK at hi h2 h3
 split at hi
 .rename_i e
  simp only[Value.slice.injEq]at e
  obtain⟨rfl,e2,rfl⟩:=e
  rw[e2]at h2 h3
  rcases hT _ hi with h4|h4
  .exact h2 h4
  .exact h3 h4
 .exact hi
theorem eC.ext {n0:Nat}{w w':aL0}{q p:Nat}{X D Y M:Nat->Prop}{S:cG}{s:eT}{lv hv:aL1}(h:eC n0 w q p X D Y S s lv hv)(x:aL w w' M)(hM:∀b,M b->D b/\¬X b/\¬Y b/\n0<=b)(hl:¬fK lv M):eC n0 w' q p X D Y S s lv hv:=by
 have hg:=h.g0
 refine⟨h.glob.extM x (λhm=>by have:=(hM _ hm).2.2.2;omega) (λhm=>by have:=(hM _ hm).2.2.2;omega),h.g0,h.lo,aK5 h.hi x.size,h.dsk.ext x λb hb=>⟨(hM b hb).1,(hM b hb).2.1⟩,h.yq,h.yd,h.own.ext x (λhm=>(hM _ hm).2.2.1 h.yq),h.man,⟨dS h.lv.1 x hl,h.lv.2⟩,h.hv.ext x λb hb hm=>(hM _ hm).2.2.1 hb.1,h.ep,h.lg,h.hl,h.nl⟩
theorem eC.new {n0:Nat}{w w':aL0}{q p:Nat}{X D Y:Nat->Prop}{S:cG}{s:eT}{lv hv:aL1}(h:eC n0 w q p X D Y S s lv hv)(x:aL w w' aT):eC n0 w' q p X D Y S s lv hv:=
 h.ext x (λ_ h=>h.elim) (bC _)
theorem eC.lt {n0:Nat}{w:aL0}{q p:Nat}{X D Y:Nat->Prop}{S:cG}{s:eT}{lv hv:aL1}(h:eC n0 w q p X D Y S s lv hv):∀b,X b∨Y b->b<w.heap.size:=λb hb=>by
 rcases hb with hb|hb
 .exact fS.lt h.dsk b (fS.xd' h.dsk b hb)
 .exact fS.lt h.dsk b (h.yd b hb).1
theorem eC.disk {n0:Nat}{w w':aL0}{q p:Nat}{X D Y:Nat->Prop}{S S':cG}{s:eT}{lv hv:aL1}(h:eC n0 w q p X D Y S s lv hv)(hp:CA w p X D S' w'):
 ∃X' D',eC n0 w' q p X' D' Y S' s lv hv/\(∀b,X' b->X b∨w.heap.size<=b)/\(∀b,D b->D' b)/\aL w w' X:=by
 obtain⟨X',D',h1,h2,h3,x⟩:=hp
 have z:=x.size
 have hh:=h.hi
 have hn:∀b,Y b->¬X b:=λb hb=>(h.yd b hb).2
 refine⟨X',D',⟨h.glob.extM x (λhm=>by have:=h.lo _ (.inl hm);have:=h.g0;omega) (λhm=>by have:=h.lo _ (.inl hm);have:=h.g0;omega),h.g0,λb hb=> ?_,by omega,h1,h.yq,λb hb=>⟨h3 b (h.yd b hb).1,λhx=> ?_⟩,h.own.ext x (hn _ h.yq),h.man,h.lv.keep (x.mono λ_ _ h=> .inl h) λb hb=> ?_,h.hv.ext x λb hb=>hn b hb.1,h.ep,h.lg,h.hl,h.nl⟩,h2,h3,x⟩
 .rcases hb with hb|hb
  .rcases h2 b hb with h4|h4
   .exact h.lo b (.inl h4)
   .omega
  .exact h.lo b (.inr hb)
 .rcases h2 b hx with h4|h4
  .exact (h.yd b hb).2 h4
  .have:=eC.lt h b (.inr hb);omega
 .rcases hb with hb|hb
  .rcases h2 b hb with h4|h4
   .exact .inl (.inl h4)
   .exact .inr h4
  .exact .inl (.inr hb)
theorem eC.cells {n0:Nat}{w:aL0}{q p:Nat}{X D Y:Nat->Prop}{S:cG}{s:eT}{lv hv:aL1}(h:eC n0 w q p X D Y S s lv hv):
 w.cell? ⟨q,0,none⟩=some (dP p)/\w.cell? ⟨q,1,none⟩=some (.string s.nm)/\w.cell? ⟨q,2,none⟩=some (.int .u64 (s.man.size:Nat))/\w.cell? ⟨q,3,none⟩=some (.int .u32 (s.man.part:Nat))/\w.cell? ⟨q,4,none⟩=some lv/\
 w.cell? ⟨q,5,none⟩=some (.int .u64 (s.epoch:Nat))/\w.cell? ⟨q,6,none⟩=some hv/\w.cell? ⟨q,7,none⟩=some (.int .i64 (s.log:Nat))/\w.cell? ⟨q,8,none⟩=some (.bool s.fin)/\w.cell? ⟨q,9,none⟩=some (.int .i64 s.err):=
 ⟨h.own.cell (off:=0),h.own.cell (off:=1),h.own.cell (off:=2),h.own.cell (off:=3),h.own.cell (off:=4),h.own.cell (off:=5),h.own.cell (off:=6),h.own.cell (off:=7),h.own.cell (off:=8),h.own.cell (off:=9)⟩
theorem eC.set {n0:Nat}{w w':aL0}{q p:Nat}{X D Y:Nat->Prop}{S:cG}{s s':eT}{lv hv:aL1}(h:eC n0 w q p X D Y S s lv hv)(x:aL w w' (λy=>y=q))(o:bD w' q (stC p s' lv hv))(hm:s'.man=s.man)(hh:s'.hv=s.hv)(hn:s'.nm=s.nm)
 (he:s'.epoch<18446744073709551616) (hl:s'.log<=1000000000):eC n0 w' q p X D Y S s' lv hv:=by
 have hq:=h.yd q h.yq
 have hqn:=h.lo q (.inr h.yq)
 have hg:=h.g0
 refine⟨h.glob.extM x (by omega) (by omega),h.g0,h.lo,aK5 h.hi x.size,h.dsk.ext x λb hb=>hb▸hq,h.yq,h.yd,o,hm▸h.man, ?_, ?_,he,hl,hh▸h.hl,hn▸h.nl⟩
 .rw [hm]
  exact h.lv.keep (x.mono λb _ hb=> .inr (hb▸h.yq)) λb hb=> .inl hb
 .rw [hh]
  exact h.hv.ext x λb hb h=>hb.2 h
theorem Tw(x y:ByteArray):(x.toList==y.toList)=decide (x=y):=by
 rw[ByteArray.toList_eq,ByteArray.toList_eq]
 by_cases h:x=y
 .subst h;simp
 .rw [decide_eq_false h]
  refine beq_eq_false_iff_ne.2 λe=>h ?_
  cases x;cases y
  simp at e
  rw[e]
theorem ayS{P:Program}{w:aL0}{t:TypeId}{ox oy:Operand}(x y:ByteArray):(aE .lss t ox oy (.string x) (.string y)).run P w= .ok (.value (.bool (RM x y))) w:=by
 simp[aE,Eo,jJ,binOp,Op.stringOp,RM]
abbrev rfC(l:cO):List aL1:=l.flatMap λp=>[.string p.1,.string ⟨p.2.toArray⟩]
def Qu(Z:Nat->Prop)(w:aL0)(v:aL1)(l:cO):Prop:=Cl w 2 v l.length (rfC l)/\¬fK v Z/\∀b,Z b->b<w.heap.size
variable{Z:Nat->Prop}
theorem Tt(l:cO):(rfC l).length=l.length*2:=by
 induction l with
 |nil=>rfl
 |cons p r ih=>simp only[rfC,aKz,aJF,aJX,aKD]at ih⊢;omega
theorem aAN(l:cO):∀y∈rfC l,one y=true:=λy hy=>by
 obtain⟨p,-,hy⟩:=aLA.1 hy
 simp only[aJK,aJN,or_false]at hy
 rcases hy with rfl|rfl<;>rfl
theorem aqT:∀{l:cO} {i:Nat} (hi:i<l.length),(rfC l)[i*2]?=some (.string l[i].1)/\(rfC l)[i*2+1]?=some (.string ⟨l[i].2.toArray⟩)
 |p::r,0,_=>⟨rfl,rfl⟩
 |p::r,i+1,hi=>by
  have h:=aqT (l:=r) (i:=i) (by simp at hi;omega)
  rw[show(i+1)*2=i*2+1+1 from by omega]
  exact h
theorem Qu.at {w:aL0}{v:aL1}{l:cO}(h:Qu Z w v l){i:Nat}(hi:i<l.length):∃a off c,v= .slice (some ⟨a,off,none⟩) l.length c/\w.cell? ⟨a,off+i*2,none⟩=some (.string l[i].1)/\w.cell? ⟨a,off+i*2+1,none⟩=some (.string ⟨l[i].2.toArray⟩):=by
 obtain⟨⟨a,c,rfl,hl,hh⟩,_⟩:=h
 obtain⟨b,off,rfl,h2⟩:=hh (by omega)
 obtain⟨h3,h4⟩:=aqT hi
 have hln:=Tt l
 refine⟨b,off,c,rfl, ?_, ?_⟩
 .rw [h2 _ (by omega),h3]
 .rw [aKy,h2 _ (by omega),h4]
theorem Qu.len {w:aL0}{v:aL1}{l:cO}(h:Qu Z w v l):∃a c,v= .slice a l.length c:=by
 obtain⟨⟨a,c,rfl,_⟩,_⟩:=h
 exact⟨a,c,rfl⟩
theorem Qu.new {w w':aL0}{v:aL1}{l:cO}(h:Qu Z w v l)(x:aL w w' aT):Qu Z w' v l:=⟨dS h.1 x (bC _),h.2.1,λb hb=>aKe (h.2.2 b hb) x.size⟩
theorem Zy{w:aL0}{base sz n:Nat}{v:aL1}{l:List aL1}(h:mP w base sz v n l)(hZ:∀b,Z b->b<base):¬fK v Z:=by
 intro hi
 rcases h.2 with⟨rfl,_⟩|⟨b,c,rest,rfl,hb,_⟩
 .exact hi
 .unfold fK at hi
  split at hi
  .rename_i e
   simp only[Value.slice.injEq,aKc]at e
   obtain⟨rfl,_⟩:=e
   exact absurd (hZ _ hi) (by show¬b<base;omega)
  .exact hi
theorem Ze{n:ByteArray}:∀{l:cO} {i:Nat},(∀j (hj:j<l.length),j<i->l[j].1≠n)->bF n l=bF n (l.drop i)
 |_,0,_=>rfl
 |[],i+1,_=>rfl
 |p::r,i+1,h=>by
  have h0:=h 0 (by simp) (by omega)
  simp only[bF]
  rw[if_neg (λe=>h0 e.symm),List.drop_succ_cons]
  exact Ze λj hj hji=>by
   have:=h (j+1) (by simp;omega) (by omega)
   simpa using this
theorem Yi{v:aL1}{l:cO}{n:ByteArray}{w:aL0}(h:Qu Z w v l)(hl:l.length<=1000000):
 aG pg Ab #[v,.string n] w (λr w'=>w'=w/\((bF n l=none/\r= .int .i64 (-1))∨∃i,∃hi:i<l.length,bF n l=some l[i].2/\l[i].1=n/\r= .int .i64 (i:Nat))):=by
 refine aeE ?_
 obtain⟨RR,hRR⟩:∃RR:aL1->aL0->Prop,RR=λr w'=>w'=w/\((bF n l=none/\r= .int .i64 (-1))∨∃i,∃hi:i<l.length,bF n l=some l[i].2/\l[i].1=n/\r= .int .i64 (i:Nat)):=⟨_,rfl⟩
 rw[<-hRR]
 obtain⟨a,c,hv⟩:=h.len
 subst hv
 unfold aiT UK UJ Lk Lj UI Fo
 refine bM.rule (λm (t:aL1) w'=>∃i:Nat,m=l.length-i/\i<=l.length/\t= .int .i64 (i:Nat)/\w'=w/\∀j (hj:j<l.length),j<i->l[j].1≠n) l.length
  ⟨0,rfl,by omega,rfl,rfl,λj _ h=>by omega⟩ ?_
 rintro m t w' ⟨i,rfl,hi,rfl,rfl,hne⟩
 unfold Li
 by_cases hlt:i<l.length
 .have d1:decide ((i:Int)<(l.length:Int))=true:=by simp;omega
  obtain⟨b,off,c',he,h1,h2⟩:=h.at hlt
  simp only[Value.slice.injEq]at he
  obtain⟨rfl,-,rfl⟩:=he
  have hin:(i:Int).toNat=i:=aJI _
  have q1:(i:Int)+1=((i+1:Nat):Int):=by omega
  by_cases hn:l[i].1=n
  .have k1:(l[i].1.toList==n.toList)=true:=by rw[Tw,decide_eq_true hn]
   simp(disch:=omega)only[SV,d1,hin,h1,Lg,k1]
   rw[hRR]
   refine⟨rfl,.inr ⟨i,hlt, ?_,hn,rfl⟩⟩
   rw[Ze hne,aKB hlt]
   simp only[bF]
   rw[if_pos hn.symm]
  .have k1:(l[i].1.toList==n.toList)=false:=by rw[Tw,decide_eq_false hn]
   have hq:∀j (hj:j<l.length),j<i+1->l[j].1≠n:=λj hj hji=>by
    by_cases hj2:j=i
    .subst hj2;exact hn
    .exact hne j hj (by omega)
   have hqq:∃m,m<l.length-i/\∃i':Nat,m=l.length-i'/\i'<=l.length/\Value.int .i64 ((i+1:Nat):Int)= .int .i64 (i':Nat)/\w'=w'/\∀j (hj:j<l.length),j<i'->l[j].1≠n:=⟨l.length-(i+1),by omega,i+1,rfl,by omega,rfl,rfl,hq⟩
   simp(disch:=omega)only[SV,d1,hin,h1,Lg,k1,q1]
   first|exact hqq|exact⟨l.length-(i+1),by omega,i+1,rfl,by omega,rfl,hq⟩
 .have d1:decide ((i:Int)<(l.length:Int))=false:=by simp;omega
  unfold Lh
  simp(disch:=omega)only[SV,d1]
  rw[hRR]
  refine⟨rfl,.inl ⟨?_,rfl⟩⟩
  rw[Ze hne,aKw (by omega)]
  rfl
theorem aEb{n:ByteArray}{l:cO}{i:Nat}(hi:i<l.length):M7 n (l.take (i+1))=if l[i].1=n then M7 n (l.take i)else M7 n (l.take i)++[l[i]]:=by
 unfold M7
 rw[aJ3 hi,List.filter_append]
 by_cases h:l[i].1=n
 .rw [if_pos h,List.filter_cons_of_neg (by simpa using h)];simp
 .rw [if_neg h,List.filter_cons_of_pos (by simpa using h)];simp
theorem afV(a b:cO):rfC (a++b)=rfC a++rfC b:=by simp[rfC]
theorem akC{v:aL1}{l:cO}{n:ByteArray}{w:aL0}(h:Qu Z w v l)(hl:l.length<=1000000):
 aG pg vI #[v,.string n] w (λr w'=>mP w' w.heap.size 2 r (M7 n l).length (rfC (M7 n l))/\aL w w' aT):=by
 refine VE ?_
 obtain⟨RR,hRR⟩:∃RR:aL1->aL0->Prop,RR=λr w'=>mP w' w.heap.size 2 r (M7 n l).length (rfC (M7 n l))/\aL w w' aT:=⟨_,rfl⟩
 rw[<-hRR]
 obtain⟨a,c,hv⟩:=h.len
 subst hv
 unfold UW Kr Kq Ez Ey Mz Au
 refine bM.rule (λm (t:aL1×aL1) w'=>∃i:Nat,m=l.length-i/\i<=l.length/\∃ov,t=(ov,.int .i64 (i:Nat))/\mP w' w.heap.size 2 ov (M7 n (l.take i)).length (rfC (M7 n (l.take i)))/\aL w w' aT) l.length
  ⟨0,rfl,by omega,_,rfl,mP.nil _ _ _,aL.refl _ _⟩ ?_
 rintro m t w' ⟨i,rfl,hi,ov,rfl,ho,x⟩
 unfold Ex My
 by_cases hlt:i<l.length
 .have d1:decide ((i:Int)<(l.length:Int))=true:=by simp;omega
  obtain⟨b,off,c',he,h1,h2⟩:=(h.new x).at hlt
  simp only[Value.slice.injEq]at he
  obtain⟨rfl,-,rfl⟩:=he
  have hin:(i:Int).toNat=i:=aJI _
  have q1:(i:Int)+1=((i+1:Nat):Int):=by omega
  have ht:=aEb (n:=n) hlt
  unfold Ew
  by_cases hn:l[i].1=n
  .have k1:(l[i].1.toList==n.toList)=true:=by rw[Tw,decide_eq_true hn]
   rw[if_pos hn]at ht
   simp(disch:=omega)only[SV,d1,hin,h1,ZC,k1,q1]
   exact⟨l.length-(i+1),by omega,i+1,rfl,by omega,ov,rfl,by rw[ht];exact ho,x⟩
  .have k1:(l[i].1.toList==n.toList)=false:=by rw[Tw,decide_eq_false hn]
   rw[if_neg hn]at ht
   have ldF:(aB 85 (.pointer (some ⟨b,off+i*2,none⟩))).run pg w'= .ok (.value (.agg #[.string l[i].1,.string ⟨l[i].2.toArray⟩])) w':=P0 (l:=[.string l[i].1,.string ⟨l[i].2.toArray⟩]) rfl λj hj=>by
    match j,hj with
    |0,_=>rw[aLX];exact h1
    |1,_=>exact h2
   simp(disch:=omega)only[SV,d1,hin,h1,ZC,k1,ldF]
   refine Cg (cells:= #[.string l[i].1,.string ⟨l[i].2.toArray⟩]) (by decide) (by decide) (by kernel_rfl) λw1 o1 x1 s1=> ?_
   have z:=x.size
   have ho1:=ho.ext x1 (λb _ h=>h)
   refine dI ho1 (m:=1) (news:=[.string l[i].1,.string ⟨l[i].2.toArray⟩]) ?_ (λy hy=> ?_) (by have:=x1.size;omega) ?_ λv3 w3 o3 x3=> ?_
   .exact ⟨_,_,rfl,rfl,λ_=>⟨_,0,rfl,λj hj=>by rw[o1.cell,aJG]⟩⟩
   .simp only[aJK,aJN,or_false]at hy
    rcases hy with rfl|rfl<;>rfl
   .have:(M7 n (l.take i)).length<=l.length:=aK5 (aLS _ _) (by rw[aJP];omega)
    omega
   .simp (disch:=omega)only[SV,q1]
    refine⟨l.length-(i+1),by omega,i+1,rfl,by omega,v3,rfl, ?_,(x.seq x1).trans x3 λb hb h=>by omega⟩
    rw[ht,afV,aJF,aKV]
    exact o3
 .have d1:decide ((i:Int)<(l.length:Int))=false:=by simp;omega
  unfold Ev
  simp(disch:=omega)only[SV,d1]
  rw[hRR]
  rw[aJH (by omega)]at ho
  exact⟨ho,x⟩
end Go.Proofs.YteelnmpbnaohpaaGreatDoor
namespace Go.Proofs.YteelnmpbnaohpaaGreatDoor
open Go Go.En Go.Pu
set_option maxRecDepth 4000
variable {Z : Nat -> Prop}
theorem Qu.part {w:aL0}{a:Option Addr}{c i j:Nat}{l:cO}(h:Qu Z w (.slice a l.length c) l)(hij:i<=j)(hj:j<=l.length)(hc:l.length<=c):Cl w 2 (.slice (dD a c i 2) (j-i) (c-i)) ((l.drop i).take (j-i)).length (rfC ((l.drop i).take (j-i))):=by
 have hln:((l.drop i).take (j-i)).length=j-i:=by rw[aJP,aJS];omega
 obtain⟨⟨a',c',he,hl,hh⟩,_⟩:=h
 simp only[Value.slice.injEq]at he
 obtain⟨rfl,-,rfl⟩:=he
 rw[hln]
 refine⟨_,_,rfl,by rw[Tt,hln],λh0=> ?_⟩
 obtain⟨b,off,rfl,h2⟩:=hh (by omega)
 have hs:dD (some ⟨b,off,none⟩) c i 2=some ⟨b,off+i*2,none⟩:=by
  unfold dD
  rw[if_neg (by omega)]
  simp[Addr.add]
 refine⟨b,off+i*2,hs,λx hx=> ?_⟩
 rw[Tt,hln]at hx
 have hd:rfC l=rfC (l.take i)++rfC ((l.drop i).take (j-i))++rfC ((l.drop i).drop (j-i)):=by
  rw[<-afV,<-afV,aJW,aKN,aKN]
 have h3:=h2 (i*2+x) (by rw[Tt];omega)
 have hti:(rfC (l.take i)).length=i*2:=by rw[Tt,aJP,aJ5 (by omega)]
 rw[hd,aJ0 (by rw[aJF,hti,Tt,hln];omega),aJ2 (by omega),hti,aKG]at h3
 rw[aKy]
 exact h3
theorem aA6 {α:Type}{p:α->Bool}:∀{l:List α} {i:Nat},i<=l.length->(∀j (hj:j<l.length),j<i->p l[j]=true)->(∀hi:i<l.length,p l[i]=false)->l.takeWhile p=l.take i/\l.dropWhile p=l.drop i
 |[],i,_,_,_=>by simp
 |a::l,0,_,_,h=>by
  have h0:p a=false:=h (by simp)
  rw[List.takeWhile_cons,List.dropWhile_cons,if_neg (by rw[h0];decide),if_neg (by rw[h0];decide)]
  exact⟨rfl,rfl⟩
 |a::l,i+1,hi,h1,h2=>by
  have h0:p a=true:=h1 0 (by simp) (by omega)
  obtain⟨h3,h4⟩:=aA6 (p:=p) (l:=l) (i:=i) (by simp at hi;omega) (λj hj hji=>by
   have:=h1 (j+1) (by simp;omega) (by omega)
   simpa using this) (λhh=>by
   have:=h2 (by simp;omega)
   simpa using this)
  rw[List.takeWhile_cons,List.dropWhile_cons,if_pos h0,if_pos h0,h3,h4]
  exact⟨rfl,rfl⟩
theorem Yu(n:ByteArray)(l:cO):(M7 n l).length<=l.length:=aLS _ _
theorem aAV{v:aL1}{l:cO}{n:ByteArray}{b:List UInt8}{w:aL0}(h:Qu Z w v l)(hl:l.length<=100000):
 aG pg CF #[v,.agg #[.string n,.string ⟨b.toArray⟩]] w (λr w'=>Qu Z w' r (rwi n b l)/\aL w w' aT):=by
 refine aeJ ?_
 obtain⟨RR,hRR⟩:∃RR:aL1->aL0->Prop,RR=λr w'=>Qu Z w' r (rwi n b l)/\aL w w' aT:=⟨_,rfl⟩
 rw[<-hRR]
 unfold aiZ UU UT
 refine cA λw1 o1 x1 s1=> ?_
 have o1:bD w1 w.heap.size [.string n,.string ⟨b.toArray⟩]:=o1
 obtain⟨fb,hfb⟩:∃fb,fb=w.heap.size:=⟨_,rfl⟩
 rw[<-hfb]at o1⊢
 have cf:∀{w'},aL w1 w' aT->w'.cell? ⟨fb,0,none⟩=some (.string n):=λx=>(o1.ext x (λh=>h)).cell (off:=0)
 have cf1:=cf (aL.refl w1 aT)
 simp(disch:=omega)only[SV,cf1]
 refine(akC (h.new x1) (by omega)).mono ?_
 rintro r w2 ⟨ho,x2⟩
 have hlen:=Yu n l
 obtain⟨l1,hl1⟩:∃l1,l1=M7 n l:=⟨_,rfl⟩
 rw[<-hl1]at ho hlen
 have hZ:=h.2.2
 have hcl:Qu Z w2 r l1:=⟨ho.cl,Zy ho λb hb=>aKe (hZ b hb) x1.size,λb hb=>aKe (hZ b hb) (x1.seq x2).size⟩
 obtain⟨a,c,hr,hcap⟩:∃a c,r= .slice a l1.length c/\l1.length<=c:=by
  rcases ho.2 with⟨h1,h2⟩|⟨bb,c,rest,h1,_,_,_,h5⟩
  .exact ⟨none,0,by rw[h1,h2],by omega⟩
  .exact ⟨_,c,h1,h5⟩
 subst hr
 clear ho
 unfold Lt Ft
 refine bM.rule (λm (t:aL1) w'=>∃i:Nat,m=l1.length-i/\i<=l1.length/\t= .int .i64 (i:Nat)/\aL w2 w' aT/\∀j (hj:j<l1.length),j<i->RM l1[j].1 n=true) l1.length
  ⟨0,rfl,by omega,rfl,aL.refl _ _,λj _ h=>by omega⟩ ?_
 rintro m t w3 ⟨i,rfl,hi,rfl,x3,hlt⟩
 have x3d:aL w2 (dr w3) aT:=x3.seq (aL.dr _ _)
 have fin:(∀hi:i<l1.length,RM l1[i].1 n=false)->Fs RR (.slice a l1.length c) (.pointer (some ⟨fb,0,none⟩)) (.int .i64 (i:Nat)) (dr w3):=λhge=>by
  obtain⟨ht,hd⟩:=aA6 (p:=λp:ByteArray×List UInt8=>RM p.1 n) hi hlt hge
  unfold Fs
  have hc3:=hcl.new x3d
  have hin:(i:Int).toNat=i:=aJI _
  have hpre:=hc3.part (i:=0) (j:=i) (by omega) hi hcap
  rw[aJY]at hpre
  have z1:i-0=i:=rfl
  rw[z1]at hpre
  simp(disch:=omega)only[SV,hin]
  have hn0:mP (dr w3) (dr w3).heap.size 2 (.slice none 0 0) 0 []:=mP.nil _ _ _
  have htl:(l1.take i).length=i:=by rw[aJP,aJ5 hi]
  refine dI hn0 hpre (aAN _) (aJO _) (by omega) λv4 w4 o4 x4=> ?_
  rw[aJ1,aJG,htl]at o4
  have x24:aL w2 w4 aT:=x3d.trans x4 λy hy hh=>by have:=x3d.size;omega
  have x14:aL w1 w4 aT:=x2.seq x24
  have ldF:(aB 85 (.pointer (some ⟨fb,0,none⟩))).run pg w4= .ok (.value (.agg #[.string n,.string ⟨b.toArray⟩])) w4:=PZ (off:=0) (o1.ext x14 (λh=>h)) (by simp)
  simp(disch:=omega)only[SV,ldF]
  refine Cg (cells:= #[.string n,.string ⟨b.toArray⟩]) (by decide) (by decide) (by kernel_rfl) λw5 o5 x5 s5=> ?_
  have z4:=x4.size
  refine dI (o4.ext x5 (λ_ _ h=>h)) (m:=1) (news:=[.string n,.string ⟨b.toArray⟩]) ?_ (λy hy=> ?_) (by have:=x5.size;omega) (by omega) λv6 w6 o6 x6=> ?_
  .exact ⟨_,_,rfl,rfl,λ_=>⟨_,0,rfl,λj hj=>by rw[o5.cell,aJG]⟩⟩
  .simp only[aJK,aJN,or_false]at hy
   rcases hy with rfl|rfl<;>rfl
  have x26:aL w2 w6 aT:=(x24.seq x5).trans x6 λy hy hh=>by have:=x3d.size;omega
  have hsuf:=(hcl.new x26).part (i:=i) (j:=l1.length) hi (aJO _) hcap
  rw[<-aJS,aJH (aJO _),aJS]at hsuf
  try simp(disch:=omega)only[SV,hin]
  have hdl:(l1.drop i).length=l1.length-i:=aJS
  refine dI o6 hsuf (aAN _) (by have:=x5.size;have:=x6.size;omega) (by omega) λv7 w7 o7 x7=> ?_
  rw[hRR]
  have hfin:rwi n b l=l1.take i++(n,b)::l1.drop i:=by
   unfold rwi
   rw[<-hl1,ht,hd]
  have x07:aL w w7 aT:=(x1.seq x2).seq (x26.trans x7 λy hy hh=>by have:=x3d.size;omega)
  refine⟨⟨?_,Zy o7 λb hb=>by have:=hZ b hb;have:=x1.size;have:=x2.size;have:=x3d.size;omega,λb hb=>aKe (hZ b hb) x07.size⟩,x07⟩
  rw[hfin]
  have:=o7.cl
  rw[aJF,aJX,htl,afV,show rfC ((n,b)::l1.drop i)=[.string n,.string ⟨b.toArray⟩]++rfC (l1.drop i)from rfl,<-aJW,show i+((l1.drop i).length+1)=i+1+(l1.drop i).length from by omega]
  first
   |exact this
   |(rw[aJS];exact this)
 unfold Ls
 by_cases hil:i<l1.length
 .have d1:decide ((i:Int)<(l1.length:Int))=true:=by simp;omega
  obtain⟨bb,off,c',he,h1,h2⟩:=(hcl.new x3d).at hil
  simp only[Value.slice.injEq]at he
  obtain⟨rfl,-,rfl⟩:=he
  have hin:(i:Int).toNat=i:=aJI _
  have q1:(i:Int)+1=((i+1:Nat):Int):=by omega
  have cf3:=cf (x2.seq x3d)
  cases hb:RM l1[i].1 n with
  |true=>
   have hq:∀j (hj:j<l1.length),j<i+1->RM l1[j].1 n=true:=λj hj hji=>by
    by_cases hj2:j=i
    .subst hj2;exact hb
    .exact hlt j hj (by omega)
   simp(disch:=omega)only[SV,d1,hin,h1,cf3,ayS,hb,q1]
   exact⟨l1.length-(i+1),by omega,i+1,rfl,by omega,rfl,x3d,hq⟩
  |false=>
   have:=fin λ_=>hb
   simp(disch:=omega)only[SV,d1,hin,h1,cf3,ayS,hb]
   exact this
 .have d1:decide ((i:Int)<(l1.length:Int))=false:=by simp;omega
  have:=fin λhh=>absurd hh hil
  simp(disch:=omega)only[SV,d1]
  exact this
end Go.Proofs.YteelnmpbnaohpaaGreatDoor
namespace Go.Proofs.YteelnmpbnaohpaaGreatDoor
open Go Go.En Go.Pu
set_option maxRecDepth 4000
set_option maxHeartbeats 1000000
variable {Z : Nat -> Prop}
abbrev roC(o:LP):List aL1:=[.int .i64 (o.kind:Nat),.string o.name,.string o.other,.int .i64 (o.at':Nat),.string ⟨o.bytes.toArray⟩]
def ovr(Z:List UInt8)(a:Nat)(b:List UInt8)(i:Nat):List UInt8:=Z.take a++b.take i++Z.drop (a+i)
theorem aDR(Z:List UInt8)(a:Nat)(b:List UInt8):ovr Z a b 0=Z:=by
 unfold ovr
 rw[List.take_zero,aKf,aLX,aKN]
theorem aAG{Z:List UInt8}{a:Nat}{b:List UInt8}{i:Nat}(h:a+b.length<=Z.length)(hi:i<=b.length):(ovr Z a b i).length=Z.length:=by
 unfold ovr
 rw[aJF,aJF,aJP,aJP,aJS];omega
theorem aDQ{Z:List UInt8}{a:Nat}{b:List UInt8}{i:Nat}(h:a+b.length<=Z.length)(hi:i<b.length):(ovr Z a b i).set (a+i) b[i]=ovr Z a b (i+1):=by
 unfold ovr
 have hl:(Z.take a++b.take i).length=a+i:=by rw[aJF,aJP,aJP];omega
 rw[aKj _ _ (by omega),hl,aKT,aKB (by omega),aJV,show b.take (i+1)=b.take i++[b[i]]from aJ3 hi]
 simp only[aJW,aLe,aJ1,aKy]
theorem aFG{old:List UInt8}{a:Nat}{b:List UInt8}:ovr (old++List.replicate (max old.length (a+b.length)-old.length) 0) a b b.length=over old a b:=by
 unfold ovr over
 rw[aJH (aJO _)]
theorem aD2 {v:aL1}{l:cO}{o:LP}{w:aL0}(h:Qu Z w v l)(hl:l.length<=100000)(hk:o.kind<=2)(ha:o.at'<=1000000000)(hbl:o.bytes.length<=1000000000)(hf:∀b,bF o.name l=some b->b.length<=1000000000):
 aG pg BG #[v,.agg (roC o).toArray] w (λr w'=>Qu Z w' r (rdo o l)/\aL w w' aT):=by
 refine amF ?_
 obtain⟨RR,hRR⟩:∃RR:aL1->aL0->Prop,RR=λr w'=>Qu Z w' r (rdo o l)/\aL w w' aT:=⟨_,rfl⟩
 rw[<-hRR]
 unfold avF XQ XP
 refine cA λw1 o1 x1 s1=> ?_
 have o1:bD w1 w.heap.size (roC o):=o1
 obtain⟨ob,hob⟩:∃ob,ob=w.heap.size:=⟨_,rfl⟩
 rw[<-hob]at o1⊢
 have co:∀{w'},aL w1 w' aT->w'.cell? ⟨ob,0,none⟩=some (.int .i64 (o.kind:Nat))/\w'.cell? ⟨ob,1,none⟩=some (.string o.name)/\w'.cell? ⟨ob,2,none⟩=some (.string o.other)/\w'.cell? ⟨ob,3,none⟩=some (.int .i64 (o.at':Nat))/\w'.cell? ⟨ob,4,none⟩=some (.string ⟨o.bytes.toArray⟩):=λx=>
  ⟨(o1.ext x (λh=>h)).cell (off:=0),(o1.ext x (λh=>h)).cell (off:=1),(o1.ext x (λh=>h)).cell (off:=2),(o1.ext x (λh=>h)).cell (off:=3),(o1.ext x (λh=>h)).cell (off:=4)⟩
 obtain⟨c0,c1,c2,c3,c4⟩:=co (aL.refl w1 aT)
 simp(disch:=omega)only[SV,c1,aJG]
 refine(Yi (h.new x1) (by omega)).mono ?_
 rintro r w2 ⟨hw,hr⟩
 rw[hw];clear hw w2
 have go:∀(i:Int) (ov:List UInt8),ov=(bF o.name l).getD []->(i<0↔bF o.name l=none)->(-1<=i/\i<=1000000)->Hx RR v (.pointer (some ⟨ob,0,none⟩)) (.int .i64 i) (.string ⟨ov.toArray⟩) w1:=by
  intro i ov hov hi hib
  unfold Hx Ow XO Ov
  by_cases hk0:o.kind=0
  .have d1:(((o.kind:Nat):Int)==0)=true:=by rw[hk0]<;>rfl
   unfold XM XL
   simp(disch:=omega)only[SV,c0,d1,aJG]
   refine Ig λw3 cc hs x3 s3 hown=> ?_
   obtain⟨rr,hown,hcc⟩:=hown
   have hsz:(⟨ov.toArray⟩:ByteArray).size=ov.length:=by simp[ByteArray.size]
   have hdt:(⟨ov.toArray⟩:ByteArray).data.toList=ov:=by simp
   rw[hdt]at hown
   rw[hsz]at hcc⊢
   have hos:mP w3 w1.heap.size 1 (.slice (some ⟨w1.heap.size,0,none⟩) ov.length cc) (ov.length+0) ((ov++List.replicate 0 0).map gT):=by
    refine⟨by simp,.inr ⟨_,cc,List.replicate rr (.int .u8 0),rfl,aJO _, ?_, ?_,by omega⟩⟩
    .rw [aLt,aKf];exact hown
    .simp;omega
   have hovl:ov.length<=1000000000:=by
    rw[hov]
    cases hg:bF o.name l with
    |none=>simp
    |some b=>exact hf b hg
   obtain⟨N,hN⟩:∃N,N=max ov.length (o.at'+o.bytes.length):=⟨_,rfl⟩
   have hbsz:(⟨o.bytes.toArray⟩:ByteArray).size=o.bytes.length:=by simp[ByteArray.size]
   unfold Ou Hw
   refine bM.rule (λm (t:aL1) w'=>∃k:Nat,m=N-(ov.length+k)/\ov.length+k<=N/\mP w' w1.heap.size 1 t (ov.length+k) ((ov++List.replicate k 0).map gT)/\aL w1 w' aT) (N-(ov.length+0))
    ⟨0,rfl,by omega,hos,x3⟩ ?_
   rintro m t w4 ⟨kz,rfl,hkz,ho4,x4⟩
   obtain⟨ta,tc,htv⟩:=ho4.len
   subst htv
   obtain⟨f0,f1,f2,f3,f4⟩:=co x4
   have q1:((o.at':Nat):Int)+((o.bytes.length:Nat):Int)=((o.at'+o.bytes.length:Nat):Int):=by omega
   have z14:=x4.size
   unfold Ot
   by_cases hlt:ov.length+kz<o.at'+o.bytes.length
   .have d2:decide (((ov.length+kz:Nat):Int)<((o.at'+o.bytes.length:Nat):Int))=true:=by simp only[decide_eq_true_eq];omega
    simp(disch:=omega)only[SV,f3,f4,hbsz,q1,d2,aJG]
    refine mH (cells:= #[.int .u8 0]) (by decide) (by decide) (by kernel_rfl) λw5 o5 x5 s5=> ?_
    refine iY (ho4.ext x5 (λ_ _ h=>h)) (m:=1) (news:=[.int .u8 0]) ?_ (λy hy=> ?_) (by have:=x5.size;omega) (by omega) λv6 w6 o6 x6=> ?_
    .exact ⟨_,_,rfl,rfl,λ_=>⟨_,0,rfl,λj hj=>by rw[o5.cell,aJG]⟩⟩
    .rw [aKm]at hy;rw[hy]<;>rfl
    refine⟨N-(ov.length+(kz+1)),by omega,kz+1,rfl,by omega, ?_,(x4.seq x5).trans x6 λy hy hh=>by omega⟩
    rw[aLW,<-aJW,aKb,<-aKy]
    exact o6
   have d2:decide (((ov.length+kz:Nat):Int)<((o.at'+o.bytes.length:Nat):Int))=false:=by simp only[decide_eq_false_iff_not];omega
   have hNk:ov.length+kz=N:=by omega
   obtain⟨Z,hZ⟩:∃Z,Z=ov++List.replicate kz (0:UInt8):=⟨_,rfl⟩
   have hZl:Z.length=N:=by rw[hZ,aJF,aJ9];omega
   rw[<-hZ,hNk]at ho4
   rw[hNk]at d2⊢
   simp(disch:=omega)only[SV,f3,f4,hbsz,q1,d2,aJG]
   unfold Oq Sm abQ Kp
   refine bM.rule (λm (t:aL1) w'=>∃k:Nat,m=o.bytes.length-k/\k<=o.bytes.length/\t= .int .i64 (k:Nat)/\mP w' w1.heap.size 1 (.slice ta N tc) N ((ovr Z o.at' o.bytes k).map gT)/\aL w1 w' aT) o.bytes.length
    ⟨0,rfl,by omega,rfl,by rw[aDR];exact ho4,x4⟩ ?_
   clear ho4 x4 f0 f1 f2 f3 f4 hos hown hs x3 s3 z14
   rintro m t w4 ⟨k,rfl,hkb,rfl,ho4,x4⟩
   obtain⟨f0,f1,f2,f3,f4⟩:=co x4
   have x4d:aL w1 (dr w4) aT:=x4.seq (aL.dr _ _)
   obtain⟨g0,g1,g2,g3,g4⟩:=co x4d
   unfold Sk
   by_cases hkl:k<o.bytes.length
   .have d3:decide ((k:Int)<((o.bytes.length:Nat):Int))=true:=by simp;omega
    have q2:((o.at':Nat):Int)+(k:Int)=((o.at'+k:Nat):Int):=by omega
    have q3:(k:Int)+1=((k+1:Nat):Int):=by omega
    have hkn:(k:Int).toNat=k:=aJI _
    have han:((o.at'+k:Nat):Int).toNat=o.at'+k:=aJI _
    have hix:=λw=>Am (k:= .i64) (a:=(k:Int)) ⟨o.bytes.toArray⟩ w (by omega) (by rw[hkn,hbsz];exact hkl)
    have hel:((⟨o.bytes.toArray⟩:ByteArray)[(k:Int).toNat]'(by rw[hkn];show k<ByteArray.size _;rw[hbsz];exact hkl))=o.bytes[k]:=by
     simp only[hkn];rfl
    obtain⟨hbl2,hcs⟩:=ho4
    rcases hcs with⟨_,hN0⟩|⟨bb,c',rest,he,hbb,hown,hcl,hnc⟩
    .omega
    simp only[Value.slice.injEq]at he
    obtain⟨rfl,-,rfl⟩:=he
    have hownd:=dB hown
    have hol:=aAG (Z:=Z) (a:=o.at') (b:=o.bytes) (i:=k) (by omega) hkb
    simp(disch:=omega)only[SV,f4,hbsz,d3,g3,g4,q2,hix,hel,han,aJG]
    refine akQ hownd rfl (by rw[aJF,aJC];omega) λw5 o5 x5 s5=> ?_
    have hset:((ovr Z o.at' o.bytes k).map gT++rest).set (o.at'+k) (.int .u8 ((o.bytes[k]).toNat:Nat))=(ovr Z o.at' o.bytes (k+1)).map gT++rest:=by
     rw[aLa _ _ (by rw[aJC];omega),<-aDQ (by omega) hkl,aKW]
     rfl
    have o5:bD w5 bb (((ovr Z o.at' o.bytes k).map gT++rest).set (o.at'+k) (.int .u8 ((o.bytes[k]).toNat:Nat))):=o5
    rw[hset]at o5
    have hol2:=aAG (Z:=Z) (a:=o.at') (b:=o.bytes) (i:=k+1) (by omega) hkl
    simp(disch:=omega)only[SV,q3]
    refine⟨o.bytes.length-(k+1),by omega,k+1,rfl,by omega,rfl,⟨by rw[aJC];omega,.inr ⟨bb,_,rest,rfl,hbb,o5, ?_,hnc⟩⟩,x4d.trans x5 λy hy hh=>by omega⟩
    rw[<-hcl,aJF,aJF,aJC,aJC,hol,hol2]
   .have d3:decide ((k:Int)<((o.bytes.length:Nat):Int))=false:=by simp;omega
    have hkk:k=o.bytes.length:=by omega
    subst hkk
    have hfin:ovr Z o.at' o.bytes o.bytes.length=over ov o.at' o.bytes:=by
     rw[hZ,show kz=max ov.length (o.at'+o.bytes.length)-ov.length from by omega]
     exact aFG
    rw[hfin]at ho4
    have hbs:Bs w4 (.slice ta N tc) (over ov o.at' o.bytes):=ho4.sl
    have hcv:=eP hbs
    unfold Sj
    simp(disch:=omega)only[SV,f4,hbsz,d3,f1,hcv,aJG]
    refine(aAV (h.new (x1.seq x4)) (by omega)).mono ?_
    rintro r w5 ⟨hr5,x5⟩
    rw[hRR]
    refine⟨?_,(x1.seq x4).seq x5⟩
    unfold rdo
    rw[if_pos hk0,<-hov]
    exact hr5
  .have d1:(((o.kind:Nat):Int)==0)=false:=by rw[beq_eq_false_iff_ne];omega
   unfold XN Si abP
   cases hg:bF o.name l with
   |none=>
    have d2:decide (i<0)=true:=by simp[hi.2 hg]
    simp(disch:=omega)only[SV,c0,d1,aJG,d2]
    rw[hRR]
    refine⟨?_,x1⟩
    unfold rdo
    rw[if_neg hk0,hg]
    exact h.new x1
   |some old=>
    have d2:decide (i<0)=false:=by
     rw[decide_eq_false_iff_not]
     intro hh
     rw[hi.1 hh]at hg
     cases hg
    rw[hg,aKF]at hov
    subst hov
    simp(disch:=omega)only[SV,c0,d1,c1,aJG,d2]
    refine(akC (h.new x1) (by omega)).mono ?_
    rintro r w3 ⟨ho,x3⟩
    have hfl:Qu Z w3 r (M7 o.name l):=⟨ho.cl,Zy ho λb hb=>aKe (h.2.2 b hb) x1.size,λb hb=>aKe (h.2.2 b hb) (x1.seq x3).size⟩
    obtain⟨e0,e1,e2,e3,e4⟩:=co x3
    have hlen:=Yu o.name l
    unfold Sh
    by_cases hk1:o.kind=1
    .have d3:(((o.kind:Nat):Int)==1)=true:=by rw[hk1]<;>rfl
     simp(disch:=omega)only[SV,e0,d3,e2,aJG]
     refine(aAV hfl (by omega)).mono ?_
     rintro r w4 ⟨hr4,x4⟩
     rw[hRR]
     refine⟨?_,(x1.seq x3).seq x4⟩
     unfold rdo
     rw[if_neg hk0,hg]
     simp only[hk1,if_true]
     exact hr4
    .have d3:(((o.kind:Nat):Int)==1)=false:=by rw[beq_eq_false_iff_ne];omega
     simp(disch:=omega)only[SV,e0,d3,aJG]
     rw[hRR]
     refine⟨?_,x1.seq x3⟩
     unfold rdo
     rw[if_neg hk0,hg]
     simp only[hk1,if_false]
     exact hfl
 rcases hr with⟨hg,rfl⟩|⟨i,hi,hg,hn,rfl⟩
 .have d1:decide ((0:Int)<=(-1:Int))=false:=by decide
  have:=go (-1) [] (by rw[hg]<;>rfl) ⟨λ_=>hg,λ_=>by decide⟩ (by decide)
  simp(disch:=omega)only[SV,d1]
  exact this
 .have d1:decide ((0:Int)<=((i:Nat):Int))=true:=by simp
  obtain⟨bb,off,c',rfl,h1,h2⟩:=(h.new x1).at hi
  have hin:(i:Int).toNat=i:=aJI _
  have:=go i l[i].2 (by rw[hg]<;>rfl) ⟨λhh=>by omega,λhh=>by rw[hg]at hh;cases hh⟩ (by omega)
  simp(disch:=omega)only[SV,d1,hin,h2]
  exact this
structure DI where
 room:Int
 sure:cO
 way:List LP
 left:Int
 down:Bool
def dY(D:DI):cO:=D.way.foldl (λl o=>rdo o l) D.sure
abbrev afD(l:List LP):List aL1:=l.flatMap roC
abbrev AM(D:DI)(sv wv:aL1):List aL1:=[.int .i64 D.room,sv,wv,.int .i64 D.left,.bool D.down]
structure LQ(Z:Nat->Prop)(w:aL0)(D:DI)(sv wv:aL1):Prop where
 sure:Qu Z w sv D.sure
 way:Cl w 5 wv D.way.length (afD D.way)
 wz:¬fK wv Z
def FB(l:cO):Prop:=∀n b,bF n l=some b->b.length<=1000000000
structure RBd(D:DI):Prop where
 fs:FB D.sure
 ops:∀o∈D.way,o.kind<=2/\o.at'+o.bytes.length<=1000000000
 len:D.sure.length+D.way.length<=50000
theorem LQ.new {w w':aL0}{D:DI}{sv wv:aL1}(h:LQ Z w D sv wv)(x:aL w w' aT):LQ Z w' D sv wv:=⟨h.sure.new x,dS h.way x (bC _),h.wz⟩
theorem aD3 {o:LP}{l:cO}(h:FB l)(ho:o.at'+o.bytes.length<=1000000000):FB (rdo o l):=by
 intro n b hb
 unfold rdo at hb
 split at hb
 .rw [WC]at hb
  split at hb
  .cases hb
   rw[yR]
   have:((bF o.name l).getD []).length<=1000000000:=by
    cases hg:bF o.name l with
    |none=>simp
    |some c=>exact h _ _ hg
   omega
  .exact h _ _ hb
 .split at hb
  .exact h _ _ hb
  .rename_i old hg
   split at hb
   .rw [WC]at hb
    split at hb
    .cases hb;exact h _ _ hg
    .rw [Re]at hb
     split at hb
     .cases hb
     .exact h _ _ hb
   .rw [Re]at hb
    split at hb
    .cases hb
    .exact h _ _ hb
theorem aAT{n:ByteArray}{b:List UInt8}{l:cO}:(rwi n b l).length<=l.length+1:=by
 have h1:=Yu n l
 have h2:(M7 n l).length=((M7 n l).takeWhile (λp=>RM p.1 n)++(M7 n l).dropWhile (λp=>RM p.1 n)).length:=by rw[List.takeWhile_append_dropWhile]
 rw[aJF]at h2
 unfold rwi
 rw[aJF,aJX];omega
theorem aqR{o:LP}{l:cO}:(rdo o l).length<=l.length+1:=by
 unfold rdo
 split
 .exact aAT
 .split
  .omega
  .split
   .have:=aAT (n:=o.other) (b:=‹List UInt8›) (l:=M7 o.name l)
    have:=Yu o.name l
    omega
   .have:=Yu o.name l
    omega
theorem Tj:∀(ops:List LP) {l:cO},FB l->(∀o∈ops,o.kind<=2/\o.at'+o.bytes.length<=1000000000)->FB (ops.foldl (λl o=>rdo o l) l)/\(ops.foldl (λl o=>rdo o l) l).length<=l.length+ops.length
 |[],l,h,_=>⟨h,aJO _⟩
 |o::ops,l,h,ho=>by
  have h1:=aD3 h (ho o aJ7).2
  obtain⟨h2,h3⟩:=Tj ops h1 λx hx=>ho x (aJT _ hx)
  refine⟨h2,aK5 h3 ?_⟩
  have:=aqR (o:=o) (l:=l)
  rw[aJX];omega
theorem aEG(l:List LP):(afD l).length=l.length*5:=by
 induction l with
 |nil=>rfl
 |cons p r ih=>simp only[afD,aKz,aJF,aJX,aKD]at ih⊢;omega
theorem afZ:∀{l:List LP} {i j:Nat} (hi:i<l.length),j<5->(afD l)[i*5+j]?=(roC l[i])[j]?
 |p::r,0,j,_,hj=>by
  show(roC p++afD r)[0*5+j]?=_
  rw[aJ0 (by simpa using hj),aLZ,aJG]
  rfl
 |p::r,i+1,j,hi,hj=>by
  have h:=afZ (l:=r) (i:=i) (j:=j) (by simp at hi;omega) hj
  show(roC p++afD r)[(i+1)*5+j]?=_
  rw[aJ2 (by simp;omega),show(i+1)*5+j-(roC p).length=i*5+j from by simp;omega]
  exact h
theorem LQ.op {w:aL0}{D:DI}{sv wv:aL1}(h:LQ Z w D sv wv){i:Nat}(hi:i<D.way.length):∃a off c,wv= .slice (some ⟨a,off,none⟩) D.way.length c/\(aB 96 (.pointer (some ⟨a,off+i*5,none⟩))).run pg w= .ok (.value (.agg (roC D.way[i]).toArray)) w:=by
 obtain⟨a,c,hv,hl,hh⟩:=h.way
 obtain⟨b,off,rfl,h2⟩:=hh (by omega)
 refine⟨b,off,c,hv,P2 (l:=roC D.way[i]) rfl λj hj=> ?_⟩
 have hj:j<5:=hj
 rw[aKy,h2 _ (by rw[aEG];omega),afZ hi hj]
theorem Tv{D:DI}{sv wv:aL1}{w:aL0}(h:LQ Z w D sv wv)(hB:RBd D):
 aG pg tW #[.agg (AM D sv wv).toArray] w (λr w'=>Qu Z w' r (dY D)/\aL w w' aT):=by
 refine aeG ?_
 obtain⟨RR,hRR⟩:∃RR:aL1->aL0->Prop,RR=λr w'=>Qu Z w' r (dY D)/\aL w w' aT:=⟨_,rfl⟩
 rw[<-hRR]
 unfold aiW UO UN
 refine cA λw1 o1 x1 s1=> ?_
 obtain⟨db,hdb⟩:∃db,db=w.heap.size:=⟨_,rfl⟩
 obtain⟨sa,sc,hsv⟩:=h.sure.len
 obtain⟨wa,wc,hwv,_⟩:=h.way
 have o1:bD w1 w.heap.size (AM D sv wv):=by
  have:(Value.agg (AM D sv wv).toArray).cells.toList=AM D sv wv:=by
   subst hsv;subst hwv;rfl
  rw[this]at o1
  exact o1
 rw[<-hdb]at o1⊢
 have cd:∀{w'},aL w1 w' aT->w'.cell? ⟨db,1,none⟩=some sv/\w'.cell? ⟨db,2,none⟩=some wv:=λx=>
  ⟨(o1.ext x (λh=>h)).cell (off:=1),(o1.ext x (λh=>h)).cell (off:=2)⟩
 obtain⟨c1,c2⟩:=cd (aL.refl w1 aT)
 have hn:=hB.len
 simp(disch:=omega)only[SV,c1,aJG]
 unfold Lo Ln UM Fp
 refine bM.rule (λm (t:aL1×aL1) w'=>∃(i:Nat) (lv:aL1),m=D.way.length-i/\i<=D.way.length/\t=(lv,.int .i64 (i:Nat))/\Qu Z w' lv ((D.way.take i).foldl (λl o=>rdo o l) D.sure)/\aL w1 w' aT) D.way.length
  ⟨0,sv,rfl,by omega,rfl,h.sure.new x1,aL.refl _ _⟩ ?_
 rintro m t w2 ⟨i,lv,rfl,hi,rfl,hlv,x2⟩
 obtain⟨d1,d2⟩:=cd x2
 have d2':=d2
 rw[hwv]at d2'
 unfold Lm
 by_cases hlt:i<D.way.length
 .have k1:decide ((i:Int)<(D.way.length:Int))=true:=by simp;omega
  obtain⟨a,off,c',he,hld⟩:=(h.new (x1.seq x2)).op hlt
  rw[he]at d2
  have hin:(i:Int).toNat=i:=aJI _
  have q1:(i:Int)+1=((i+1:Nat):Int):=by omega
  have hops:=hB.ops _ (aKp hlt)
  obtain⟨hfb,hfl⟩:=Tj (D.way.take i) hB.fs (λo ho=>hB.ops o (aLn ho))
  rw[aJP]at hfl
  simp(disch:=omega)only[SV,d2,k1,hin,hld,aJG]
  refine(aD2 hlv (by omega) hops.1 (by omega) (by omega) (λb hb=>hfb _ _ hb)).mono ?_
  rintro r w3 ⟨hr,x3⟩
  simp(disch:=omega)only[SV,q1]
  refine⟨D.way.length-(i+1),by omega,i+1,r,rfl,by omega,rfl, ?_,x2.seq x3⟩
  rw[aJ3 hlt,List.foldl_append]
  exact hr
 .have k1:decide ((i:Int)<(D.way.length:Int))=false:=by simp;omega
  unfold Ll
  simp(disch:=omega)only[SV,d2',k1,aJG]
  rw[hRR]
  rw[aJH (by omega)]at hlv
  exact⟨hlv,x1.seq x2⟩
theorem Cq{w:aL0}{D:DI}{sv wv:aL1}(h:LQ Z w D sv wv):(Value.agg (AM D sv wv).toArray).cells.toList=AM D sv wv:=by
 obtain⟨sa,sc,hsv⟩:=h.sure.len
 obtain⟨wa,wc,hwv,_⟩:=h.way
 subst hsv;subst hwv;rfl
theorem Hm{w:aL0}{D:DI}{sv wv:aL1}(h:LQ Z w D sv wv):∀x∈AM D sv wv,one x=true:=by
 obtain⟨sa,sc,hsv⟩:=h.sure.len
 obtain⟨wa,wc,hwv,_⟩:=h.way
 subst hsv;subst hwv
 intro x hx
 simp only[aJK,aJN,or_false]at hx
 rcases hx with rfl|rfl|rfl|rfl|rfl<;>rfl
def SC(D:DI)(n:ByteArray):List UInt8×Int:=if D.down then([],20)else match bF n (dY D)with
 |none=>([],21)
 |some b=>(b,0)
theorem aAR{D:DI}{sv wv:aL1}{n:ByteArray}{w:aL0}(h:LQ Z w D sv wv)(hB:RBd D):
 aG pg Ac #[.agg (AM D sv wv).toArray,.string n] w (λr w'=>r= .tuple #[.string ⟨(SC D n).1.toArray⟩,.int .i64 (SC D n).2]/\aL w w' aT):=by
 refine aeF ?_
 obtain⟨RR,hRR⟩:∃RR:aL1->aL0->Prop,RR=λr w'=>r= .tuple #[.string ⟨(SC D n).1.toArray⟩,.int .i64 (SC D n).2]/\aL w w' aT:=⟨_,rfl⟩
 rw[<-hRR]
 unfold aiV UL
 refine cA λw1 o1 x1 s1=> ?_
 rw[Cq h]at o1
 obtain⟨db,hdb⟩:∃db,db=w.heap.size:=⟨_,rfl⟩
 rw[<-hdb]at o1⊢
 have c4:w1.cell? ⟨db,4,none⟩=some (.bool D.down):=o1.cell (off:=4)
 cases hd:D.down with
 |true=>
  rw[hd]at c4
  simp(disch:=omega)only[SV,c4,aJG]
  rw[hRR]
  refine⟨?_,x1⟩
  unfold SC
  rw[if_pos hd]
 |false=>
  rw[hd]at c4
  have ld:(aB 40 (.pointer (some ⟨db,0,none⟩))).run pg w1= .ok (.value (.agg (AM D sv wv).toArray)) w1:=bW (off:=0) o1 (by simp)
  simp(disch:=omega)only[SV,c4,ld,aJG]
  refine(Tv (h.new x1) hB).mono ?_
  rintro r w2 ⟨hr,x2⟩
  obtain⟨hfb,hfl⟩:=Tj D.way hB.fs hB.ops
  have hl:(dY D).length<=1000000:=by have:=hB.len;unfold dY;omega
  refine(Yi hr hl).mono ?_
  rintro r2 w3 ⟨hw,hr2⟩
  rw[hw];clear hw w3
  rcases hr2 with⟨hg,rfl⟩|⟨i,hi,hg,hn,rfl⟩
  .have d1:decide ((-1:Int)<0)=true:=by decide
   simp(disch:=omega)only[SV,d1]
   rw[hRR]
   refine⟨?_,x1.seq x2⟩
   unfold SC
   rw[if_neg (by rw[hd];decide),hg]
  .have d1:decide (((i:Nat):Int)<0)=false:=by simp
   obtain⟨bb,off,c',rfl,h1,h2⟩:=hr.at hi
   have hin:(i:Int).toNat=i:=aJI _
   simp(disch:=omega)only[SV,d1,hin,h2]
   rw[hRR]
   refine⟨?_,x1.seq x2⟩
   unfold SC
   rw[if_neg (by rw[hd];decide),hg]
def jI(D:DI):DI×Bool:=if D.left=0 then({D with down:=true},true)else({D with left:=Cp D.left},false)
theorem avP{D:DI}{sv wv:aL1}{w:aL0}(h:LQ Z w D sv wv)(hl: -1<=D.left/\D.left<=9223372036854775807):
 aG pg AV #[.agg (AM D sv wv).toArray] w (λr w'=>r= .tuple #[.agg (AM (jI D).1 sv wv).toArray,.bool (jI D).2]/\aL w w' aT):=by
 refine ZR ?_
 obtain⟨RR,hRR⟩:∃RR:aL1->aL0->Prop,RR=λr w'=>r= .tuple #[.agg (AM (jI D).1 sv wv).toArray,.bool (jI D).2]/\aL w w' aT:=⟨_,rfl⟩
 rw[<-hRR]
 unfold abR So Sn
 refine cA λw1 o1 x1 s1=> ?_
 rw[Cq h]at o1
 obtain⟨db,hdb⟩:∃db,db=w.heap.size:=⟨_,rfl⟩
 rw[<-hdb]at o1⊢
 refine aV λw2 o2 x2 s2=> ?_
 obtain⟨rb,hrb⟩:∃rb,rb=w1.heap.size:=⟨_,rfl⟩
 rw[<-hrb]at o2⊢
 have o1:=o1.ext x2 (λh=>h)
 have hne:db≠rb:=by omega
 have c3:w2.cell? ⟨db,3,none⟩=some (.int .i64 D.left):=o1.cell (off:=3)
 have h1:=Hm h
 have fin:∀(D':DI) (w3:aL0) (K:aL1->aL0->Prop),bD w3 db (AM D' sv wv)->bD w3 rb [.int .i64 0,.slice none 0 0,.slice none 0 0,.int .i64 0,.bool false]->aL w w3 aT->(∀w4,aL w w4 aT->K (.agg (AM D' sv wv).toArray) w4)→
     aA pg (aB 40 (.pointer (some ⟨db,0,none⟩))) w3 λt w=>aA pg (aF 40 (.pointer (some ⟨rb,0,none⟩)) t) w λ_u w=>lO pg 40 (.pointer (some ⟨rb,0,none⟩)) w λr0=>K r0 w:=by
  intro D' w3 K oa ob x3 hK
  have ld:(aB 40 (.pointer (some ⟨db,0,none⟩))).run pg w3= .ok (.value (.agg (AM D' sv wv).toArray)) w3:=bW (off:=0) oa (by simp)
  have h1':∀x∈AM D' sv wv,one x=true:=by
   obtain⟨sa,sc,hsv⟩:=h.sure.len
   obtain⟨wa,wc,hwv,_⟩:=h.way
   subst hsv;subst hwv
   intro x hx
   simp only[aJK,aJN,or_false]at hx
   rcases hx with rfl|rfl|rfl|rfl|rfl<;>rfl
  simp(disch:=omega)only[SV,ld]
  refine dJ ob rfl (by simpa using h1') (by simp) λw4 o4 x4 s4=> ?_
  refine dW o4 (by simp[eI]) ?_
  exact hK w4 (x3.trans x4 λy hy hh=>by have:=x1.size;omega)
 have x02:aL w w2 aT:=x1.seq x2
 by_cases h0:D.left=0
 .have d1:(D.left==0)=true:=by rw[h0]<;>rfl
  simp(disch:=omega)only[SV,c3,d1,aJG]
  refine vD o1 rfl (by simp) λw3 o3 x3 s3=> ?_
  have o3:bD w3 db (AM {D with down:=true} sv wv):=o3
  refine fin _ w3 (λr0 w=>RR (.tuple #[r0,.bool true]) w) o3 (o2.ext x3 (λhh=>hne hh.symm)) (x02.trans x3 λy hy hh=>by omega) λw4 x4=> ?_
  rw[hRR]
  refine⟨?_,x4⟩
  unfold jI
  rw[if_pos h0]
 .have d1:(D.left==0)=false:=beq_eq_false_iff_ne.2 h0
  have hst:jI D=({D with left:=Cp D.left},false):=by unfold jI;rw[if_neg h0]
  unfold I6
  by_cases hp:0<D.left
  .have d2:decide ((0:Int)<D.left)=true:=by simpa using hp
   have q1:D.left-1=Cp D.left:=by unfold Cp;rw[if_pos hp]
   simp(disch:=omega)only[SV,c3,d1,d2,q1,aJG]
   refine DD o1 rfl (by simp) λw3 o3 x3 s3=> ?_
   have o3:bD w3 db (AM {D with left:=Cp D.left} sv wv):=by
    first|exact o3|(rw[<-q1];exact o3)
   refine fin _ w3 (λr0 w=>RR (.tuple #[r0,.bool false]) w) o3 (o2.ext x3 (λhh=>hne hh.symm)) (x02.trans x3 λy hy hh=>by omega) λw4 x4=> ?_
   rw[hRR,hst]
   exact⟨rfl,x4⟩
  .have d2:decide ((0:Int)<D.left)=false:=by simpa using hp
   simp(disch:=omega)only[SV,c3,d1,d2,aJG]
   have q1:Cp D.left=D.left:=by unfold Cp;rw[if_neg hp]
   refine fin D w2 (λr0 w=>RR (.tuple #[r0,.bool false]) w) o1 o2 x02 λw4 x4=> ?_
   rw[hRR,hst,q1]
   exact⟨rfl,x4⟩
end Go.Proofs.YteelnmpbnaohpaaGreatDoor
namespace Go.Proofs.YteelnmpbnaohpaaGreatDoor
open Go Go.En Go.Pu
set_option maxRecDepth 4000
set_option maxHeartbeats 4000000
variable {Z : Nat -> Prop}
abbrev roI(k:Nat)(n m:ByteArray)(a:Int)(b:List UInt8):List aL1:=[.int .i64 (k:Nat),.string n,.string m,.int .i64 a,.string ⟨b.toArray⟩]
def uY(D:DI)(k:Nat)(n m:ByteArray)(a:Int)(b:List UInt8):Int:=
 if D.down then 20 else if(k=1/\Aq m=false)∨(k=0/\a<0)∨(k<2/\Aq n=false)then 1
 else if 0<k then(if bF n (dY D)=none then 21 else 0)
 else if(((bF n (dY D)).getD []).length:Int)<a then 17
 else if D.room<(bN (rdo ⟨0,n,m,a.toNat,b⟩ (dY D)):Nat)then 22 else 0
theorem arI(n:ByteArray):(n.toList==(⟨#[]⟩:ByteArray).toList)=decide (n.size=0):=by
 rw[Tw]
 by_cases h:n.size=0
 .rw [decide_eq_true h]
  refine decide_eq_true ?_
  cases n with
  |mk d=>
   have:d.size=0:=h
   rw[Array.eq_empty_of_size_eq_zero this]
 .rw [decide_eq_false h]
  refine decide_eq_false λe=>h ?_
  rw[e]<;>rfl
theorem anR(n:ByteArray):Aq n= !(decide (n.size=0)||decide ((32:Int)<(n.size:Int))):=by
 unfold Aq
 by_cases h:n.size=0
 .rw [decide_eq_true h,decide_eq_false (by omega)]<;>rfl
 .by_cases h2:n.size<=32
  .rw [decide_eq_false h,decide_eq_true (by omega),decide_eq_false (by omega)]<;>rfl
  .rw [decide_eq_false h,decide_eq_false (by omega),decide_eq_true (by omega)]<;>rfl
theorem axZ{l:cO}{i:Nat}(hi:i<l.length):bN (l.take (i+1))=bN (l.take i)+l[i].2.length:=by
 unfold bN
 rw[aJ3 hi,aKb,List.sum_append]
 simp
theorem Uq(l:cO)(i:Nat):bN (l.take i)<=bN l:=by
 have:bN l=bN (l.take i)+bN (l.drop i):=by
  unfold bN
  rw[<-List.sum_append,<-aKb,aKN]
 omega
theorem aB5 {D:DI}{sv wv lv:aL1}{l:cO}{db:Nat}{w:aL0}{RR:K1}(o:bD w db (AM D sv wv))(h:Qu Z w lv l)(hl:l.length<=100000)(hz:bN l<=1000000000000)
 (hR:RR (.int .i64 (if D.room<(bN l:Nat)then 22 else 0)) w):Bb RR (.pointer (some ⟨db,0,none⟩)) lv (.int .i64 0) w:=by
 obtain⟨a,c,hv⟩:=h.len
 unfold Bb Lr UQ Fq
 refine bM.rule (λm (t:aL1×aL1) w'=>∃i:Nat,m=l.length-i/\i<=l.length/\t=(.int .i64 (bN (l.take i):Nat),.int .i64 (i:Nat))/\w'=w) l.length
  ⟨0,rfl,by omega,rfl,rfl⟩ ?_
 rintro m t w' ⟨i,rfl,hi,rfl,rfl⟩
 subst hv
 have hsz:=Uq l i
 unfold Lq
 by_cases hlt:i<l.length
 .have d1:decide ((i:Int)<(l.length:Int))=true:=by simp;omega
  obtain⟨b,off,c',he,h1,h2⟩:=h.at hlt
  simp only[Value.slice.injEq]at he
  obtain⟨rfl,-,rfl⟩:=he
  have hin:(i:Int).toNat=i:=aJI _
  have q1:(i:Int)+1=((i+1:Nat):Int):=by omega
  have hsb:(⟨l[i].2.toArray⟩:ByteArray).size=l[i].2.length:=by simp[ByteArray.size]
  have ht:=axZ hlt
  have hle:=Uq l (i+1)
  have q2:((bN (l.take i):Nat):Int)+((l[i].2.length:Nat):Int)=((bN (l.take (i+1)):Nat):Int):=by omega
  simp(disch:=omega)only[SV,d1,hin,h2,hsb,q1,q2]
  first
   |exact⟨l.length-(i+1),by omega,i+1,rfl,by omega,rfl,rfl⟩
   |exact⟨l.length-(i+1),by omega,i+1,rfl,by omega,rfl⟩
 .have d1:decide ((i:Int)<(l.length:Int))=false:=by simp;omega
  have c0:w'.cell? ⟨db,0,none⟩=some (.int .i64 D.room):=o.cell (off:=0)
  unfold Lp
  rw[aJH (by omega)]
  by_cases hr:D.room<((bN l:Nat):Int)
  .have d2:decide (D.room<((bN l:Nat):Int))=true:=decide_eq_true hr
   rw[if_pos hr]at hR
   simp(disch:=omega)only[SV,d1,c0,d2,aJG]
   exact hR
  .have d2:decide (D.room<((bN l:Nat):Int))=false:=decide_eq_false hr
   rw[if_neg hr]at hR
   simp(disch:=omega)only[SV,d1,c0,d2,aJG]
   exact hR
end Go.Proofs.YteelnmpbnaohpaaGreatDoor
namespace Go.Proofs.YteelnmpbnaohpaaGreatDoor
open Go Go.En Go.Pu
set_option maxRecDepth 4000
set_option maxHeartbeats 8000000
variable {Z : Nat -> Prop}
theorem aFM{D:DI}{sv wv:aL1}{k:Nat}{n m:ByteArray}{a:Int}{b:List UInt8}{w:aL0}(h:LQ Z w D sv wv)(hB:RBd D)(hk:k<=2)(hb:b.length<=1000000000)
 (hz:k=0->0<=a->a<=(((bF n (dY D)).getD []).length:Int)->bN (rdo ⟨0,n,m,a.toNat,b⟩ (dY D))<=1000000000000):
 aG pg Hb #[.agg (AM D sv wv).toArray,.agg (roI k n m a b).toArray] w (λr w'=>r= .int .i64 (uY D k n m a b)/\aL w w' aT):=by
 refine aeI ?_
 obtain⟨RR,hRR⟩:∃RR:aL1->aL0->Prop,RR=λr w'=>r= .int .i64 (uY D k n m a b)/\aL w w' aT:=⟨_,rfl⟩
 rw[<-hRR]
 have hR:∀(e:Int) w',aL w w' aT->uY D k n m a b=e->RR (.int .i64 e) w':=λe w' x he=>by rw[hRR,he];exact⟨rfl,x⟩
 clear hRR
 unfold aiY US UR
 refine cA λw1 o1 x1 s1=> ?_
 rw[Cq h]at o1
 obtain⟨db,hdb⟩:∃db,db=w.heap.size:=⟨_,rfl⟩
 rw[<-hdb]at o1⊢
 refine cA λw2 o2 x2 s2=> ?_
 have o2:bD w2 w1.heap.size (roI k n m a b):=o2
 obtain⟨ob,hob⟩:∃ob,ob=w1.heap.size:=⟨_,rfl⟩
 rw[<-hob]at o2⊢
 have x02:=x1.seq x2
 have oD:∀{w'},aL w2 w' aT->bD w' db (AM D sv wv):=λx=>(o1.ext x2 (λh=>h)).ext x (λh=>h)
 have c4:w2.cell? ⟨db,4,none⟩=some (.bool D.down):=(oD (aL.refl _ _)).cell (off:=4)
 have co:∀{w'},aL w2 w' aT->w'.cell? ⟨ob,0,none⟩=some (.int .i64 (k:Nat))/\w'.cell? ⟨ob,1,none⟩=some (.string n)/\w'.cell? ⟨ob,2,none⟩=some (.string m)/\w'.cell? ⟨ob,3,none⟩=some (.int .i64 a)/\w'.cell? ⟨ob,4,none⟩=some (.string ⟨b.toArray⟩):=λx=>
  ⟨(o2.ext x (λh=>h)).cell (off:=0),(o2.ext x (λh=>h)).cell (off:=1),(o2.ext x (λh=>h)).cell (off:=2),(o2.ext x (λh=>h)).cell (off:=3),(o2.ext x (λh=>h)).cell (off:=4)⟩
 obtain⟨f0,f1,f2,f3,f4⟩:=co (aL.refl w2 aT)
 cases hd:D.down with
 |true=>
  rw[hd]at c4
  simp(maxSteps:=4000000) (disch:=omega)only[aA,cI,aJG,cL,aI,cJ,cD,cY,true_and,uS,lK,An,c4,bK,cN]
  exact hR _ _ x02 (by unfold uY;rw[if_pos hd])
 |false=>
 rw[hd]at c4
 have hnd:¬D.down=true:=by rw[hd];decide
 have hmn:=anR n
 have hmm:=anR m
 have kn:=arI n
 have km:=arI m
 have ld:(aB 40 (.pointer (some ⟨db,0,none⟩))).run pg w2= .ok (.value (.agg (AM D sv wv).toArray)) w2:=bW (off:=0) (oD (aL.refl _ _)) (by simp)
 obtain⟨hfb,hfl⟩:=Tj D.way hB.fs hB.ops
 have hl:(dY D).length<=50000:=by have:=hB.len;unfold dY;omega
 obtain⟨eN,hEN⟩:∃e,decide (n.size=0)=e:=⟨_,rfl⟩
 obtain⟨gN,hGN⟩:∃e,decide ((32:Int)<(n.size:Int))=e:=⟨_,rfl⟩
 obtain⟨eM,hEM⟩:∃e,decide (m.size=0)=e:=⟨_,rfl⟩
 obtain⟨gM,hGM⟩:∃e,decide ((32:Int)<(m.size:Int))=e:=⟨_,rfl⟩
 rw[hEN]at kn
 rw[hEM]at km
 rw[hEN,hGN]at hmn
 rw[hEM,hGM]at hmm
 clear hEN hEM
 have u1:bG undef false=false:=by kernel_rfl
 have u2:bG undef true=false:=by kernel_rfl
 have t00:(((0:Nat):Int)==0)=true:=rfl
 have t01:(((0:Nat):Int)==1)=false:=rfl
 have t10:(((1:Nat):Int)==0)=false:=rfl
 have t11:(((1:Nat):Int)==1)=true:=rfl
 have t20:(((2:Nat):Int)==0)=false:=rfl
 have t21:(((2:Nat):Int)==1)=false:=rfl
 have l0:decide (((0:Nat):Int)<2)=true:=rfl
 have l1:decide (((1:Nat):Int)<2)=true:=rfl
 have l2:decide (((2:Nat):Int)<2)=false:=rfl
 have p0:decide ((0:Int)<((0:Nat):Int))=false:=rfl
 have p1:decide ((0:Int)<((1:Nat):Int))=true:=rfl
 have p2:decide ((0:Int)<((2:Nat):Int))=true:=rfl
 have hk3:k=0∨k=1∨k=2:=by omega
 rcases hk3 with rfl|rfl|rfl
 .
  by_cases ha:a<0
  .have ka:decide (a<0)=true:=decide_eq_true ha
   have hf:uY D 0 n m a b=1:=by unfold uY;rw[if_neg hnd,if_pos (.inr (.inl ⟨rfl,ha⟩))]
   cases eN<;>cases gN<;>(simp(maxSteps:=4000000) (disch:=omega)only[aA,cI,aJG,cL,aI,cJ,cD,cY,true_and,uS,lK,An,c4,bK,f1,Lg,kn,qB,jH,aJM,if_false,gI,nD,vQ,hGN,f0,O8,t01,wH,jQ,u1,t00,uQ,if_true,f3,eX,ka,Nv,cN,u2,bH];exact hR _ _ x02 hf)
  have ka:decide (a<0)=false:=decide_eq_false ha
  cases hN:Aq n with
  |false=>
   have hf:uY D 0 n m a b=1:=by unfold uY;rw[if_neg hnd,if_pos (.inr (.inr ⟨by decide,hN⟩))]
   rw[hN]at hmn
   cases eN<;>cases gN<;>first|(cases hmn;done)|(simp(maxSteps:=4000000) (disch:=omega)only[aA,cI,aJG,cL,aI,cJ,cD,cY,true_and,uS,lK,An,c4,bK,f1,Lg,kn,qB,jH,aJM,if_false,gI,nD,vQ,hGN,f0,O8,t01,wH,jQ,u1,t00,uQ,if_true,f3,eX,ka,l0,cN,bH,Nv];exact hR _ _ x02 hf)
  |true=>
   rw[hN]at hmn
   have hgood:¬((0=1/\Aq m=false)∨(0=0/\a<0)∨(0<2/\Aq n=false)):=by rw[hN];simp[ha]
   cases eN
   .cases gN
    .simp (maxSteps:=4000000) (disch:=omega)only[aA,cI,aJG,cL,aI,cJ,cD,cY,true_and,uS,lK,An,c4,bK,f1,Lg,kn,qB,jH,aJM,if_false,gI,nD,vQ,hGN,f0,O8,t01,wH,jQ,u1,t00,uQ,if_true,f3,eX,ka,l0,ld,bH]
     refine(Tv (h.new x02) hB).mono ?_
     rintro r w3 ⟨hr,x3⟩
     obtain⟨e0,e1,e2,e3,e4⟩:=co x3
     obtain⟨g0,g1,g2,g3,g4⟩:=co (x3.seq (aL.dr w3 aT))
     simp(maxSteps:=4000000) (disch:=omega)only[e1,bK,aI]
     refine(Yi hr (by omega)).mono ?_
     rintro r2 w4 ⟨hw,hr2⟩
     rw[hw];clear hw w4
     have x0d:aL w (dr w3) aT:=(x02.seq x3).seq (aL.dr _ _)
     have fin:¬(((bF n (dY D)).getD []).length:Int)<a->aG pg BG #[r,.agg (roI 0 n m a b).toArray] (dr w3) (λt88 w=>Bb RR (.pointer (some ⟨db,0,none⟩)) t88 (.int .i64 0) w):=λhle=>by
      obtain⟨an,rfl⟩:∃an:Nat,a=an:=⟨a.toNat,by omega⟩
      have hg1:((bF n (dY D)).getD []).length<=1000000000:=by
       cases hg:bF n (dY D)with
       |none=>simp
       |some c=>exact hfb _ _ hg
      have hz':=hz rfl (by omega) (by omega)
      rw[aJI]at hz'
      refine(aD2 (o:=⟨0,n,m,an,b⟩) (hr.new (aL.dr _ _)) (by omega) (Nat.zero_le _) (by show an<=_;omega) hb (λc hc=>hfb _ _ hc)).mono ?_
      rintro r3 w5 ⟨hr3,x5⟩
      have x05:=x0d.seq x5
      refine aB5 (D:=D) (sv:=sv) (wv:=wv) (oD ((x3.seq (aL.dr _ _)).seq x5)) hr3 ?_ hz' ?_
      .have:=aqR (o:=⟨0,n,m,an,b⟩) (l:=dY D);omega
      .refine hR _ _ x05 ?_
       unfold uY
       rw[if_neg hnd,if_neg hgood,if_neg (by decide),if_neg hle,aJI]
     have hf17:(((bF n (dY D)).getD []).length:Int)<a->uY D 0 n m a b=17:=λhlt=>by
      unfold uY
      rw[if_neg hnd,if_neg hgood,if_neg (by decide),if_pos hlt]
     have ldo:(aB 96 (.pointer (some ⟨ob,0,none⟩))).run pg (dr w3)= .ok (.value (.agg (roI 0 n m a b).toArray)) (dr w3):=wJ (off:=0) (o2.ext (x3.seq (aL.dr _ _)) (λh=>h)) (by simp)
     rcases hr2 with⟨hg,rfl⟩|⟨i,hi,hg,hn,rfl⟩
     .have k1:decide ((-1:Int)<0)=true:=by decide
      have k2:decide ((0:Int)<= -1)=false:=by decide
      rw[hg]at hf17 fin
      by_cases ha0:0<a
      .have k3:decide ((0:Int)<a)=true:=decide_eq_true ha0
       simp(maxSteps:=4000000) (disch:=omega)only[e0,bK,eX,k1,aI,cN,uQ,jH,if_true,true_and,gI,uS,vQ,p0,g3,k3,Nv,jQ,u2,bH]
       exact hR _ _ x0d (hf17 (by simpa using ha0))
      .have k3:decide ((0:Int)<a)=false:=decide_eq_false ha0
       have:=fin (by simpa using ha0)
       simp(maxSteps:=4000000) (disch:=omega)only[e0,bK,eX,k1,aI,cN,uQ,jH,if_true,true_and,gI,uS,vQ,p0,g3,ldo,k3,qB,aJM,if_false,Dg,k2,wH,bH,jQ]
       exact this
     .have k1:decide (((i:Nat):Int)<0)=false:=by simp
      have k2:decide ((0:Int)<=((i:Nat):Int))=true:=by simp
      have hin:(i:Int).toNat=i:=aJI _
      obtain⟨bb,off,c',rfl,h1,h2⟩:=(hr.new (aL.dr w3 aT)).at hi
      have hsb:(⟨(dY D)[i].2.toArray⟩:ByteArray).size=(dY D)[i].2.length:=by simp[ByteArray.size]
      rw[hg,aKF]at hf17 fin
      by_cases hlt:(((dY D)[i].2.length:Nat):Int)<a
      .have k3:decide ((((dY D)[i].2.length:Nat):Int)<a)=true:=decide_eq_true hlt
       simp(maxSteps:=4000000) (disch:=omega)only[e0,bK,eX,k1,aI,bH,wH,jH,aJM,if_false,qB,true_and,gI,Dg,k2,uQ,if_true,gH,hin,fE,lK,uS,jQ,vQ,p0,g3,h2,nD,hsb,k3,cN]
       exact hR _ _ x0d (hf17 hlt)
      .have k3:decide ((((dY D)[i].2.length:Nat):Int)<a)=false:=decide_eq_false hlt
       have:=fin hlt
       simp(maxSteps:=4000000) (disch:=omega)only[e0,bK,eX,k1,aI,bH,wH,jH,aJM,if_false,qB,true_and,gI,Dg,k2,uQ,if_true,gH,hin,fE,lK,uS,jQ,vQ,p0,g3,h2,ldo,nD,hsb,k3]
       exact this
    .cases hmn
   .cases hmn
 .
  by_cases hbad:Aq m=false∨Aq n=false
  .have hf:uY D 1 n m a b=1:=by
    unfold uY
    rw[if_neg hnd,if_pos]
    rcases hbad with h|h
    .exact .inl ⟨rfl,h⟩
    .exact .inr (.inr ⟨by decide,h⟩)
   rw[hmn,hmm]at hbad
   cases eN<;>cases gN<;>cases eM<;>cases gM<;>first|(exfalso;revert hbad;decide)|(simp(maxSteps:=4000000) (disch:=omega)only[aA,cI,aJG,cL,aI,cJ,cD,cY,true_and,uS,lK,An,c4,bK,f1,Lg,kn,qB,jH,aJM,if_false,gI,nD,vQ,hGN,f0,O8,t11,uQ,if_true,f2,km,hGM,Nv,cN,jQ,u2,bH,t10,wH,eX,l1];exact hR _ _ x02 hf)
  .have hm1:Aq m=true:=by cases hq:Aq m with|true=>rfl|false=>exact absurd (.inl hq) hbad
   have hn1:Aq n=true:=by cases hq:Aq n with|true=>rfl|false=>exact absurd (.inr hq) hbad
   have hgood:¬((1=1/\Aq m=false)∨(1=0/\a<0)∨(1<2/\Aq n=false)):=by rw[hm1,hn1];simp
   rw[hm1]at hmm
   rw[hn1]at hmn
   cases eN<;>cases gN<;>cases eM<;>cases gM<;>first|(cases hmn;done)|(cases hmm;done)|skip
   simp(maxSteps:=4000000) (disch:=omega)only[aA,cI,aJG,cL,aI,cJ,cD,cY,true_and,uS,lK,An,c4,bK,f1,Lg,kn,qB,jH,aJM,if_false,gI,nD,vQ,hGN,f0,O8,t11,uQ,if_true,f2,km,hGM,t10,wH,jQ,eX,l1,ld,bH]
   refine(Tv (h.new x02) hB).mono ?_
   rintro r w3 ⟨hr,x3⟩
   obtain⟨e0,e1,e2,e3,e4⟩:=co x3
   have x03:=x02.seq x3
   simp(maxSteps:=4000000) (disch:=omega)only[e1,bK,aI]
   refine(Yi hr (by omega)).mono ?_
   rintro r2 w4 ⟨hw,hr2⟩
   rw[hw];clear hw w4
   rcases hr2 with⟨hg,rfl⟩|⟨i,hi,hg,hn,rfl⟩
   .have k1:decide ((-1:Int)<0)=true:=by decide
    simp(maxSteps:=4000000) (disch:=omega)only[e0,bK,eX,k1,aI,cN,uQ,jH,if_true,true_and,gI,uS,vQ,p1]
    refine hR _ _ x03 ?_
    unfold uY
    rw[if_neg hnd,if_neg hgood,if_pos (by decide),if_pos hg]
   .have k1:decide (((i:Nat):Int)<0)=false:=by simp
    simp(maxSteps:=4000000) (disch:=omega)only[e0,bK,eX,k1,aI,bH,wH,jH,aJM,if_false,qB,true_and,gI,Dg,jQ,vQ,p1,cN]
    refine hR _ _ x03 ?_
    unfold uY
    rw[if_neg hnd,if_neg hgood,if_pos (by decide),if_neg (by rw[hg];simp)]
 .
  have hgood:¬((2=1/\Aq m=false)∨(2=0/\a<0)∨(2<2/\Aq n=false)):=by simp
  cases eN<;>cases gN
  all_goals
   simp(maxSteps:=4000000) (disch:=omega)only[aA,cI,aJG,cL,aI,cJ,cD,cY,true_and,uS,lK,An,c4,bK,f1,Lg,kn,qB,jH,aJM,if_false,gI,nD,vQ,hGN,f0,O8,t21,wH,jQ,u1,t20,eX,l2,bH,ld,Nv,if_true]
   refine(Tv (h.new x02) hB).mono ?_
   rintro r w3 ⟨hr,x3⟩
   obtain⟨e0,e1,e2,e3,e4⟩:=co x3
   have x03:=x02.seq x3
   simp(maxSteps:=4000000) (disch:=omega)only[e1,bK,aI]
   refine(Yi hr (by omega)).mono ?_
   rintro r2 w4 ⟨hw,hr2⟩
   rw[hw];clear hw w4
   rcases hr2 with⟨hg,rfl⟩|⟨i,hi,hg,hn,rfl⟩
   .have k1:decide ((-1:Int)<0)=true:=by decide
    simp(maxSteps:=4000000) (disch:=omega)only[e0,bK,eX,k1,aI,cN,uQ,jH,if_true,true_and,gI,uS,vQ,p2]
    refine hR _ _ x03 ?_
    unfold uY
    rw[if_neg hnd,if_neg hgood,if_pos (by decide),if_pos hg]
   .have k1:decide (((i:Nat):Int)<0)=false:=by simp
    simp(maxSteps:=4000000) (disch:=omega)only[e0,bK,eX,k1,aI,bH,wH,jH,aJM,if_false,qB,true_and,gI,Dg,jQ,vQ,p2,cN]
    refine hR _ _ x03 ?_
    unfold uY
    rw[if_neg hnd,if_neg hgood,if_pos (by decide),if_neg (by rw[hg];simp)]
end Go.Proofs.YteelnmpbnaohpaaGreatDoor
namespace Go.Proofs.YteelnmpbnaohpaaGreatDoor
open Go Go.En Go.Pu
set_option maxRecDepth 4000
set_option maxHeartbeats 2000000
variable {Z : Nat -> Prop}
theorem ajK{w w3:aL0}{db rb:Nat}{D':DI}{sv wv:aL1}{cs:List aL1}{K:aL1->aL0->Prop}(h1:∀x∈AM D' sv wv,one x=true)(oa:bD w3 db (AM D' sv wv))(ob:bD w3 rb cs)(hcs:cs.length=5)(hb:w.heap.size<=rb)(x3:aL w w3 aT)
 (hK:∀w4,aL w3 w4 (λy=>y=rb)->aL w w4 aT->K (.agg (AM D' sv wv).toArray) w4):
 aA pg (aB 40 (.pointer (some ⟨db,0,none⟩))) w3 λt w=>aA pg (aF 40 (.pointer (some ⟨rb,0,none⟩)) t) w λ_u w=>lO pg 40 (.pointer (some ⟨rb,0,none⟩)) w λr0=>K r0 w:=by
 have ld:(aB 40 (.pointer (some ⟨db,0,none⟩))).run pg w3= .ok (.value (.agg (AM D' sv wv).toArray)) w3:=bW (off:=0) oa (by simp)
 simp(disch:=omega)only[SV,ld]
 refine dJ ob rfl (by simpa using h1) (by omega) λw4 o4 x4 s4=> ?_
 have hset:eI cs 0 (AM D' sv wv)=AM D' sv wv:=by
  match cs,hcs with
  |[a,b,c,d,e],_=>rfl
 have o4:bD w4 rb (eI cs 0 (AM D' sv wv)):=o4
 rw[hset]at o4
 refine dW o4 (by simp) ?_
 exact hK w4 x4 (x3.trans x4 λy hy hh=>by omega)
def Dh(D:DI)(k:Nat)(n m:ByteArray)(a:Int)(b:List UInt8):DI×Int:=
 if uY D k n m a b≠0 then(D,uY D k n m a b)
 else if(jI D).2 then((jI D).1,20)
 else({(jI D).1 with way:=D.way++[⟨k,n,m,a.toNat,b⟩]},0)
theorem FT(D:DI):(jI D).1.sure=D.sure/\(jI D).1.way=D.way/\(jI D).1.room=D.room:=by
 unfold jI
 split<;>exact⟨rfl,rfl,rfl⟩
theorem LQ.like {w:aL0}{D D':DI}{sv wv:aL1}(h:LQ Z w D sv wv)(h1:D'.sure=D.sure)(h2:D'.way=D.way):LQ Z w D' sv wv:=⟨h1▸h.sure,h2▸h.way,h.wz⟩
theorem aAP(o:LP):∀x∈roC o,one x=true:=λx hx=>by
 simp only[aJK,aJN,or_false]at hx
 rcases hx with rfl|rfl|rfl|rfl|rfl<;>rfl
theorem aEH(l:List LP):∀x∈afD l,one x=true:=λx hx=>by
 obtain⟨o,-,hx⟩:=aLA.1 hx
 exact aAP o x hx
theorem ayT{D:DI}{sv wv:aL1}{k:Nat}{n m:ByteArray}{a:Int}{b:List UInt8}{w:aL0}(h:LQ Z w D sv wv)(hB:RBd D)(hk:k<=2)(hka:k≠0->a=0)(hb:b.length<=1000000000)(hl: -1<=D.left/\D.left<=9223372036854775807)
 (hz:k=0->0<=a->a<=(((bF n (dY D)).getD []).length:Int)->bN (rdo ⟨0,n,m,a.toNat,b⟩ (dY D))<=1000000000000):
 aG pg iB #[.agg (AM D sv wv).toArray,.agg (roI k n m a b).toArray] w (λr w'=>∃sv' wv',r= .tuple #[.agg (AM (Dh D k n m a b).1 sv' wv').toArray,.int .i64 (Dh D k n m a b).2]/\LQ Z w' (Dh D k n m a b).1 sv' wv'/\aL w w' aT):=by
 refine aiQ ?_
 obtain⟨RR,hRR⟩:∃RR:aL1->aL0->Prop,RR=λr w'=>∃sv' wv',r= .tuple #[.agg (AM (Dh D k n m a b).1 sv' wv').toArray,.int .i64 (Dh D k n m a b).2]/\LQ Z w' (Dh D k n m a b).1 sv' wv'/\aL w w' aT:=⟨_,rfl⟩
 rw[<-hRR]
 have hR:∀D' e sv' wv' w',Dh D k n m a b=(D',e)->LQ Z w' D' sv' wv'->aL w w' aT->RR (.tuple #[.agg (AM D' sv' wv').toArray,.int .i64 e]) w':=λD' e sv' wv' w' he hv x=>by
  rw[hRR,he]
  exact⟨sv',wv',rfl,hv,x⟩
 clear hRR
 unfold aoF XI
 refine cA λw1 o1 x1 s1=> ?_
 rw[Cq h]at o1
 obtain⟨db,hdb⟩:∃db,db=w.heap.size:=⟨_,rfl⟩
 rw[<-hdb]at o1⊢
 refine cA λw2 o2 x2 s2=> ?_
 have o2:bD w2 w1.heap.size (roI k n m a b):=o2
 obtain⟨ob,hob⟩:∃ob,ob=w1.heap.size:=⟨_,rfl⟩
 rw[<-hob]at o2⊢
 refine aV λw3 o3 x3 s3=> ?_
 obtain⟨rb,hrb⟩:∃rb,rb=w2.heap.size:=⟨_,rfl⟩
 rw[<-hrb]at o3⊢
 have x03:aL w w3 aT:=(x1.seq x2).seq x3
 have oD:bD w3 db (AM D sv wv):=(o1.ext x2 (λh=>h)).ext x3 (λh=>h)
 have oO:bD w3 ob (roI k n m a b):=o2.ext x3 (λh=>h)
 have ld:(aB 40 (.pointer (some ⟨db,0,none⟩))).run pg w3= .ok (.value (.agg (AM D sv wv).toArray)) w3:=bW (off:=0) oD (by simp)
 have lo:(aB 96 (.pointer (some ⟨ob,0,none⟩))).run pg w3= .ok (.value (.agg (roI k n m a b).toArray)) w3:=wJ (off:=0) oO (by simp)
 simp(disch:=omega)only[SV,ld,lo]
 refine(aFM (h.new x03) hB hk hb hz).mono ?_
 rintro r w4 ⟨rfl,x4⟩
 have x04:=x03.seq x4
 have h1:=Hm h
 have oD4:=oD.ext x4 (λh=>h)
 have oO4:=oO.ext x4 (λh=>h)
 have oR4:=o3.ext x4 (λh=>h)
 by_cases he:uY D k n m a b=0
 rotate_left
 .have d1:(uY D k n m a b !=0)=true:=bne_iff_ne.2 he
  have:=ajK (w:=w) (K:=λr0 w=>RR (.tuple #[r0,.int .i64 (uY D k n m a b)]) w) h1 oD4 oR4 rfl (by omega) x04 (λw5 x5 x05=>hR D (uY D k n m a b) sv wv w5 (by unfold Dh;rw[if_pos he]) (h.new x05) x05)
  simp(disch:=omega)only[SV,d1]
  exact this
 have d1:(uY D k n m a b !=0)=false:=by rw[he]<;>rfl
 have ld4:(aB 40 (.pointer (some ⟨db,0,none⟩))).run pg w4= .ok (.value (.agg (AM D sv wv).toArray)) w4:=bW (off:=0) oD4 (by simp)
 simp(disch:=omega)only[SV,d1,ld4]
 refine(avP (h.new x04) hl).mono ?_
 rintro r w5 ⟨rfl,x5⟩
 obtain⟨k1,k2,k3⟩:=FT D
 obtain⟨E,hE⟩:∃E,E=(jI D).1:=⟨_,rfl⟩
 have hv5:LQ Z w E sv wv:=by rw[hE];exact h.like k1 k2
 have h1E:=Hm hv5
 rw[<-hE]
 simp(disch:=omega)only[SV]
 refine dJ (oD4.ext x5 (λh=>h)) rfl (by simpa using h1E) (by simp) λw6 o6 x6 s6=> ?_
 have o6:bD w6 db (AM E sv wv):=o6
 have x06:aL w w6 aT:=(x04.seq x5).trans x6 λy hy hh=>by omega
 have oR6:bD w6 rb [.int .i64 0,.slice none 0 0,.slice none 0 0,.int .i64 0,.bool false]:=(oR4.ext x5 (λh=>h)).ext x6 (λhh=>by omega)
 have oO6:bD w6 ob (roI k n m a b):=(oO4.ext x5 (λh=>h)).ext x6 (λhh=>by omega)
 cases hs:(jI D).2 with
 |true=>
  have:=ajK (w:=w) (K:=λr0 w=>RR (.tuple #[r0,.int .i64 20]) w) h1E o6 oR6 rfl (by omega) x06 (λw7 x7 x07=>hR E 20 sv wv w7 (by unfold Dh;rw[if_neg (by rw[he];decide),if_pos hs,hE]) (hv5.new x07) x07)
  simp(disch:=omega)only[SV]
  exact this
 |false=>
  have c2:w6.cell? ⟨db,2,none⟩=some wv:=o6.cell (off:=2)
  have ha:0<=a:=by
   by_cases hk0:k=0
   .subst hk0
    unfold uY at he
    by_cases ha:a<0
    .exfalso
     split at he
     .cases he
     .rw [if_pos (.inr (.inl ⟨rfl,ha⟩))]at he
      cases he
    .omega
   .rw [hka hk0];exact Int.le_refl 0
  obtain⟨an,rfl⟩:∃an:Nat,a=an:=⟨a.toNat,by omega⟩
  obtain⟨wa,wc,hwv,hwl,_⟩:=h.way
  have hway:=(hv5.new x06).way
  have hel:E.way.length=D.way.length:=by rw[hE,k2]
  simp(disch:=omega)only[SV,c2,aJG]
  refine iX (mP.nil w6 w6.heap.size 5) hway (aEH _) (aJO _) (by have:=hB.len;omega) λv7 w7 o7 x7=> ?_
  rw[aJG,aJ1]at o7
  have x67:aL w6 w7 (λy=>w6.heap.size<=y):=x7
  have x07:aL w w7 aT:=x06.trans x7 λy hy hh=>by have:=x06.size;omega
  have l6:∀{q:Nat} {cs:List aL1},bD w6 q cs->bD w7 q cs:=λo=>o.ext x7 (λhh=>by have:=o.lt;omega)
  have oO7:=l6 oO6
  have o7d:=l6 o6
  have oR7:=l6 oR6
  have lo7:(aB 96 (.pointer (some ⟨ob,0,none⟩))).run pg w7= .ok (.value (.agg (roI k n m an b).toArray)) w7:=wJ (off:=0) oO7 (by simp)
  simp(disch:=omega)only[SV,lo7]
  refine LV (cells:=(roI k n m an b).toArray) (by decide) (by decide) (by kernel_rfl) λw8 o8 x8 s8=> ?_
  have l7:∀{q:Nat} {cs:List aL1},bD w7 q cs->bD w8 q cs:=λo=>o.ext x8 (λh=>h)
  refine iX (o7.ext x8 (λ_ _ h=>h)) (m:=1) (news:=roI k n m an b) ?_ (λy hy=>aAP ⟨k,n,m,an,b⟩ y hy) (by have:=x7.size;have:=x8.size;omega) (by have:=hB.len;omega) λv9 w9 o9 x9=> ?_
  .exact ⟨_,_,rfl,rfl,λ_=>⟨_,0,rfl,λj hj=>by rw[o8.cell,aJG]⟩⟩
  have l8:∀{q:Nat} {cs:List aL1},q<w6.heap.size->bD w8 q cs->bD w9 q cs:=λhq o=>o.ext x9 (λhh=>by omega)
  have ldb:=o6.lt
  have lrb:=oR6.lt
  have x09:aL w w9 aT:=(x07.seq x8).trans x9 λy hy hh=>by have:=x06.size;omega
  have o9d:=l8 ldb (l7 o7d)
  have oR9:=l8 lrb (l7 oR7)
  obtain⟨v9a,v9c,hv9⟩:=o9.len
  refine tD (off:=2) o9d (by rw[hv9]<;>rfl) (by simp) λwa' oa xa sa=> ?_
  obtain⟨F,hF⟩:∃F:DI,F={E with way:=D.way++[⟨k,n,m,an,b⟩]}:=⟨_,rfl⟩
  have oa:bD wa' db (AM F sv v9):=by rw[hF];exact oa
  have x0a:aL w wa' aT:=x09.trans xa λy hy hh=>by omega
  have hvF:∀{w'},aL wa' w' (λy=>y=rb)->aL w w' aT->LQ Z w' F sv v9:=λ{w'} xx x0=>by
   refine⟨?_, ?_,Zy o9 λb hb=>by have:=h.sure.2.2 b hb;have:=x06.size;omega⟩
   .rw [hF]
    show Qu Z w' sv E.sure
    exact(hv5.new x0).sure
   .rw [hF]
    show Cl w' 5 v9 (D.way++[_]).length (afD (D.way++[_]))
    have hq:=(o9.ext xa (λbq hbq hh=>by subst hh;omega)).ext xx (λbq hbq hh=>by subst hh;omega)
    have hq:=hq.cl
    rw[aJF,aKV,show afD (D.way++[⟨k,n,m,an,b⟩])=afD D.way++roI k n m an b from by simp[afD],<-hel,show E.way=D.way from by rw[hE,k2]]at*
    exact hq
  have h1F:∀x∈AM F sv v9,one x=true:=by
   have hx:=Hm (hvF (w':=wa') (aL.refl _ _) x0a)
   exact hx
  have:=ajK (w:=w) (K:=λr0 w=>RR (.tuple #[r0,.int .i64 0]) w) h1F oa (oR9.ext xa (λhh=>by omega)) rfl (by omega) x0a (λw7 x7 x07=>hR F 0 sv v9 w7 (by unfold Dh;rw[if_neg (by rw[he];decide),if_neg (by rw[hs];decide),<-hE,hF,aJI]) (hvF x7 x07) x07)
  try simp(disch:=omega)only[SV]
  exact this
def Cn:aL1->Bool| .string _=>true|_=>false
theorem Qu.notin {w:aL0}{v:aL1}{l:cO}{b:Nat}{cs:List aL1}(h:Qu Z w v l)(o:bD w b cs)(hs:∀c∈cs,Cn c=false):¬fK v (λy=>y=b):=by
 intro hi
 obtain⟨⟨a,c,rfl,hl,hh⟩,_⟩:=h
 unfold fK at hi
 split at hi
 .rename_i e
  simp only[Value.slice.injEq]at e
  obtain⟨rfl,e2,rfl⟩:=e
  obtain⟨b',off,he,h2⟩:=hh (by omega)
  cases he
  have hi:b'=b:=hi
  subst hi
  have h3:=h2 0 (by rw[hl];omega)
  have h4:=(aqT (l:=l) (i:=0) (by omega)).1
  rw[aLZ]at h4
  rw[o.cell,h4]at h3
  have:=hs _ (aKR h3)
  cases this
 .exact hi
theorem Qu.keep {w w':aL0}{v:aL1}{l:cO}{b:Nat}{cs:List aL1}(h:Qu Z w v l)(o:bD w b cs)(hs:∀c∈cs,Cn c=false)(x:aL w w' (λy=>y=b)):Qu Z w' v l:=⟨dS h.1 x (h.notin o hs),h.2.1,λb hb=>aKe (h.2.2 b hb) x.size⟩
def G1 (D:DI):DI×Int:=
 if D.down then(D,20)else if(jI D).2 then((jI D).1,20)else({(jI D).1 with sure:=dY D,way:=[]},0)
theorem Eu{w:aL0}{D:DI}{sv wv:aL1}(h:LQ Z w D sv wv):∀x∈AM D sv wv,Cn x=false:=by
 obtain⟨sa,sc,hsv⟩:=h.sure.len
 obtain⟨wa,wc,hwv,_⟩:=h.way
 subst hsv;subst hwv
 intro x hx
 simp only[aJK,aJN,or_false]at hx
 rcases hx with rfl|rfl|rfl|rfl|rfl<;>rfl
theorem agA(w:aL0):Cl w 5 (.slice none 0 0) ([]:List LP).length (afD []):=⟨none,0,rfl,rfl,λh=>by simp at h⟩
theorem aFP{D:DI}{sv wv:aL1}{w:aL0}(h:LQ Z w D sv wv)(hB:RBd D)(hl: -1<=D.left/\D.left<=9223372036854775807):
 aG pg qN #[.agg (AM D sv wv).toArray] w (λr w'=>∃sv' wv',r= .tuple #[.agg (AM (G1 D).1 sv' wv').toArray,.int .i64 (G1 D).2]/\LQ Z w' (G1 D).1 sv' wv'/\aL w w' aT):=by
 refine aeH ?_
 obtain⟨RR,hRR⟩:∃RR:aL1->aL0->Prop,RR=λr w'=>∃sv' wv',r= .tuple #[.agg (AM (G1 D).1 sv' wv').toArray,.int .i64 (G1 D).2]/\LQ Z w' (G1 D).1 sv' wv'/\aL w w' aT:=⟨_,rfl⟩
 rw[<-hRR]
 have hR:∀D' e sv' wv' w',G1 D=(D',e)->LQ Z w' D' sv' wv'->aL w w' aT->RR (.tuple #[.agg (AM D' sv' wv').toArray,.int .i64 e]) w':=λD' e sv' wv' w' he hv x=>by
  rw[hRR,he]
  exact⟨sv',wv',rfl,hv,x⟩
 clear hRR
 unfold aiX UP
 refine cA λw1 o1 x1 s1=> ?_
 rw[Cq h]at o1
 obtain⟨db,hdb⟩:∃db,db=w.heap.size:=⟨_,rfl⟩
 rw[<-hdb]at o1⊢
 refine aV λw3 o3 x3 s3=> ?_
 obtain⟨rb,hrb⟩:∃rb,rb=w1.heap.size:=⟨_,rfl⟩
 rw[<-hrb]at o3⊢
 have x03:aL w w3 aT:=x1.seq x3
 have oD:bD w3 db (AM D sv wv):=o1.ext x3 (λh=>h)
 have h1:=Hm h
 have c4:w3.cell? ⟨db,4,none⟩=some (.bool D.down):=oD.cell (off:=4)
 cases hd:D.down with
 |true=>
  rw[hd]at c4
  have:=ajK (w:=w) (K:=λr0 w=>RR (.tuple #[r0,.int .i64 20]) w) h1 oD o3 rfl (by omega) x03 (λw5 x5 x05=>hR D 20 sv wv w5 (by unfold G1;rw[if_pos hd]) (h.new x05) x05)
  simp(disch:=omega)only[SV,c4,aJG]
  exact this
 |false=>
 rw[hd]at c4
 have hnd:¬D.down=true:=by rw[hd];decide
 have ld:(aB 40 (.pointer (some ⟨db,0,none⟩))).run pg w3= .ok (.value (.agg (AM D sv wv).toArray)) w3:=bW (off:=0) oD (by simp)
 simp(disch:=omega)only[SV,c4,ld,aJG]
 refine(avP (h.new x03) hl).mono ?_
 rintro r w5 ⟨rfl,x5⟩
 obtain⟨k1,k2,k3⟩:=FT D
 obtain⟨E,hE⟩:∃E,E=(jI D).1:=⟨_,rfl⟩
 have hv5:LQ Z w E sv wv:=by rw[hE];exact h.like k1 k2
 have h1E:=Hm hv5
 rw[<-hE]
 simp(disch:=omega)only[SV]
 refine dJ (oD.ext x5 (λh=>h)) rfl (by simpa using h1E) (by simp) λw6 o6 x6 s6=> ?_
 have o6:bD w6 db (AM E sv wv):=o6
 have x06:aL w w6 aT:=(x03.seq x5).trans x6 λy hy hh=>by omega
 have oR6:bD w6 rb [.int .i64 0,.slice none 0 0,.slice none 0 0,.int .i64 0,.bool false]:=(o3.ext x5 (λh=>h)).ext x6 (λhh=>by omega)
 cases hs:(jI D).2 with
 |true=>
  have:=ajK (w:=w) (K:=λr0 w=>RR (.tuple #[r0,.int .i64 20]) w) h1E o6 oR6 rfl (by omega) x06 (λw7 x7 x07=>hR E 20 sv wv w7 (by unfold G1;rw[if_neg hnd,if_pos hs,hE]) (hv5.new x07) x07)
  try simp(disch:=omega)only[SV]
  exact this
 |false=>
  have ld6:(aB 40 (.pointer (some ⟨db,0,none⟩))).run pg w6= .ok (.value (.agg (AM E sv wv).toArray)) w6:=bW (off:=0) o6 (by simp)
  have hBE:RBd E:=by
   rw[hE]
   exact⟨k1▸hB.fs,k2▸hB.ops,by rw[k1,k2];exact hB.len⟩
  have hse:dY E=dY D:=by unfold dY;rw[hE,k1,k2]
  simp(disch:=omega)only[SV,ld6]
  refine(Tv (hv5.new x06) hBE).mono ?_
  rintro r w7 ⟨hr,x7⟩
  rw[hse]at hr
  obtain⟨ra,rc,hrv⟩:=hr.len
  have o7:=o6.ext x7 (λh=>h)
  have oR7:=oR6.ext x7 (λh=>h)
  try simp(disch:=omega)only[SV,aJG]
  refine Cu (off:=1) o7 (by rw[hrv]<;>rfl) (by simp) λw8 o8 x8 s8=> ?_
  have o8:bD w8 db (AM {E with sure:=dY D} r wv):=o8
  have hr8:Qu Z w8 r (dY D):=hr.keep o7 (Eu hv5) x8
  have x08:aL w w8 aT:=(x06.seq x7).trans x8 λy hy hh=>by omega
  have h8:LQ Z w8 {E with sure:=dY D} r wv:=⟨hr8,(hv5.new x08).way,h.wz⟩
  try simp(disch:=omega)only[SV,aJG]
  refine tD (off:=2) o8 rfl (by simp) λw9 o9 x9 s9=> ?_
  obtain⟨F,hF⟩:∃F:DI,F={E with sure:=dY D,way:=[]}:=⟨_,rfl⟩
  have o9:bD w9 db (AM F r (.slice none 0 0)):=by rw[hF];exact o9
  have hr9:Qu Z w9 r (dY D):=hr8.keep o8 (Eu h8) x9
  have x09:aL w w9 aT:=x08.trans x9 λy hy hh=>by omega
  have oR9:=(oR7.ext x8 (λhh=>by omega)).ext x9 (λhh=>by omega)
  have hvF:∀{w'},Qu Z w' r (dY D)->LQ Z w' F r (.slice none 0 0):=λ{w'} hf=>by
   rw[hF]
   exact⟨hf,agA w',λh=>h⟩
  have hns:∀c∈([.int .i64 0,.slice none 0 0,.slice none 0 0,.int .i64 0,.bool false]:List aL1),Cn c=false:=by
   intro c hc
   simp only[aJK,aJN,or_false]at hc
   rcases hc with rfl|rfl|rfl|rfl|rfl<;>rfl
  have:=ajK (w:=w) (K:=λr0 w=>RR (.tuple #[r0,.int .i64 0]) w) (Hm (hvF hr9)) o9 oR9 rfl (by omega) x09 (λw7 x7 x07=>hR F 0 r (.slice none 0 0) w7 (by unfold G1;rw[if_neg hnd,if_neg (by rw[hs];decide),<-hE,hF]) (hvF (hr9.keep oR9 hns x7)) x07)
  try simp(disch:=omega)only[SV]
  exact this
def TX(os:List LP)(ks:List Bool)(l:cO):Nat->cO
 |0=>l
 |i+1=>match os[i]?,ks[i]? with
  |some o,some true=>rdo o (TX os ks l i)
  |_,_=>TX os ks l i
def ZD(D:DI)(ks:List Bool):DI:={D with sure:=TX D.way ks D.sure D.way.length,way:=[],left:= -1,down:=false}
theorem auY{os:List LP}{ks:List Bool}{l:cO}{i:Nat}(h:ks.length<=i):∀d,TX os ks l (i+d)=TX os ks l i
 |0=>rfl
 |d+1=>by
  rw[<-aKy,TX]
  split
  .rename_i o h1 h2
   rw[aKt (by omega)]at h2
   cases h2
  .exact auY h d
theorem ayU{os:List LP}{ks:List Bool}{l:cO}(h:FB l)(ho:∀o∈os,o.kind<=2/\o.at'+o.bytes.length<=1000000000):∀i,FB (TX os ks l i)/\(TX os ks l i).length<=l.length+i
 |0=>⟨h,aJO _⟩
 |i+1=>by
  obtain⟨h1,h2⟩:=ayU h ho i (ks:=ks)
  rw[TX]
  split
  .rename_i o hq _
   refine⟨aD3 h1 (ho o (aKR hq)).2, ?_⟩
   have:=aqR (o:=o) (l:=TX os ks l i)
   omega
  .exact ⟨h1,by omega⟩
theorem aD1 {D:DI}{sv wv kv:aL1}{ks:List Bool}{w:aL0}(h:LQ Z w D sv wv)(hB:RBd D)(hk:Sl w kv (ks.map Value.bool))(hkl:ks.length<=9223372036854775807):
 aG pg AU #[.agg (AM D sv wv).toArray,kv] w (λr w'=>∃sv' wv',r= .agg (AM (ZD D ks) sv' wv').toArray/\LQ Z w' (ZD D ks) sv' wv'/\aL w w' aT):=by
 refine ZK ?_
 obtain⟨RR,hRR⟩:∃RR:aL1->aL0->Prop,RR=λr w'=>∃sv' wv',r= .agg (AM (ZD D ks) sv' wv').toArray/\LQ Z w' (ZD D ks) sv' wv'/\aL w w' aT:=⟨_,rfl⟩
 rw[<-hRR]
 obtain⟨ka,kc,rfl,hkc⟩:=hk.len
 rw[aJC]at hk hkc⊢
 unfold abO Pc Pb
 refine cA λw1 o1 x1 s1=> ?_
 rw[Cq h]at o1
 obtain⟨db,hdb⟩:∃db,db=w.heap.size:=⟨_,rfl⟩
 rw[<-hdb]at o1⊢
 refine aV λw3 o3 x3 s3=> ?_
 obtain⟨rb,hrb⟩:∃rb,rb=w1.heap.size:=⟨_,rfl⟩
 rw[<-hrb]at o3⊢
 have x03:aL w w3 aT:=x1.seq x3
 have oD:bD w3 db (AM D sv wv):=o1.ext x3 (λh=>h)
 obtain⟨wa,wc,hwv,_⟩:=h.way
 have hn:=hB.len
 unfold I5 I4 Sg Dl
 refine bM.rule (λm (t:aL1) w'=>∃(i:Nat) (lv:aL1),m=D.way.length-i/\i<=D.way.length/\t= .int .i64 (i:Nat)/\Qu Z w' lv (TX D.way ks D.sure i)/\bD w' db (AM {D with sure:=TX D.way ks D.sure i} lv wv)/\bD w' rb [.int .i64 0,.slice none 0 0,.slice none 0 0,.int .i64 0,.bool false]/\aL w w' aT) D.way.length
  ⟨0,sv,rfl,by omega,rfl,h.sure.new x03,oD,o3,x03⟩ ?_
 clear oD o3 o1
 rintro m t w4 ⟨i,lv,rfl,hi,rfl,hlv,oD,oR,x4⟩
 have hv4:LQ Z w4 {D with sure:=TX D.way ks D.sure i} lv wv:=⟨hlv,(h.new x4).way,h.wz⟩
 have c1:w4.cell? ⟨db,1,none⟩=some lv:=oD.cell (off:=1)
 have c2:w4.cell? ⟨db,2,none⟩=some wv:=oD.cell (off:=2)
 have c2':=c2
 rw[hwv]at c2'
 obtain⟨hfb,hfl⟩:=ayU (ks:=ks) hB.fs hB.ops i
 have fin:TX D.way ks D.sure i=TX D.way ks D.sure D.way.length->Dk RR (.pointer (some ⟨db,0,none⟩)) (.pointer (some ⟨rb,0,none⟩)) w4:=λhe=>by
  unfold Dk
  try simp(disch:=omega)only[SV,aJG]
  refine tD (off:=2) oD rfl (by simp) λw5 o5 x5 s5=> ?_
  have h5:=hlv.keep oD (Eu hv4) x5
  have o5:bD w5 db (AM {D with sure:=TX D.way ks D.sure i,way:=[]} lv (.slice none 0 0)):=o5
  have v5:LQ Z w5 {D with sure:=TX D.way ks D.sure i,way:=[]} lv (.slice none 0 0):=⟨h5,agA w5,λh=>h⟩
  try simp(disch:=omega)only[SV,aJG]
  refine vD (off:=4) o5 rfl (by simp) λw6 o6 x6 s6=> ?_
  have h6:=h5.keep o5 (Eu v5) x6
  have o6:bD w6 db (AM {D with sure:=TX D.way ks D.sure i,way:=[],down:=false} lv (.slice none 0 0)):=o6
  have v6:LQ Z w6 {D with sure:=TX D.way ks D.sure i,way:=[],down:=false} lv (.slice none 0 0):=⟨h6,agA w6,λh=>h⟩
  try simp(disch:=omega)only[SV,aJG]
  refine DD (off:=3) o6 rfl (by simp) λw7 o7 x7 s7=> ?_
  have h7:=h6.keep o6 (Eu v6) x7
  obtain⟨F,hF⟩:∃F:DI,F=ZD D ks:=⟨_,rfl⟩
  have o7:bD w7 db (AM F lv (.slice none 0 0)):=by rw[hF];exact o7
  have x07:aL w w7 aT:=((x4.trans x5 λy hy hh=>by omega).trans x6 λy hy hh=>by omega).trans x7 λy hy hh=>by omega
  have oR7:=((oR.ext x5 (λhh=>by omega)).ext x6 (λhh=>by omega)).ext x7 (λhh=>by omega)
  have hvF:∀{w'},Qu Z w' lv (TX D.way ks D.sure i)->LQ Z w' F lv (.slice none 0 0):=λ{w'} hf=>by
   rw[hF]
   exact⟨by show Qu Z w' lv (TX D.way ks D.sure D.way.length);rw[<-he];exact hf,agA w',λh=>h⟩
  have hns:∀c∈([.int .i64 0,.slice none 0 0,.slice none 0 0,.int .i64 0,.bool false]:List aL1),Cn c=false:=by
   intro c hc
   simp only[aJK,aJN,or_false]at hc
   rcases hc with rfl|rfl|rfl|rfl|rfl<;>rfl
  have:=ajK (w:=w) (K:=λr0 w=>RR r0 w) (Hm (hvF h7)) o7 oR7 rfl (by omega) x07 (λw8 x8 x08=>by
   rw[hRR]
   refine⟨lv,.slice none 0 0,by rw[hF], ?_,x08⟩
   have:=hvF (h7.keep oR7 hns x8)
   rw[hF]at this
   exact this)
  try simp(disch:=omega)only[SV]
  exact this
 unfold I3 Sf
 by_cases hlt:i<D.way.length
 rotate_left
 .have k1:decide ((i:Int)<(D.way.length:Int))=false:=by simp;omega
  have:=fin (by rw[show i=D.way.length from by omega])
  simp(disch:=omega)only[SV,c2',k1,aJG]
  exact this
 have k1:decide ((i:Int)<(D.way.length:Int))=true:=by simp;omega
 by_cases hlk:i<ks.length
 rotate_left
 .have k2:decide ((i:Int)<(ks.length:Int))=false:=by simp;omega
  have:=fin (by
   have:=auY (os:=D.way) (l:=D.sure) (i:=i) (ks:=ks) (by omega) (D.way.length-i)
   rw[show i+(D.way.length-i)=D.way.length from by omega]at this
   exact this.symm)
  simp(disch:=omega)only[SV,c2',k1,k2,aJG]
  exact this
 have k2:decide ((i:Int)<(ks.length:Int))=true:=by simp;omega
 have hin:(i:Int).toNat=i:=aJI _
 have q1:(i:Int)+1=((i+1:Nat):Int):=by omega
 obtain⟨kb,koff,hka,hkcell⟩:∃kb koff,ka=some ⟨kb,koff,none⟩/\w4.cell? ⟨kb,koff+i,none⟩=some (.bool ks[i]):=by
  obtain⟨a',n',c',he',hn',hc',hh⟩:=hk.ext x4 (bC _)
  simp only[Value.slice.injEq]at he'
  obtain⟨rfl,rfl,rfl⟩:=he'
  obtain⟨kb,koff,rfl,h2⟩:=hh (by omega)
  refine⟨kb,koff,rfl, ?_⟩
  rw[h2 i (by omega),aJ4,aJE hlk]
  rfl
 subst hka
 have hstep:TX D.way ks D.sure (i+1)=if ks[i]then rdo D.way[i] (TX D.way ks D.sure i)else TX D.way ks D.sure i:=by
  rw[TX,aJE hlt,aJE hlk]
  cases ks[i]<;>rfl
 unfold I2
 cases hki:ks[i]with
 |false=>
  rw[hki]at hkcell
  rw[hki,if_neg (by decide)]at hstep
  simp(disch:=omega)only[SV,c2',k1,k2,hin,hkcell,q1,aJG]
  exact⟨D.way.length-(i+1),by omega,i+1,lv,rfl,by omega,rfl,by rw[hstep];exact hlv,by rw[hstep];exact oD,oR,x4⟩
 |true=>
  rw[hki]at hkcell
  rw[hki,if_pos rfl]at hstep
  have x4d:aL w (dr w4) aT:=x4.seq (aL.dr _ _)
  have oDd:=dB oD
  have d1:(dr w4).cell? ⟨db,1,none⟩=some lv:=oDd.cell (off:=1)
  have d2:(dr w4).cell? ⟨db,2,none⟩=some wv:=oDd.cell (off:=2)
  obtain⟨a,off,c',he,hld⟩:=(h.new x4d).op hlt
  rw[he]at d2
  have hops:=hB.ops _ (aKp hlt)
  simp(disch:=omega)only[SV,c2',k1,k2,hin,hkcell,d1,d2,hld,aJG]
  refine(aD2 (hlv.new (aL.dr _ _)) (by omega) hops.1 (by omega) (by omega) (λb hb=>hfb _ _ hb)).mono ?_
  rintro r w5 ⟨hr,x5⟩
  obtain⟨ra,rc,hrv⟩:=hr.len
  have oD5:=oDd.ext x5 (λh=>h)
  have oR5:=(dB oR).ext x5 (λh=>h)
  try simp(disch:=omega)only[SV,aJG]
  refine Cu (off:=1) oD5 (by rw[hrv]<;>rfl) (by simp) λw6 o6 x6 s6=> ?_
  have v5:LQ Z w5 {D with sure:=TX D.way ks D.sure i} lv wv:=hv4.new ((aL.dr _ _).seq x5)
  have hr6:=hr.keep oD5 (Eu v5) x6
  rw[<-hstep]at hr6
  have o6:bD w6 db (AM {D with sure:=TX D.way ks D.sure (i+1)} r wv):=o6
  simp(disch:=omega)only[SV,q1]
  exact⟨D.way.length-(i+1),by omega,i+1,r,rfl,by omega,rfl,hr6,o6,oR5.ext x6 (λhh=>by omega),(x4d.seq x5).trans x6 λy hy hh=>by omega⟩
end Go.Proofs.YteelnmpbnaohpaaGreatDoor
namespace Go.Proofs.YteelnmpbnaohpaaGreatDoor
open Go Go.En Go.Pu
structure He(S:cG)(D:DI):Prop where
 rm:D.room=S.room
 lf:D.left=S.left
 dn:D.down=S.down
 wy:D.way=S.under
 su:Sim S.sure D.sure
 se:Sim S.seen (dY D)
 kd:∀o∈S.under,o.kind<=2
theorem aFV(r:Int):He (Xd r) ⟨r,[],[],-1,false⟩:=⟨rfl,rfl,rfl,rfl,Sim.nil,Sim.nil,λo h=>by cases h⟩
theorem awA{S:cG}{D:DI}(h:He S D)(n:ByteArray):SC D n=if S.down then(([]:List UInt8),(20:Int))else match bF n S.seen with
 |none=>([],21)
 |some b=>(b,0):=by
 unfold SC
 by_cases hd:S.down=true
 .rw [h.dn,if_pos hd,if_pos hd]
 .rw [h.dn,h.se.eq]<;>simp only[if_neg hd]<;>(cases bF n (dY D)<;>rfl)
theorem aEk{S:cG}{D:DI}(h:He S D)(a:Int):He {S with left:=a} {D with left:=a}:=⟨h.rm,rfl,h.dn,h.wy,h.su,h.se,h.kd⟩
theorem aoS{S:cG}{D:DI}(h:He S D)(hd:S.down=false):(jI D).2=dnB S/\He {S with left:=Cp S.left,down:=dnB S} (jI D).1:=by
 unfold jI dnB
 rw[h.lf,hd,aLi]
 by_cases h0:S.left=0
 .rw [if_pos h0]
  refine⟨by rw[h0]<;>rfl,⟨h.rm, ?_,by show true=_;rw[h0]<;>rfl,h.wy,h.su,h.se,h.kd⟩⟩
  show S.left=Cp S.left
  rw[h0]<;>rfl
 .rw [if_neg h0]
  have:(S.left==0)=false:=beq_eq_false_iff_ne.2 h0
  refine⟨this.symm,⟨h.rm,rfl,by show D.down=_;rw[h.dn,hd,this],h.wy,h.su,h.se,h.kd⟩⟩
theorem akJ{S:cG}{D:DI}(h:He S D)(hd:S.down=false){k:Nat}{n m:ByteArray}{a:Int}{b:List UInt8}(hf:uY D k n m a b=0)(hk:k<=2):(Dh D k n m a b).2=(yL S ⟨k,n,m,a.toNat,b⟩).2/\He (yL S ⟨k,n,m,a.toNat,b⟩).1 (Dh D k n m a b).1:=by
 obtain⟨h1,h2⟩:=aoS h hd
 unfold Dh yL
 rw[if_neg (by rw[hf];decide),h1]
 cases hs:dnB S with
 |true=>
  rw[hs]at h2
  exact⟨rfl,h2⟩
 |false=>
  rw[hs]at h2
  refine⟨rfl,⟨h2.rm,h2.lf,h2.dn, ?_,h2.su, ?_,λo ho=> ?_⟩⟩
  .show D.way++[_]=S.under++[_]
   rw[h.wy]
  .have h3:=h.se.do (o:=⟨k,n,m,a.toNat,b⟩) hk
   have hr:dY {(jI D).1 with way:=D.way++[⟨k,n,m,a.toNat,b⟩]}=rdo ⟨k,n,m,a.toNat,b⟩ (dY D):=by
    unfold dY
    show(D.way++[_]).foldl _ (jI D).1.sure=_
    rw[List.foldl_append,(FT D).1]
    rfl
   have h4:Sim (TS ⟨k,n,m,a.toNat,b⟩ S.seen) (dY {(jI D).1 with way:=D.way++[⟨k,n,m,a.toNat,b⟩]}):=by rw[hr];exact h3
   exact h4
  .rcases aKg.1 ho with ho|ho
   .exact h.kd o ho
   .rw [aKm]at ho
    rw[ho];exact hk
theorem EH{S:cG}{D:DI}(h:He S D){k:Nat}{n m:ByteArray}{a:Int}{b:List UInt8}{e:Int}(hf:uY D k n m a b=e)(he:e≠0):(Dh D k n m a b).2=e/\He S (Dh D k n m a b).1:=by
 unfold Dh
 rw[if_pos (by rw[hf];exact he)]
 exact⟨hf,h⟩
theorem aoT{S:cG}{D:DI}(h:He S D)(n:ByteArray)(a:Int)(b:List UInt8):(Dh D 0 n ⟨#[]⟩ a b).2=(zU S n a b).2/\He (zU S n a b).1 (Dh D 0 n ⟨#[]⟩ a b).1:=by
 have hf:uY D 0 n ⟨#[]⟩ a b=wrE S n a b.length:=by
  unfold uY wrE
  rw[h.dn]
  by_cases hd:S.down=true
  .rw [if_pos hd,if_pos hd]
  rw[if_neg hd,if_neg hd]
  by_cases hb:Aq n=false∨a<0
  .rw [if_pos hb,if_pos]
   rcases hb with hb|hb
   .exact .inr (.inr ⟨by decide,hb⟩)
   .exact .inr (.inl ⟨rfl,hb⟩)
  rw[if_neg hb,if_neg,if_neg (by decide),<-h.se.eq]
  .have hsb:nT S n=(bF n S.seen).getD []:=rfl
   rw[hsb]
   by_cases h17:(((bF n S.seen).getD []).length:Int)<a
   .rw [if_pos h17,if_pos h17]
   rw[if_neg h17,if_neg h17,h.rm,<-((h.se.do (o:=⟨0,n,⟨#[]⟩,a.toNat,b⟩) (Nat.zero_le _)).both).1]
   have hs:=sT n (over ((bF n S.seen).getD []) a.toNat b) S.seen
   rw[yR]at hs
   have hdo:TS ⟨0,n,⟨#[]⟩,a.toNat,b⟩ S.seen=nR n (over ((bF n S.seen).getD []) a.toNat b) S.seen:=rfl
   rw[hdo]
   have ha:0<=a:=by
    by_cases ha:a<0
    .exact absurd (.inr ha) hb
    .omega
   have heq:((bN (nR n (over ((bF n S.seen).getD []) a.toNat b) S.seen):Nat):Int)=(bN S.seen:Int)+max (a+(b.length:Int)-(((bF n S.seen).getD []).length:Int)) 0:=by
    generalize((bF n S.seen).getD []).length=q at*
    omega
   rw[heq]
  .rintro (hh|hh|hh)
   .exact absurd hh.1 (by decide)
   .exact hb (.inr hh.2)
   .exact hb (.inl hh.2)
 unfold zU
 by_cases he:wrE S n a b.length=0
 .rw [if_pos he]
  have hd:S.down=false:=by
   cases hd:S.down with
   |false=>rfl
   |true=>unfold wrE at he;rw[if_pos hd]at he;cases he
  exact akJ h hd (by rw[hf,he]) (Nat.zero_le _)
 .rw [if_neg he]
  exact EH h hf he
theorem akK{S:cG}{D:DI}(h:He S D)(n:ByteArray):(Dh D 2 n ⟨#[]⟩ 0 []).2=(Yj S n).2/\He (Yj S n).1 (Dh D 2 n ⟨#[]⟩ 0 []).1:=by
 unfold Yj
 by_cases hd:S.down=true
 .rw [if_pos hd]
  exact EH (e:=20) h (by unfold uY;rw[h.dn,if_pos hd]) (by decide)
 have hd':S.down=false:=by cases hq:S.down with|true=>exact absurd hq hd|false=>rfl
 have hf:uY D 2 n ⟨#[]⟩ 0 []=if bF n S.seen=none then 21 else 0:=by
  unfold uY
  rw[h.dn,if_neg hd,if_neg (by simp),if_pos (by decide),h.se.eq]
 rw[if_neg hd]
 cases hg:bF n S.seen with
 |none=>
  rw[hg,if_pos rfl]at hf
  exact EH (e:=21) h hf (by decide)
 |some b=>
  rw[hg,if_neg (by simp)]at hf
  exact akJ h hd' hf (by decide)
theorem akL{S:cG}{D:DI}(h:He S D)(n m:ByteArray):(Dh D 1 n m 0 []).2=(JX S n m).2/\He (JX S n m).1 (Dh D 1 n m 0 []).1:=by
 unfold JX
 by_cases hd:S.down=true
 .rw [if_pos hd]
  exact EH (e:=20) h (by unfold uY;rw[h.dn,if_pos hd]) (by decide)
 have hd':S.down=false:=by cases hq:S.down with|true=>exact absurd hq hd|false=>rfl
 rw[if_neg hd]
 by_cases hb:Aq n=false∨Aq m=false
 .rw [if_pos hb]
  refine EH (e:=1) h ?_ (by decide)
  unfold uY
  rw[h.dn,if_neg hd,if_pos]
  rcases hb with hb|hb
  .exact .inr (.inr ⟨by decide,hb⟩)
  .exact .inl ⟨rfl,hb⟩
 have hf:uY D 1 n m 0 []=if bF n S.seen=none then 21 else 0:=by
  unfold uY
  rw[h.dn,if_neg hd,if_neg,if_pos (by decide),h.se.eq]
  rintro(hh|hh|hh)
  .exact hb (.inr hh.2)
  .exact absurd hh.1 (by decide)
  .exact hb (.inl hh.2)
 rw[if_neg hb]
 cases hg:bF n S.seen with
 |none=>
  rw[hg,if_pos rfl]at hf
  exact EH (e:=21) h hf (by decide)
 |some b=>
  rw[hg,if_neg (by simp)]at hf
  exact akJ h hd' hf (by decide)
theorem awB{S:cG}{D:DI}(h:He S D):(G1 D).2=(AP S).2/\He (AP S).1 (G1 D).1:=by
 unfold G1 AP
 rw[h.dn]
 by_cases hd:S.down=true
 .rw [if_pos hd,if_pos hd]
  exact⟨rfl,h⟩
 have hd':S.down=false:=by cases hq:S.down with|true=>exact absurd hq hd|false=>rfl
 obtain⟨h1,h2⟩:=aoS h hd'
 rw[if_neg hd,if_neg hd,h1]
 cases hs:dnB S with
 |true=>
  rw[hs]at h2
  exact⟨rfl,h2⟩
 |false=>
  rw[hs]at h2
  refine⟨rfl,⟨h2.rm,h2.lf,h2.dn,rfl,h.se, ?_,λo ho=>by cases ho⟩⟩
  show Sim S.seen (dY {(jI D).1 with sure:=dY D,way:=[]})
  exact h.se
theorem aCc{S:cG}{D:DI}(h:He S D)(ks:List Bool):He (crS S ks) (ZD D ks):=by
 have hi:∀i,Sim (crN S.under ks S.sure i) (TX D.way ks D.sure i):=by
  intro i
  induction i with
  |zero=>exact h.su
  |succ i ih=>
   rw[crN,TX,h.wy]
   rw[h.wy]at ih
   cases ho:S.under[i]? with
   |none=>exact ih
   |some o=>
    cases hk:ks[i]? with
    |none=>exact ih
    |some z=>
     cases z with
     |false=>exact ih
     |true=>exact ih.do (h.kd o (aKR ho))
 have hh:=hi S.under.length
 refine⟨h.rm,rfl,rfl,rfl, ?_, ?_,λo ho=>by cases ho⟩
 .show Sim _ (TX D.way ks D.sure D.way.length)
  rw[show D.way.length=S.under.length from by rw[h.wy]]
  exact hh
 .show Sim _ (TX D.way ks D.sure D.way.length)
  rw[show D.way.length=S.under.length from by rw[h.wy]]
  exact hh
end Go.Proofs.YteelnmpbnaohpaaGreatDoor
namespace Go.Proofs.YteelnmpbnaohpaaGreatDoor
open Go Go.En Go.Pu
set_option maxRecDepth 4000
variable {Z : Nat -> Prop}
theorem ayX{S:cG}{D:DI}{sv wv:aL1}{n:ByteArray}{w:aL0}(h:LQ Z w D sv wv)(hB:RBd D)(hS:He S D):
 aG pg tX #[.agg (AM D sv wv).toArray,.string n] w (λr w'=>r= .tuple #[.string ⟨(bS S n).1.toArray⟩,.bool (bS S n).2.1,.int .i64 (bS S n).2.2]/\aL w w' aT):=by
 refine aeO ?_
 obtain⟨RR,hRR⟩:∃RR:aL1->aL0->Prop,RR=λr w'=>r= .tuple #[.string ⟨(bS S n).1.toArray⟩,.bool (bS S n).2.1,.int .i64 (bS S n).2.2]/\aL w w' aT:=⟨_,rfl⟩
 rw[<-hRR]
 unfold ajF U0
 refine cA λw1 o1 x1 s1=> ?_
 rw[Cq h]at o1
 obtain⟨db,hdb⟩:∃db,db=w.heap.size:=⟨_,rfl⟩
 rw[<-hdb]at o1⊢
 have ld:(aB 40 (.pointer (some ⟨db,0,none⟩))).run pg w1= .ok (.value (.agg (AM D sv wv).toArray)) w1:=bW (off:=0) o1 (by simp)
 simp(disch:=omega)only[SV,ld]
 refine(aAR (h.new x1) hB).mono ?_
 rintro r w2 ⟨rfl,x2⟩
 have x02:=x1.seq x2
 have hr:=awA hS n
 by_cases hd:S.down=true
 .rw [if_pos hd]at hr
  rw[hr]
  have k1:((20:Int)==21)=false:=rfl
  have k2:((20:Int)==0)=false:=rfl
  simp(disch:=omega)only[SV,k1,k2]
  rw[hRR]
  refine⟨?_,x02⟩
  unfold bS
  rw[if_pos hd]
 .rw [if_neg hd]at hr
  cases hg:bF n S.seen with
  |none=>
   rw[hg]at hr
   have hr:SC D n=([],21):=hr
   rw[hr]
   have k1:((21:Int)==21)=true:=rfl
   simp(disch:=omega)only[SV,k1]
   rw[hRR]
   refine⟨?_,x02⟩
   unfold bS
   rw[if_neg hd,hg]
  |some b=>
   rw[hg]at hr
   have hr:SC D n=(b,0):=hr
   rw[hr]
   have k1:((0:Int)==21)=false:=rfl
   have k2:((0:Int)==0)=true:=rfl
   simp(disch:=omega)only[SV,k1,k2]
   rw[hRR]
   refine⟨?_,x02⟩
   unfold bS
   rw[if_neg hd,hg]
structure RK(n:Nat)(S:cG)(D:DI):Prop where
 sim:He S D
 bk:GN n S
 rb:RBd D
 len:D.sure.length+D.way.length+n<=50000
theorem RK.le {n m:Nat}{S:cG}{D:DI}(h:RK n S D)(hm:m<=n):RK m S D:=⟨h.sim,h.bk.le hm,h.rb,by have:=h.len;omega⟩
theorem RK.left {n:Nat}{S:cG}{D:DI}(h:RK n S D): -1<=D.left/\D.left<=9223372036854775807:=by
 rw[h.sim.lf];exact h.bk.bd.left
theorem RBd.like {D D':DI}(h:RBd D)(h1:D'.sure=D.sure)(h2:D'.way=D.way):RBd D':=⟨h1▸h.fs,h2▸h.ops,by rw[h1,h2];exact h.len⟩
theorem aqQ{D:DI}{N k:Nat}{n m:ByteArray}{a:Int}{b:List UInt8}(h:RBd D)(hl:D.sure.length+D.way.length+(N+1)<=50000)(ho:uY D k n m a b=0->k<=2/\a.toNat+b.length<=1000000000):
 RBd (Dh D k n m a b).1/\(Dh D k n m a b).1.sure.length+(Dh D k n m a b).1.way.length+N<=50000:=by
 obtain⟨k1,k2,_⟩:=FT D
 unfold Dh
 split
 .exact ⟨h,by show D.sure.length+D.way.length+N<=50000;omega⟩
 .rename_i h0
  have h0:uY D k n m a b=0:=Classical.not_not.1 h0
  split
  .exact ⟨h.like k1 k2,by rw[k1,k2];omega⟩
  .have hlen:((jI D).1.sure).length+(D.way++[(⟨k,n,m,a.toNat,b⟩:LP)]).length+N<=50000:=by rw[k1,aJF];simp;omega
   refine⟨⟨k1▸h.fs,λo hm=> ?_, ?_⟩,hlen⟩
   .rcases aKg.1 hm with hm|hm
    .exact h.ops o hm
    .rw [aKm]at hm
     subst hm
     exact ho h0
   .have:((jI D).1.sure).length+(D.way++[(⟨k,n,m,a.toNat,b⟩:LP)]).length<=50000:=by omega
    exact this
theorem aD4 {D:DI}{S:cG}(h:He S D)(n m:ByteArray)(a:Nat)(b:List UInt8):bN (rdo ⟨0,n,m,a,b⟩ (dY D))+(nT S n).length=bN S.seen+max (nT S n).length (a+b.length):=by
 have h1:=(Sim.do (o:=⟨0,n,m,a,b⟩) h.se (show(0:Nat)<=2 by omega)).both.1
 rw[<-h1]
 have e:TS ⟨0,n,m,a,b⟩ S.seen=nR n (over (nT S n) a b) S.seen:=rfl
 rw[e]
 have hs:=sT n (over (nT S n) a b) S.seen
 rw[yR]at hs
 exact hs
theorem RK.write {n:Nat}{S:cG}{D:DI}(h:RK (n+1) S D)(k:ByteArray)(a:Int)(l:List UInt8):RK n (zU S k a l).1 (Dh D 0 k ⟨#[]⟩ a l).1:=by
 obtain⟨h1,h2⟩:=aqQ (N:=n) (k:=0) (n:=k) (m:=⟨#[]⟩) (a:=a) (b:=l) h.rb (by have:=h.len;omega) (λhf=>by
  have hr:=h.bk.bd.room
  have hz:=h.bk.sz
  have hw:=aD4 h.sim k ⟨#[]⟩ a.toNat l
  have hg:(nT S k).length<=bN S.seen:=sS
  unfold uY at hf
  rw[h.sim.rm]at hf
  split at hf
  .cases hf
  split at hf
  .cases hf
  rw[if_neg (by omega)]at hf
  split at hf
  .cases hf
  split at hf
  .cases hf
  rename_i h5
  refine⟨by omega, ?_⟩
  omega)
 exact⟨(aoT h.sim k a l).2,awZ h.bk,h1,h2⟩
theorem RK.remove {n:Nat}{S:cG}{D:DI}(h:RK (n+1) S D)(k:ByteArray):RK n (Yj S k).1 (Dh D 2 k ⟨#[]⟩ 0 []).1:=by
 obtain⟨h1,h2⟩:=aqQ (N:=n) (k:=2) (n:=k) (m:=⟨#[]⟩) (a:=0) (b:=[]) h.rb (by have:=h.len;omega) (λhf=>⟨by omega,by simp⟩)
 exact⟨(akK h.sim k).2,aAO h.bk,h1,h2⟩
theorem RK.rename {n:Nat}{S:cG}{D:DI}(h:RK (n+1) S D)(k j:ByteArray):RK n (JX S k j).1 (Dh D 1 k j 0 []).1:=by
 obtain⟨h1,h2⟩:=aqQ (N:=n) (k:=1) (n:=k) (m:=j) (a:=0) (b:=[]) h.rb (by have:=h.len;omega) (λhf=>⟨by omega,by simp⟩)
 exact⟨(akL h.sim k j).2,aGt h.bk,h1,h2⟩
theorem RK.sync {n:Nat}{S:cG}{D:DI}(h:RK n S D):RK n (AP S).1 (G1 D).1:=by
 obtain⟨k1,k2,_⟩:=FT D
 have hl:=h.len
 refine⟨(awB h.sim).2,aGu h.bk, ?_, ?_⟩
 .unfold G1
  split
  .exact h.rb
  split
  .exact h.rb.like k1 k2
  .obtain ⟨f1,f2⟩:=Tj D.way h.rb.fs h.rb.ops
   exact⟨f1,λo ho=>(nomatch ho),by show(dY D).length+0<=50000;unfold dY;omega⟩
 .unfold G1
  split
  .exact hl
  split
  .rw [k1,k2];exact hl
  .obtain ⟨f1,f2⟩:=Tj D.way h.rb.fs h.rb.ops
   show(dY D).length+0+n<=50000
   unfold dY;omega
def uA(Z:Nat->Prop)(n:Nat)(w:aL0)(S:cG)(dv:aL1):Prop:=∃D sv wv,dv= .agg (AM D sv wv).toArray/\LQ Z w D sv wv/\RK n S D
theorem uA.new {n:Nat}{w w':aL0}{S:cG}{dv:aL1}(h:uA Z n w S dv)(x:aL w w' aT):uA Z n w' S dv:=by
 obtain⟨D,sv,wv,h1,h2,h3⟩:=h
 exact⟨D,sv,wv,h1,h2.new x,h3⟩
theorem uA.le {n m:Nat}{w:aL0}{S:cG}{dv:aL1}(h:uA Z n w S dv)(hm:m<=n):uA Z m w S dv:=by
 obtain⟨D,sv,wv,h1,h2,h3⟩:=h
 exact⟨D,sv,wv,h1,h2,h3.le hm⟩
def YO:List aL1->Bool
 |a::b::r=> !(Cn a&&Cn b)&&YO (b::r)
 |_=>true
theorem aDI:∀{cs:List aL1} {i:Nat} {x y:aL1},YO cs=true->cs[i]?=some x->cs[i+1]?=some y->Cn x=true->Cn y=true->False
 |a::b::r,0,x,y,h,h1,h2,hx,hy=>by
  simp only[aJD,aJJ,aKc]at h1 h2
  subst h1;subst h2
  rw[YO,hx,hy]at h
  cases h
 |a::b::r,i+1,x,y,h,h1,h2,hx,hy=>by
  rw[YO,aJQ]at h
  exact aDI (i:=i) h.2 (by simpa using h1) (by simpa using h2) hx hy
 |[a],i,x,y,h,h1,h2,hx,hy=>by simp at h2
 |[],i,x,y,h,h1,h2,hx,hy=>by simp at h2
theorem Mo:∀{cs:List aL1},(∀c∈cs,Cn c=false)->YO cs=true
 |a::b::r,h=>by
  rw[YO,h a (by simp),aKH,aKC,aKM]
  exact Mo λc hc=>h c (by simp[hc])
 |[a],h=>rfl
 |[],h=>rfl
theorem aCT{w:aL0}{sz n o:Nat}{v:aL1}{l:List aL1}{b:Nat}{cs:List aL1}(h:Cl w sz v n l)(oo:bD w b cs)(hn:YO cs=true)(ho:o+1<sz)(hs:∀i,i<n->∃x y,l[i*sz+o]?=some x/\l[i*sz+(o+1)]?=some y/\Cn x=true/\Cn y=true):¬fK v (λy=>y=b):=by
 intro hi
 obtain⟨a,c,rfl,hl,hh⟩:=h
 unfold fK at hi
 split at hi
 .rename_i e
  simp only[Value.slice.injEq]at e
  obtain⟨rfl,e2,rfl⟩:=e
  obtain⟨b',off,he,h2⟩:=hh (by omega)
  cases he
  have hi:b'=b:=hi
  subst hi
  obtain⟨x,y,h3,h4,hx,hy⟩:=hs 0 (by omega)
  rw[aLZ,aJG]at h3 h4
  have hsz:sz<=l.length:=by rw[hl,e2];exact Nat.le_mul_of_pos_left _ (by omega)
  have g3:=h2 o (by omega)
  have g4:=h2 (o+1) (by omega)
  rw[oo.cell,h3]at g3
  rw[oo.cell,h4]at g4
  exact aDI (i:=off+o) hn g3 (by rw[aKy];exact g4) hx hy
 .exact hi
theorem Zh{v:aL1}{M:Nat->Prop}(h:fK v M):∃b,M b/\fK v (λy=>y=b):=by
 unfold fK at h
 split at h
 .exact ⟨_,h,rfl⟩
 .exact h.elim
theorem LQ.keep {w w':aL0}{D:DI}{sv wv:aL1}{M:Nat->Prop}(h:LQ Z w D sv wv)(x:aL w w' M)(hM:∀b,M b->(∃cs,bD w b cs/\YO cs=true)∨w.heap.size<=b):LQ Z w' D sv wv:=by
 refine⟨⟨dS h.sure.1 x λhi=> ?_,h.sure.2.1,λb hb=>aKe (h.sure.2.2 b hb) x.size⟩,dS h.way x λhi=> ?_,h.wz⟩
 .obtain ⟨b,hb,hi⟩:=Zh hi
  rcases hM b hb with⟨cs,o,hn⟩|hn
  .refine aCT (o:=0) h.sure.1 o hn (by omega) (λi hi=> ?_) hi
   obtain⟨h3,h4⟩:=aqT hi
   exact⟨_,_,h3,h4,rfl,rfl⟩
  .exact Wn h.sure.1 (by omega) (bO hi λy hy=>by rw[hy];exact hn)
 .obtain ⟨b,hb,hi⟩:=Zh hi
  rcases hM b hb with⟨cs,o,hn⟩|hn
  .refine aCT (o:=1) h.way o hn (by omega) (λi hi=> ?_) hi
   exact⟨_,_,afZ hi (by omega),afZ hi (by omega),rfl,rfl⟩
  .exact Wn h.way (by omega) (bO hi λy hy=>by rw[hy];exact hn)
theorem uA.keep {n:Nat}{w w':aL0}{S:cG}{dv:aL1}{M:Nat->Prop}(h:uA Z n w S dv)(x:aL w w' M)(hM:∀b,M b->(∃cs,bD w b cs/\YO cs=true)∨w.heap.size<=b):uA Z n w' S dv:=by
 obtain⟨D,sv,wv,h1,h2,h3⟩:=h
 exact⟨D,sv,wv,h1,h2.keep x hM,h3⟩
theorem uA.cs {n:Nat}{w:aL0}{S:cG}{dv:aL1}(h:uA Z n w S dv):∃cs:List aL1,dv= .agg cs.toArray/\cs.length=5/\(Value.agg cs.toArray).cells.toList=cs/\(∀x∈cs,one x=true)/\∀x∈cs,Cn x=false:=by
 obtain⟨D,sv,wv,h1,h2,h3⟩:=h
 exact⟨_,h1,rfl,Cq h2,Hm h2,Eu h2⟩
theorem ajN{N:Nat}{S:cG}{dv:aL1}{n:ByteArray}{w:aL0}(h:uA Z N w S dv):
 aG pg tX #[dv,.string n] w (λr w'=>r= .tuple #[.string ⟨(bS S n).1.toArray⟩,.bool (bS S n).2.1,.int .i64 (bS S n).2.2]/\aL w w' aT):=by
 obtain⟨D,sv,wv,rfl,h2,h3⟩:=h
 exact ayX h2 h3.rb h3.sim
theorem HU{N:Nat}{S:cG}{dv:aL1}{k:ByteArray}{a:Int}{l:List UInt8}{w:aL0}(h:uA Z (N+1) w S dv)(hl:l.length<=1000000000):
 aG pg iB #[dv,.agg (roI 0 k ⟨#[]⟩ a l).toArray] w (λr w'=>∃dv',r= .tuple #[dv',.int .i64 (zU S k a l).2]/\uA Z N w' (zU S k a l).1 dv'/\aL w w' aT):=by
 obtain⟨D,sv,wv,rfl,h2,h3⟩:=h
 have hz:=h3.bk.sz
 refine(ayT h2 h3.rb (by omega) (λh=>absurd rfl h) hl h3.left (λ_ h0 ha=> ?_)).mono ?_
 .have hw:=aD4 h3.sim k ⟨#[]⟩ a.toNat l
  have hg:(nT S k).length<=bN S.seen:=sS
  have he:((bF k (dY D)).getD []).length=(nT S k).length:=by unfold nT;rw[h3.sim.se.eq]
  omega
 .rintro r w' ⟨sv',wv',rfl,hv,x⟩
  rw[(aoT h3.sim k a l).1]
  exact⟨_,rfl,⟨_,_,_,rfl,hv,h3.write k a l⟩,x⟩
theorem azC{N:Nat}{S:cG}{dv:aL1}{k:ByteArray}{w:aL0}(h:uA Z (N+1) w S dv):
 aG pg iB #[dv,.agg (roI 2 k ⟨#[]⟩ 0 []).toArray] w (λr w'=>∃dv',r= .tuple #[dv',.int .i64 (Yj S k).2]/\uA Z N w' (Yj S k).1 dv'/\aL w w' aT):=by
 obtain⟨D,sv,wv,rfl,h2,h3⟩:=h
 refine(ayT h2 h3.rb (by omega) (λ_=>rfl) (by simp) h3.left (λh=>absurd h (by decide))).mono ?_
 rintro r w' ⟨sv',wv',rfl,hv,x⟩
 rw[(akK h3.sim k).1]
 exact⟨_,rfl,⟨_,_,_,rfl,hv,h3.remove k⟩,x⟩
theorem azD{N:Nat}{S:cG}{dv:aL1}{k j:ByteArray}{w:aL0}(h:uA Z (N+1) w S dv):
 aG pg iB #[dv,.agg (roI 1 k j 0 []).toArray] w (λr w'=>∃dv',r= .tuple #[dv',.int .i64 (JX S k j).2]/\uA Z N w' (JX S k j).1 dv'/\aL w w' aT):=by
 obtain⟨D,sv,wv,rfl,h2,h3⟩:=h
 refine(ayT h2 h3.rb (by omega) (λ_=>rfl) (by simp) h3.left (λh=>absurd h (by decide))).mono ?_
 rintro r w' ⟨sv',wv',rfl,hv,x⟩
 rw[(akL h3.sim k j).1]
 exact⟨_,rfl,⟨_,_,_,rfl,hv,h3.rename k j⟩,x⟩
theorem Yk{N:Nat}{S:cG}{dv:aL1}{w:aL0}(h:uA Z N w S dv):
 aG pg qN #[dv] w (λr w'=>∃dv',r= .tuple #[dv',.int .i64 (AP S).2]/\uA Z N w' (AP S).1 dv'/\aL w w' aT):=by
 obtain⟨D,sv,wv,rfl,h2,h3⟩:=h
 refine(aFP h2 h3.rb h3.left).mono ?_
 rintro r w' ⟨sv',wv',rfl,hv,x⟩
 rw[(awB h3.sim).1]
 exact⟨_,rfl,⟨_,_,_,rfl,hv,h3.sync⟩,x⟩
end Go.Proofs.YteelnmpbnaohpaaGreatDoor
namespace Go.Proofs.YteelnmpbnaohpaaGreatDoor
open Go Go.En Go.Pu
def sF:ByteArray:=⟨#[102]⟩
theorem aFx:sF≠aZ sF:=by decide
theorem aGV:sF≠cZ sF:=by decide
theorem aDE:aZ sF≠cZ sF:=by decide
theorem aH1:Aq sF=true:=by decide
theorem aDB:Aq (aZ sF)=true:=by decide
theorem aH2:Aq (cZ sF)=true:=by decide
section
variable(lf:List UInt8->List UInt8)(cf:List UInt8->Nat)
theorem atJ{α:Type}(n:Nat)(g:Nat->α)(d:α){i:Nat}(h:i<n):((List.range n).map g).getD i d=g i:=by
 rw[aJL,aJ4,List.getElem?_range h]<;>rfl
theorem QC{l:List Bool}:Ae l=true↔∀i,i<l.length->l.getD i false=true:=by
 unfold Ae
 constructor
 .intro h i hi
  have h1:¬false∈l:=by simpa using h
  rw[aJL,aJE hi]
  have:=aKp hi
  cases hq:l[i]with
  |true=>rfl
  |false=>rw[hq]at this;exact absurd this h1
 .intro h
  have h1:¬false∈l:=λhm=>by
   obtain⟨i,hi,e⟩:=aLs hm
   have:=h i hi
   rw[aJL,aJE hi,e]at this
   cases this
  simpa using h1
theorem alC(m:Gh)(b:List UInt8):(bQ lf m b).length=m.leaves.length:=by unfold bQ;simp
theorem Tm(f:List UInt8)(k:Nat):(kC lf f k).leaves.length=lD f.length k:=by unfold kC;simp
theorem auB{f:List UInt8}{k i:Nat}(h:i<lD f.length k):(kC lf f k).leaves.getD i []=lf (CB f.length k i f):=by
 unfold kC
 exact atJ _ _ _ h
theorem apA{f:List UInt8}{k i:Nat}(h:i<lD f.length k):wT lf (kC lf f k) i (CB f.length k i f)=true:=by
 unfold wT
 rw[auB lf h]
 show((CB f.length k i f).length==U7 f.length k i&&_)=true
 rw[NH rfl]
 simp
theorem awX{f b:List UInt8}{k:Nat}(hk:0<k)(hb:b.length=f.length){i:Nat}(h:i<lD f.length k)(hp:CB f.length k i b=CB f.length k i f):(bQ lf (kC lf f k) b).getD i false=true:=by
 unfold bQ
 rw[Tm,atJ _ _ _ h]
 unfold wholeAt
 show(decide (k*i+U7 f.length k i<=b.length)&&wT lf (kC lf f k) i (CB f.length k i b))=true
 rw[hp,apA lf h,hb]
 have:=Yz ((Bn hk).1 h)
 simpa using this
theorem arN{f:List UInt8}{k:Nat}(hk:0<k):Ae (bQ lf (kC lf f k) f)=true:=by
 rw[QC,alC,Tm]
 exactλi hi=>awX lf hk rfl hi rfl
theorem abF{S:cG}{s:eT}{recs:List (Nat×Nat)}{k v:Nat}(h:Calm S)(hnm:s.nm=sF)(hl:(bF (cZ sF) S.seen).getD []=nS cf recs)(hs:s.log=13*recs.length):
 bZ cf S s k v=if S.room<((bN S.seen+13:Nat):Int)then(S,s,22)else({S with under:=S.under++[⟨0,cZ sF,⟨#[]⟩,13*recs.length,pA cf k v⟩],seen:=nR (cZ sF) (nS cf (recs++[(k,v)])) S.seen},{s with log:=s.log+13},0):=by
 have hlen:(nT S (cZ sF)).length=13*recs.length:=by unfold nT;rw[hl,lX]
 have e:=arO (k:=cZ sF) (a:=13*recs.length) (l:=pA cf k v) h aH2 (by omega)
 rw[hlen,oX,show bN S.seen+(13*recs.length+13-13*recs.length)=bN S.seen+13 from by omega]at e
 have eo:over (nT S (cZ sF)) (13*recs.length) (pA cf k v)=nS cf (recs++[(k,v)]):=by
  rw[ayV,<-hlen,aDO]
  unfold nT
  rw[hl]
 rw[eo]at e
 unfold bZ
 rw[hnm,hs,e]
 split
 .rfl
 .rfl
structure Got(f:List UInt8)(k:Nat)(F0:Option (List UInt8))(recs:List (Nat×Nat))(P:List UInt8)(S:cG)(s:eT):Prop where
 calm:Calm S
 nm:s.nm=sF
 man:s.man=kC lf f k
 err:s.err=0
 fin:s.fin=false
 hvl:s.hv.length=lD f.length k
 log:s.log=13*recs.length
 gF:bF sF S.seen=F0
 gP:bF (aZ sF) S.seen=some P
 gL:bF (cZ sF) S.seen=some (nS cf recs)
 Pl:P.length=f.length
 ok:∀r∈recs,okR r
 part:∀i,i<lD f.length k->s.hv.getD i false=true->CB f.length k i P=CB f.length k i f
 told:∀i,i<lD f.length k->(s.hv.getD i false=true↔(2,i)∈recs)
 cnt:recs.length=1+s.hv.count true
 sz:bN S.seen=(F0.getD []).length+f.length+13*recs.length
 rm:(bN S.seen:Int)<=S.room
 nd:(S.seen.map (·.1)).Nodup
 un:S.under=[]
 rb:0<=S.room/\S.room<=16777216
variable{lf cf}
theorem mJ{k j:ByteArray}{v:List UInt8}{l:cO}(h:j≠k):bF j (nR k v l)=bF j l:=by rw[Md,if_neg h]
theorem FL{k:ByteArray}{v:List UInt8}{l:cO}:bF k (nR k v l)=some v:=by rw[Md,if_pos rfl]
theorem aqL{f:List UInt8}{k:Nat}{F0:Option (List UInt8)}{recs:List (Nat×Nat)}{P:List UInt8}{S:cG}{s:eT}(h:Got lf cf f k F0 recs P S s)(hk:0<k)(hL:f.length<=1000000){i:Nat}(hi:i<lD f.length k)(hv:s.hv.getD i false=false):
 (¬S.room<((bN S.seen+13:Nat):Int)->∃S' s',yT lf cf S s i (CB f.length k i f)=(S',s',0)/\Got lf cf f k F0 (recs++[(2,i)]) (over P (k*i) (CB f.length k i f)) S' s'/\S'.room=S.room/\s'.epoch=s.epoch/\s'.hv=s.hv.set i true)/\
 (S.room<((bN S.seen+13:Nat):Int)->∃S' s',yT lf cf S s i (CB f.length k i f)=(S',s',22)/\s'.err=22/\Calm S'/\bF sF S'.seen=F0):=by
 have hki:=(Bn hk).1 hi
 have hpl:(CB f.length k i f).length=U7 f.length k i:=NH rfl
 have hse:=Yz hki
 have hPB:nT S (aZ sF)=P:=by unfold nT;rw[h.gP]<;>rfl
 have e0:=arO (k:=aZ sF) (a:=k*i) (l:=CB f.length k i f) h.calm aDB (by rw[hPB,h.Pl];omega)
 have hrm:=h.rm
 rw[hPB,h.Pl,hpl,show bN S.seen+(k*i+U7 f.length k i-f.length)=bN S.seen from by omega,if_neg (by omega)]at e0
 obtain⟨P',hP'⟩:∃P',P'=over P (k*i) (CB f.length k i f):=⟨_,rfl⟩
 have hP'l:P'.length=f.length:=by rw[hP',yR,h.Pl,hpl];omega
 rw[<-hP']at e0⊢
 obtain⟨S1,hS1⟩:∃S1:cG,S1={S with under:=S.under++[⟨0,aZ sF,⟨#[]⟩,k*i,CB f.length k i f⟩],seen:=nR (aZ sF) P' S.seen}:=⟨_,rfl⟩
 rw[<-hS1]at e0
 have c1:Calm S1:=by rw[hS1];exact⟨h.calm.up,h.calm.left⟩
 have e1:=YG c1
 obtain⟨S2,hS2⟩:∃S2:cG,S2={S1 with sure:=S1.seen,under:=[]}:=⟨_,rfl⟩
 rw[<-hS2]at e1
 have c2:Calm S2:=by rw[hS2];exact⟨c1.up,c1.left⟩
 have s2:S2.seen=nR (aZ sF) P' S.seen:=by rw[hS2,hS1]
 have r2:S2.room=S.room:=by rw[hS2,hS1]
 have g2L:bF (cZ sF) S2.seen=some (nS cf recs):=by rw[s2,mJ (Ne.symm aDE),h.gL]
 have z2:bN S2.seen=bN S.seen:=by
  have:=sT (aZ sF) P' S.seen
  rw[h.gP,aKF,h.Pl,hP'l]at this
  rw[s2];omega
 have e2:=abF cf (s:=s) (k:=2) (v:=i) c2 h.nm (recs:=recs) (by rw[g2L]<;>rfl) h.log
 have hput:yT lf cf S s i (CB f.length k i f)=((fD cf S s i (CB f.length k i f)).1,{(fD cf S s i (CB f.length k i f)).2.1 with err:=(fD cf S s i (CB f.length k i f)).2.2,hv:=(fD cf S s i (CB f.length k i f)).2.1.hv.set i ((fD cf S s i (CB f.length k i f)).2.2==0)},(fD cf S s i (CB f.length k i f)).2.2):=by
  unfold yT
  rw[h.err,h.hvl,if_neg (by decide),if_neg (by omega),aJI,h.fin,hv,aLB,if_neg (by decide),h.man,apA lf hi,if_neg (by decide)]
 have hpart:s.man.part=k:=by rw[h.man]<;>rfl
 refine⟨λhr=> ?_,λhr=> ?_⟩
 .rw [if_neg (by rw[z2,r2];exact hr)]at e2
  obtain⟨S3,hS3⟩:∃S3:cG,S3={S2 with under:=S2.under++[⟨0,cZ sF,⟨#[]⟩,13*recs.length,pA cf 2 i⟩],seen:=nR (cZ sF) (nS cf (recs++[(2,i)])) S2.seen}:=⟨_,rfl⟩
  rw[<-hS3]at e2
  have c3:Calm S3:=by rw[hS3];exact⟨c2.up,c2.left⟩
  have e3:=YG c3
  have hch:fD cf S s i (CB f.length k i f)=({S3 with sure:=S3.seen,under:=[]},{s with log:=s.log+13},0):=by
   unfold fD
   simp only[hpart,h.nm,e0,ne_eq,not_true_eq_false,if_false,e1,e2,e3]
  rw[hch]at hput
  have s3:S3.seen=nR (cZ sF) (nS cf (recs++[(2,i)])) (nR (aZ sF) P' S.seen):=by rw[hS3,s2]
  have hset:∀j,(s.hv.set i true).getD j false=if j=i then true else s.hv.getD j false:=λj=>by
   rw[aJL,aLN]
   by_cases hj:i=j
   .rw [if_pos hj,if_pos hj.symm,if_pos (by have:=h.hvl;omega)]<;>rfl
   .rw [if_neg hj,if_neg (λe=>hj e.symm),<-aJL]
  refine⟨_,_,hput,⟨⟨c3.up,c3.left⟩,h.nm,h.man,rfl,h.fin, ?_, ?_, ?_, ?_, ?_,hP'l, ?_, ?_, ?_, ?_, ?_, ?_, ?_,rfl, ?_⟩, ?_,rfl,rfl⟩
  .show (s.hv.set i true).length=_
   rw[aKr];exact h.hvl
  .show s.log+13=_
   rw[h.log,aJF];simp;omega
  .show bF sF S3.seen=F0
   rw[s3,mJ aGV,mJ aFx];exact h.gF
  .show bF (aZ sF) S3.seen=_
   rw[s3,mJ aDE,FL]
  .show bF (cZ sF) S3.seen=_
   rw[s3,FL]
  .intro r hr
   rcases aKg.1 hr with hr|hr
   .exact h.ok r hr
   .rw [aKm]at hr
    subst hr
    have:=apP (L:=f.length) hk
    exact⟨.inr rfl,by show i<_;omega⟩
  .intro j hj hjv
   have hjv:(s.hv.set i true).getD j false=true:=hjv
   rw[hset]at hjv
   by_cases hji:j=i
   .rw [hji,hP']
    exact alZ h.Pl rfl hki
   .rw [if_neg hji]at hjv
    rw[hP',aiE h.Pl rfl hki hji]
    exact h.part j hj hjv
  .intro j hj
   show(s.hv.set i true).getD j false=true↔_
   rw[hset,aKg,aKm]
   by_cases hji:j=i
   .rw [if_pos hji,hji];exact⟨λ_=> .inr rfl,λ_=>rfl⟩
   .rw [if_neg hji,h.told j hj]
    exact⟨.inl,λhh=>hh.elim id λe=>absurd (congrArg Prod.snd e) hji⟩
  .show _=1+(s.hv.set i true).count true
   have hlt:i<s.hv.length:=by rw[h.hvl];exact hi
   have hvi:s.hv[i]=false:=by
    rw[aJL,aJE hlt]at hv;exact hv
   rw[List.count_set hlt,hvi,aJF,h.cnt]
   simp;omega
  .have h1:=sT (cZ sF) (nS cf (recs++[(2,i)])) S2.seen
   rw[g2L,aKF,lX,lX,z2,h.sz,aJF]at h1
   show bN S3.seen=_
   rw[s3,<-s2,aJF]
   simp only[aKV]at h1⊢
   omega
  .have h1:=sT (cZ sF) (nS cf (recs++[(2,i)])) S2.seen
   rw[g2L,aKF,lX,lX,z2,aJF]at h1
   show(bN S3.seen:Int)<=S3.room
   have r3:S3.room=S.room:=by rw[hS3];exact r2
   rw[s3,<-s2,r3]
   simp only[aKV]at h1
   omega
  .show (S3.seen.map (·.1)).Nodup
   rw[s3];exact uO (uO h.nd)
  .show 0<=S3.room/\S3.room<=16777216
   rw[hS3]
   show 0<=S2.room/\S2.room<=16777216
   rw[r2];exact h.rb
  .show S3.room=S.room
   rw[hS3];exact r2
 .rw [if_pos (by rw[z2,r2];exact hr)]at e2
  have hch:fD cf S s i (CB f.length k i f)=(S2,s,22):=by
   unfold fD
   simp only[hpart,h.nm,e0,ne_eq,not_true_eq_false,if_false,e1,e2]
   rfl
  rw[hch]at hput
  refine⟨_,_,hput,rfl,c2, ?_⟩
  show bF sF S2.seen=F0
  rw[s2,mJ aFx];exact h.gF
theorem axQ{f:List UInt8}{k:Nat}{F0:Option (List UInt8)}{recs:List (Nat×Nat)}{P:List UInt8}{S:cG}{s:eT}(h:Got lf cf f k F0 recs P S s)(hk:0<k)(ha:∀i,i<lD f.length k->s.hv.getD i false=true):
 ∃S' s',dV lf S s=(S',s',0)/\s'.fin=true/\s'.err=0/\s'.epoch=s.epoch/\s'.nm=sF/\s'.man=s.man/\Calm S'/\S'.room=S.room/\bF sF S'.seen=some f/\bF (cZ sF) S'.seen=some (nS cf recs)/\bF (aZ sF) S'.seen=none/\bN S'.seen<=bN S.seen/\S'.under=[]/\s'.hv.length=lD f.length k/\s'.log=s.log:=by
 have hPf:P=f:=aBB hk h.Pl rfl λi hi=>h.part i hi (ha i hi)
 subst hPf
 have hall:Ae s.hv=true:=QC.2 λi hi=>ha i (by rw[<-h.hvl];exact hi)
 have hw:=arN lf (f:=P) hk
 have e1:JX S (aZ sF) sF=({S with under:=S.under++[⟨1,aZ sF,sF,0,[]⟩],seen:=nR sF P (yM (aZ sF) S.seen)},0):=by
  have e0:JX S (aZ sF) sF=yL S ⟨1,aZ sF,sF,0,[]⟩:=by
   unfold JX
   rw[if_neg (by rw[h.calm.up];decide),if_neg (by rw[aDB,aH1];decide),if_neg (by rw[h.gP];simp)]
  have e1:TS ⟨1,aZ sF,sF,0,[]⟩ S.seen=nR sF P (yM (aZ sF) S.seen):=by
   unfold TS
   rw[if_neg (show¬(1:Nat)=0 by decide),if_pos (show(1:Nat)=1 from rfl)]
   simp only[h.gP]
  rw[e0,anG h.calm,e1]
 obtain⟨S1,hS1⟩:∃S1:cG,S1={S with under:=S.under++[⟨1,aZ sF,sF,0,[]⟩],seen:=nR sF P (yM (aZ sF) S.seen)}:=⟨_,rfl⟩
 rw[<-hS1]at e1
 have c1:Calm S1:=by rw[hS1];exact⟨h.calm.up,h.calm.left⟩
 have hc:dV lf S s=({S1 with sure:=S1.seen,under:=[]},{s with hv:=bQ lf s.man P,err:=0,fin:=(0:Int)==0},0):=by
  unfold dV
  rw[h.err,if_neg (by decide),h.fin,if_neg (by decide),hall,if_neg (by decide),h.calm.up,if_neg (by decide),h.nm,h.gP]
  simp only[h.man,hw,if_neg (show¬true=false by decide),e1,ne_eq,not_true_eq_false,if_false,YG c1]
 have hd:∀j,bF j (yM (aZ sF) S.seen)=if j=aZ sF then none else bF j S.seen:=λj=>Rc h.nd
 have s1:S1.seen=nR sF P (yM (aZ sF) S.seen):=by rw[hS1]
 have hz1:=sT sF P (yM (aZ sF) S.seen)
 have hz2:=HO (aZ sF) S.seen
 rw[h.gP,aKF]at hz2
 refine⟨_,_,hc,rfl,rfl,rfl,h.nm,rfl,⟨c1.up,c1.left⟩, ?_, ?_, ?_, ?_, ?_,rfl, ?_,rfl⟩
 .show S1.room=S.room
  rw[hS1]
 .show bF sF S1.seen=_
  rw[s1,FL]
 .show bF (cZ sF) S1.seen=_
  rw[s1,mJ (Ne.symm aGV),hd,if_neg (Ne.symm aDE),h.gL]
 .show bF (aZ sF) S1.seen=_
  rw[s1,mJ (Ne.symm aFx),hd,if_pos rfl]
 .show bN S1.seen<=_
  rw[s1];omega
 .show (bQ lf s.man P).length=_
  rw[alC,h.man,Tm]
end
section
variable(lf:List UInt8->List UInt8)(cf:List UInt8->Nat)
theorem ZE{S:cG}(h:Calm S)(n:ByteArray):bS S n=((bF n S.seen).getD [],(bF n S.seen).isSome,0):=by
 unfold bS
 rw[h.up,if_neg (by decide)]
 cases bF n S.seen<;>rfl
def apZ(f:List UInt8)(k:Nat)(S:cG):Bool:=(bF sF S.seen).isSome&&((bF sF S.seen).getD []).length==f.length&&Ae (bQ lf (kC lf f k) ((bF sF S.seen).getD []))
def opD(recs:List (Nat×Nat))(S:cG):cG:={S with under:=S.under++[⟨0,cZ sF,⟨#[]⟩,13*recs.length,pA cf 1 (dU 1 recs+1)⟩],seen:=nR (cZ sF) (nS cf (recs++[(1,dU 1 recs+1)])) S.seen}
def opT(f:List UInt8)(k:Nat)(recs:List (Nat×Nat))(S:cG):eT:=⟨sF,kC lf f k,dU 1 recs+1,bQ lf (kC lf f k) ((bF sF S.seen).getD []),13*recs.length+13,apZ lf f k S,0⟩
variable{lf cf}
theorem aDM{f:List UInt8}{k:Nat}{S:cG}{recs:List (Nat×Nat)}(h:Calm S)(hL:(bF (cZ sF) S.seen).getD []=nS cf recs)(ok:∀r∈recs,okR r)(hlast:dU 1 recs<18446744073709551615):
 (S.room<((bN S.seen+13:Nat):Int)->sY lf cf S sF (kC lf f k)=(S,none,22))/\
 (¬S.room<((bN S.seen+13:Nat):Int)->sY lf cf S sF (kC lf f k)=
   if apZ lf f k S then({opD cf recs S with sure:=(opD cf recs S).seen,under:=[]},some (opT lf f k recs S),0)
   else
    let q:=cC (opD cf recs S) (opT lf f k recs S)
    if q.2.2≠0 then(q.1,none,q.2.2)else
    let y:=AP q.1
    if y.2≠0 then(y.1,none,y.2)else(y.1,some {opT lf f k recs S with hv:=nH recs (bQ lf (kC lf f k) q.2.1) (kC lf f k).leaves.length},0)):=by
 have e2:=abF cf (s:=⟨sF,kC lf f k,dU 1 recs+1,bQ lf (kC lf f k) ((bF sF S.seen).getD []),13*recs.length,apZ lf f k S,0⟩) (k:=1) (v:=dU 1 recs+1) h rfl hL rfl
 have hled:gB cf (nS cf recs)=recs:=aBF cf ok
 have hfin:((bF sF S.seen).isSome&&((bF sF S.seen).getD []).length==(kC lf f k).size&&Ae (bQ lf (kC lf f k) ((bF sF S.seen).getD [])))=apZ lf f k S:=rfl
 refine⟨λhr=> ?_,λhr=> ?_⟩
 .rw [if_pos hr]at e2
  unfold sY
  simp only[ZE h,hL,hled,hfin,ne_eq,not_true_eq_false,if_false,if_neg (aLy hlast),e2]
  rfl
 .rw [if_neg hr]at e2
  have c1:Calm (opD cf recs S):=⟨h.up,h.left⟩
  have e3:=YG c1
  unfold sY
  simp only[ZE h,hL,hled,hfin,ne_eq,not_true_eq_false,if_false,if_neg (aLy hlast),e2]
  have:({room:=S.room,sure:=S.sure,seen:=nR (cZ sF) (nS cf (recs++[(1,dU 1 recs+1)])) S.seen,under:=S.under++[⟨0,cZ sF,⟨#[]⟩,13*recs.length,pA cf 1 (dU 1 recs+1)⟩],left:=S.left,down:=S.down}:cG)=opD cf recs S:=rfl
  rw[this]
  cases hf:apZ lf f k S with
  |true=>
   simp only[if_true,e3,not_true_eq_false,if_false]
   unfold opT
   rw[hf]
  |false=>
   simp only[aJM,if_false]
   unfold opT
   rw[hf]
theorem aiB{recs:List (Nat×Nat)}{S:cG}:bF (aZ sF) (opD cf recs S).seen=bF (aZ sF) S.seen:=mJ aDE
theorem auH{recs:List (Nat×Nat)}{S:cG}(hL:(bF (cZ sF) S.seen).getD []=nS cf recs):bN (opD cf recs S).seen=bN S.seen+13:=by
 have h1:=sT (cZ sF) (nS cf (recs++[(1,dU 1 recs+1)])) S.seen
 rw[hL,lX,lX,aJF]at h1
 show bN (nR _ _ _)=_
 simp only[aKV]at h1
 omega
theorem aBP{f:List UInt8}{k:Nat}{S:cG}{recs:List (Nat×Nat)}(h:Calm S)(hL:(bF (cZ sF) S.seen).getD []=nS cf recs)(ok:∀r∈recs,okR r)(hlast:dU 1 recs<18446744073709551615)
 (hr:¬S.room<((bN S.seen+13:Nat):Int)) (hf:apZ lf f k S=false) (hP:bF (aZ sF) S.seen=none):
 (S.room<((bN S.seen+13+f.length:Nat):Int)->sY lf cf S sF (kC lf f k)=(opD cf recs S,none,22))/\
 (¬S.room<((bN S.seen+13+f.length:Nat):Int)->∃S',sY lf cf S sF (kC lf f k)=({S' with sure:=S'.seen,under:=[]},some {opT lf f k recs S with hv:=nH recs (bQ lf (kC lf f k) []) (lD f.length k)},0)/\
   S'=({opD cf recs S with under:=(opD cf recs S).under++[⟨0,aZ sF,⟨#[]⟩,0,List.replicate f.length 0⟩],seen:=nR (aZ sF) (List.replicate f.length 0) (opD cf recs S).seen}:cG)):=by
 have c1:Calm (opD cf recs S):=⟨h.up,h.left⟩
 have e:aZ (opT lf f k recs S).nm=aZ sF:=rfl
 have e2:(opT lf f k recs S).man.size=f.length:=rfl
 have hsb:nT (opD cf recs S) (aZ sF)=[]:=by unfold nT;rw[aiB,hP]<;>rfl
 have hw:=arO (k:=aZ sF) (a:=0) (l:=List.replicate f.length 0) c1 aDB (by omega)
 rw[hsb,auH hL,aJ9,aDP]at hw
 have hrm:(opD cf recs S).room=S.room:=rfl
 have hz:bN S.seen+13+(0+f.length-([]:List UInt8).length)=bN S.seen+13+f.length:=by simp
 rw[hrm,hz]at hw
 have hw0:zU (opD cf recs S) (aZ sF) ((([]:List UInt8).length:Nat):Int) (List.replicate (f.length-([]:List UInt8).length) 0)=zU (opD cf recs S) (aZ sF) ((0:Nat):Int) (List.replicate f.length 0):=rfl
 have hq:cC (opD cf recs S) (opT lf f k recs S)=((zU (opD cf recs S) (aZ sF) ((0:Nat):Int) (List.replicate f.length 0)).1,[],(zU (opD cf recs S) (aZ sF) ((0:Nat):Int) (List.replicate f.length 0)).2):=by
  unfold cC
  simp only[e,e2,ZE c1,aiB,hP,Option.getD_none,aLM,ne_eq,not_true_eq_false,if_false,hw0,if_neg (show¬f.length<([]:List UInt8).length by simp),or_true,if_true]
 rw[(aDM h hL ok hlast).2 hr,hf]
 refine⟨λhr2=> ?_,λhr2=> ?_⟩
 .rw [if_pos hr2]at hw
  rw[hw]at hq
  simp only[aJM,if_false,hq]
  rfl
 .rw [if_neg hr2]at hw
  rw[hw]at hq
  refine⟨_, ?_,rfl⟩
  have c2:Calm ({opD cf recs S with room:=S.room,under:=(opD cf recs S).under++[⟨0,aZ sF,⟨#[]⟩,0,List.replicate f.length 0⟩],seen:=nR (aZ sF) (List.replicate f.length 0) (opD cf recs S).seen}:cG):=⟨h.up,h.left⟩
  simp only[aJM,if_false,hq,ne_eq,not_true_eq_false,YG c2,Tm]
  rfl
end
section
variable{lf:List UInt8->List UInt8}{cf:List UInt8->Nat}
theorem Got.bk {f:List UInt8}{k:Nat}{F0:Option (List UInt8)}{recs:List (Nat×Nat)}{P:List UInt8}{S:cG}{s:eT}(h:Got lf cf f k F0 recs P S s){n:Nat}(hn:n<=100):GN n S:=by
 have h1:=h.rm
 have h2:=h.rb
 refine⟨⟨by rw[h.calm.left];omega,by omega,by rw[h.un];simp,h2⟩,by omega,by rw[h.un];simp;omega⟩
theorem Got.file {f:List UInt8}{k:Nat}{F0:Option (List UInt8)}{recs:List (Nat×Nat)}{P:List UInt8}{S:cG}{s:eT}(h:Got lf cf f k F0 recs P S s){n:ByteArray}{b:List UInt8}(hb:bF n S.seen=some b)(hs:bN S.seen<=1000000):b.length<=1000000:=by
 have h1:=sS (k:=n) (c:=S.seen)
 rw[hb]at h1
 have h1:b.length<=bN S.seen:=h1
 omega
theorem YH(W:List Bool)(n i:Nat):(nH [] W n).getD i false=false:=by
 unfold nH
 rw[aJL,aJ4]
 by_cases h:i<n
 .rw [List.getElem?_range h]<;>rfl
 .rw [aKt (by simp;omega)]<;>rfl
theorem aDd{f:List UInt8}{k:Nat}{F0:Option (List UInt8)}{S:cG}(h:Calm S)(hk:0<k)(gL:bF (cZ sF) S.seen=none)(gP:bF (aZ sF) S.seen=none)(gF:bF sF S.seen=F0)(nd:(S.seen.map (·.1)).Nodup)(sz:bN S.seen=(F0.getD []).length)
 (rb:0<=S.room/\S.room<=16777216) (hf:apZ lf f k S=false) (hr:¬S.room<((bN S.seen+13+f.length:Nat):Int)):
 ∃S' s',sY lf cf S sF (kC lf f k)=(S',some s',0)/\Got lf cf f k F0 [(1,1)] (List.replicate f.length 0) S' s'/\S'.room=S.room/\s'.epoch=1/\∀i,s'.hv.getD i false=false:=by
 have hL:(bF (cZ sF) S.seen).getD []=nS cf []:=by rw[gL]<;>rfl
 obtain⟨S1,he,hS1⟩:=(aBP (f:=f) (k:=k) h hL (by simp) (by show(0:Nat)<_;omega) (by omega) hf gP).2 hr
 have hsd:=auH (S:=S) hL
 have s1:S1.seen=nR (aZ sF) (List.replicate f.length 0) (opD cf [] S).seen:=by rw[hS1]
 have sD:(opD cf [] S).seen=nR (cZ sF) (nS cf [(1,1)]) S.seen:=rfl
 have r1:S1.room=S.room:=by rw[hS1]<;>rfl
 have hz:=sT (aZ sF) (List.replicate f.length (0:UInt8)) (opD cf [] S).seen
 rw[aiB,gP,Option.getD_none,aKD,aJ9,hsd]at hz
 refine⟨_,_,he,⟨⟨?_, ?_⟩,rfl,rfl,rfl,hf, ?_,rfl, ?_, ?_, ?_, ?_, ?_, ?_, ?_, ?_, ?_, ?_, ?_,rfl, ?_⟩,r1,rfl,λi=> ?_⟩
 .show S1.down=false
  rw[hS1];exact h.up
 .show S1.left= -1
  rw[hS1];exact h.left
 .show (nH [] _ _).length=_
  unfold nH;simp
 .show bF sF S1.seen=F0
  rw[s1,mJ aFx,sD,mJ aGV,gF]
 .show bF (aZ sF) S1.seen=_
  rw[s1,FL]
 .show bF (cZ sF) S1.seen=_
  rw[s1,mJ (Ne.symm aDE),sD,FL]
 .simp
 .intro r hr
  rw[aKm]at hr
  subst hr
  exact⟨.inl rfl,by show 1<_;omega⟩
 .intro i hi hv
  have hv:(nH [] _ _).getD i false=true:=hv
  rw[YH]at hv
  cases hv
 .intro i hi
  show(nH [] _ _).getD i false=true↔_
  rw[YH]
  constructor
  .intro h;cases h
  .intro h
   rw[aKm]at h
   exact absurd (congrArg Prod.fst h) (show¬(2:Nat)=1 by decide)
 .show [((1:Nat),(1:Nat))].length=1+(nH [] _ _).count true
  have:(nH [] (bQ lf (kC lf f k) []) (lD f.length k)).count true=0:=by
   rw[List.count_eq_zero]
   intro hm
   obtain⟨i,hi,e⟩:=aLs hm
   have:=YH (bQ lf (kC lf f k) []) (lD f.length k) i
   rw[aJL,aJE hi,e]at this
   cases this
  rw[this]<;>rfl
 .show bN S1.seen=_
  rw[s1]
  simp only[aKV]
  omega
 .show (bN S1.seen:Int)<=S1.room
  rw[s1,r1]
  omega
 .show (S1.seen.map (·.1)).Nodup
  rw[s1,sD];exact uO (uO nd)
 .show 0<=S1.room/\_
  rw[r1];exact rb
 .exact YH _ _ i
end
end Go.Proofs.YteelnmpbnaohpaaGreatDoor
namespace Go.Proofs.YteelnmpbnaohpaaGreatDoor
open Go Go.En Go.Pu
set_option maxRecDepth 4000
theorem ajH{L k:Nat}{w:aL0}(hL:L<=1000000000000)(h1:1<=k)(h2:k<=65536)(hn:lD L k<=1024):
 aG pg AT #[.int .u64 (L:Nat),.int .i64 (k:Nat)] w (λr w'=>r= .tuple #[.int .i64 (lD L k:Nat),.int .i64 0]/\w'=w):=by
 refine ZJ ?_
 obtain⟨RR,hRR⟩:∃RR:aL1->aL0->Prop,RR=λr w'=>r= .tuple #[.int .i64 (lD L k:Nat),.int .i64 0]/\w'=w:=⟨_,rfl⟩
 rw[<-hRR]
 unfold abN Se Sd
 have d1:decide ((k:Int)<1)=false:=by simp;omega
 have d2:decide ((65536:Int)<(k:Int))=false:=by simp;omega
 simp(disch:=omega)only[SV,d1,d2]
 unfold I1 I0 Sc Dj
 refine bM.rule (λm (t:aL1) w'=>∃i:Nat,m=1024-i/\i<=lD L k/\t= .int .u64 (i:Nat)/\w'=w) 1024 ⟨0,rfl,by omega,rfl,rfl⟩ ?_
 rintro m t w' ⟨i,rfl,hi,rfl,rfl⟩
 have d3:decide (((i:Nat):Int)<=1024)=true:=by simp only[decide_eq_true_eq];omega
 have e1:IntKind.u64.wrap ((k:Nat):Int)=((k:Nat):Int):=gX (by omega) (by omega)
 have hik:i*k<=1024*65536:=Nat.mul_le_mul (by omega) h2
 have e2:((i:Nat):Int)*((k:Nat):Int)=((i*k:Nat):Int):=by rw[Int.natCast_mul]
 have e4:IntKind.i64.wrap ((i:Nat):Int)=((i:Nat):Int):=dG (by omega) (by omega)
 have e5:((i:Nat):Int)+1=((i+1:Nat):Int):=by omega
 obtain⟨T,hT⟩:∃T,T=i*k:=⟨_,rfl⟩
 rw[<-hT]at e2 hik
 have hlt:=Bn (L:=L) (k:=k) (i:=i) (by omega)
 rw[aLL k i,<-hT]at hlt
 unfold IZ
 by_cases hge:L<=T
 .have d4:decide (((L:Nat):Int)<=((T:Nat):Int))=true:=by simp only[decide_eq_true_eq];omega
  have hic:i=lD L k:=by
   by_cases h:i<lD L k
   .have:=hlt.1 h;omega
   .omega
  simp(disch:=omega)only[SV,d3,e1,e2,d4,e4]
  rw[hRR,<-hic]
  exact⟨rfl,rfl⟩
 .have d4:decide (((L:Nat):Int)<=((T:Nat):Int))=false:=by simp only[decide_eq_false_iff_not];omega
  have h3:=hlt.2 (by omega)
  simp(disch:=omega)only[SV,d3,e1,e2,d4,e5]
  first
   |exact⟨1024-(i+1),by omega,i+1,rfl,by omega,rfl,rfl⟩
   |exact⟨1024-(i+1),by omega,i+1,rfl,by omega,rfl⟩
theorem ZZ{L k i:Nat}{w:aL0}(hL:L<=1000000000000)(h1:1<=k)(h2:k<=65536)(hn:lD L k<=1024)(hi:i<lD L k):
 aG pg Aa #[.int .u64 (L:Nat),.int .i64 (k:Nat),.int .i64 (i:Nat)] w (λr w'=>r= .tuple #[.int .u64 ((k*i:Nat):Int),.int .i64 (U7 L k i:Nat),.int .i64 0]/\w'=w):=by
 refine adZ ?_
 unfold aiO UG
 refine(ajH hL h1 h2 hn).mono ?_
 rintro r w1 ⟨rfl,hw⟩
 rw[hw];clear hw w1
 have hki:=(Bn (L:=L) (k:=k) (i:=i) (by omega)).1 hi
 have n1:((0:Int) !=0)=false:=rfl
 have d1:decide (((i:Nat):Int)<0)=false:=by simp
 have d2:decide (((lD L k:Nat):Int)<=((i:Nat):Int))=false:=by simp only[decide_eq_false_iff_not];omega
 have e1:IntKind.u64.wrap ((k:Nat):Int)=((k:Nat):Int):=gX (by omega) (by omega)
 have e2:IntKind.u64.wrap ((i:Nat):Int)=((i:Nat):Int):=gX (by omega) (by omega)
 have e3:((k:Nat):Int)*((i:Nat):Int)=((k*i:Nat):Int):=by rw[Int.natCast_mul]
 obtain⟨T,hT⟩:∃T,T=k*i:=⟨_,rfl⟩
 have hsp:U7 L k i=min (L-T) k:=by unfold U7;rw[hT]
 rw[hsp]
 rw[<-hT]at e3 hki⊢
 have e4:((L:Nat):Int)-((T:Nat):Int)=((L-T:Nat):Int):=by omega
 by_cases hs:L-T<k
 .have d3:decide (((L-T:Nat):Int)<((k:Nat):Int))=true:=by simp only[decide_eq_true_eq];omega
  have e5:IntKind.i64.wrap ((L-T:Nat):Int)=((L-T:Nat):Int):=dG (by omega) (by omega)
  rw[aJ5 (by omega)]
  simp(disch:=omega)only[SV,n1,d1,d2,e1,e2,e3,e4,d3,e5]
 .have d3:decide (((L-T:Nat):Int)<((k:Nat):Int))=false:=by simp only[decide_eq_false_iff_not];omega
  rw[Nat.min_eq_right (by omega)]
  simp(disch:=omega)only[SV,n1,d1,d2,e1,e2,e3,e4,d3]
theorem ajG{v:aL1}{l:List Bool}{w:aL0}(h:Sl w v (l.map Value.bool))(hl:l.length<=1000000):
 aG pg Cd #[v] w (λr w'=>r= .bool (Ae l)/\w'=w):=by
 refine ajC ?_
 obtain⟨RR,hRR⟩:∃RR:aL1->aL0->Prop,RR=λr w'=>r= .bool (Ae l)/\w'=w:=⟨_,rfl⟩
 rw[<-hRR]
 obtain⟨a,c,rfl,hc⟩:=h.len
 rw[aJC]at h hc⊢
 unfold aoI XW XV OA Oz XU Hz
 refine bM.rule (λm (t:aL1) w'=>∃i:Nat,m=l.length-i/\i<=l.length/\t= .int .i64 (i:Nat)/\w'=w/\(∀j,j<i->l.getD j false=true)) l.length ⟨0,rfl,by omega,rfl,rfl,λj hj=>by omega⟩ ?_
 rintro m t w' ⟨i,rfl,hi,rfl,rfl,hall⟩
 unfold Oy
 by_cases hlt:i<l.length
 .have d1:decide ((i:Int)<(l.length:Int))=true:=by simp;omega
  have hin:(i:Int).toNat=i:=aJI _
  have q1:(i:Int)+1=((i+1:Nat):Int):=by omega
  obtain⟨kb,koff,hka,hcell⟩:∃kb koff,a=some ⟨kb,koff,none⟩/\w'.cell? ⟨kb,koff+i,none⟩=some (.bool (l.getD i false)):=by
   obtain⟨a',n',c',he',hn',hc',hh⟩:=h
   simp only[Value.slice.injEq]at he'
   obtain⟨rfl,rfl,rfl⟩:=he'
   obtain⟨kb,koff,rfl,h2⟩:=hh (by omega)
   refine⟨kb,koff,rfl, ?_⟩
   rw[h2 i (by omega),aJ4,aJE hlt,aJL,aJE hlt]
   rfl
  subst hka
  cases hz:l.getD i false with
  |true=>
   rw[hz]at hcell
   have hq:∀j,j<i+1->l.getD j false=true:=λj hj=>by
    by_cases hj2:j=i
    .rw [hj2];exact hz
    .exact hall j (by omega)
   simp(disch:=omega)only[SV,d1,hin,hcell,q1]
   first
    |exact⟨l.length-(i+1),by omega,i+1,rfl,by omega,rfl,rfl,hq⟩
    |exact⟨l.length-(i+1),by omega,i+1,rfl,by omega,rfl,hq⟩
  |false=>
   rw[hz]at hcell
   have hb:Ae l=false:=by
    cases hb:Ae l with
    |false=>rfl
    |true=>
     have:=QC.1 hb i hlt
     rw[hz]at this
     cases this
   simp(disch:=omega)only[SV,d1,hin,hcell]
   rw[hRR,hb]
   exact⟨rfl,rfl⟩
 .have d1:decide ((i:Int)<(l.length:Int))=false:=by simp;omega
  have hb:Ae l=true:=QC.2 λj hj=>hall j (by omega)
  unfold Ox
  simp(disch:=omega)only[SV,d1]
  rw[hRR,hb]
  exact⟨rfl,rfl⟩
theorem rH{x k:Nat}(hx:x<iW)(h1:1<=k)(h2:k<=31)(w:aL0):
 aG pg fZ #[.int .u32 (x:Nat),.int .u64 (k:Int)] w (λr w'=>r= .int .u32 (Z0 x k:Nat)/\w'=w):=by
 refine ZG ?_
 have m1:min (32-k) IntKind.u32.bits=32-k:=aJ5 (by have:IntKind.u32.bits=32:=rfl
                                                   omega)
 have m2:min k IntKind.u32.bits=k:=aJ5 (by have:IntKind.u32.bits=32:=rfl
                                           omega)
 have e0:(32:Int)-(k:Int)=((32-k:Nat):Int):=by omega
 have e1:IntKind.u64.wrap ((32-k:Nat):Int)=((32-k:Nat):Int):=gX (by omega) (by omega)
 have e3:=MN x (32-k)
 have e4:=LG x k
 have e5:=Tn (a:=x/2^k) (b:=x*2^(32-k)%iW) (Ra hx k) (pP _)
 have e6:x/2^k|||x*2^(32-k)%iW=Z0 x k:=by unfold Z0;exact Nat.or_comm _ _
 rw[e6]at e5
 unfold abI R3
 simp(disch:=omega)only[SV,e0,e1,m1,m2,e3,e4,e5]
theorem ayW{v:List Nat}{k x:Nat}{w:aL0}(hv:v.length=8)(h32:CL v):
 aG pg ET #[.agg (v.map u32).toArray,.int .u32 (k:Nat),.int .u32 (x:Nat)] w (λr w'=>r= .agg ((MV v k x).map u32).toArray/\aL w w' aT):=by
 refine ZH ?_
 obtain⟨RR,hRR⟩:∃RR:aL1->aL0->Prop,RR=λr w'=>r= .agg ((MV v k x).map u32).toArray/\aL w w' aT:=⟨_,rfl⟩
 rw[<-hRR]
 obtain⟨v0,v1,v2,v3,v4,v5,v6,v7,rfl⟩:∃v0 v1 v2 v3 v4 v5 v6 v7,v=[v0,v1,v2,v3,v4,v5,v6,v7]:=by
  match v,hv with
  |[a,b,c,d,e,f,g,h],_=>exact⟨a,b,c,d,e,f,g,h,rfl⟩
 have b0:v0<iW:=h32 _ (by simp)
 have b1:v1<iW:=h32 _ (by simp)
 have b2:v2<iW:=h32 _ (by simp)
 have b4:v4<iW:=h32 _ (by simp)
 have b5:v5<iW:=h32 _ (by simp)
 have b6:v6<iW:=h32 _ (by simp)
 have hst:MV [v0,v1,v2,v3,v4,v5,v6,v7] k x=[(aBL [v0,v1,v2,v3,v4,v5,v6,v7] k x+aF1 [v0,v1,v2,v3,v4,v5,v6,v7])%iW,v0,v1,v2,(v3+aBL [v0,v1,v2,v3,v4,v5,v6,v7] k x)%iW,v4,v5,v6]:=rfl
 obtain⟨one,hone⟩:∃one,one=aBL [v0,v1,v2,v3,v4,v5,v6,v7] k x:=⟨_,rfl⟩
 obtain⟨two,htwo⟩:∃two,two=aF1 [v0,v1,v2,v3,v4,v5,v6,v7]:=⟨_,rfl⟩
 rw[<-hone,<-htwo]at hst
 have hone:one=((((v7+YI v4 6 11 25)%iW+((v4&&&v5)^^^((4294967295^^^v4)&&&v6)))%iW+k)%iW+x)%iW:=hone
 have htwo:two=(YI v0 2 13 22+((v0&&&v1)^^^(v0&&&v2)^^^(v1&&&v2)))%iW:=htwo
 unfold YI at hone htwo
 rw[hst]at hRR
 unfold abJ R4
 refine cA λw1 o1 x1 s1=> ?_
 have o1:bD w1 w.heap.size ([v0,v1,v2,v3,v4,v5,v6,v7].map u32):=o1
 obtain⟨p,hp⟩:∃p,p=w.heap.size:=⟨_,rfl⟩
 rw[<-hp]at o1⊢
 refine KI λw2 o2 x2 s2=> ?_
 obtain⟨q,hq⟩:∃q,q=w1.heap.size:=⟨_,rfl⟩
 rw[<-hq]at o2⊢
 have oP:∀{W},aL w2 W aT->bD W p ([v0,v1,v2,v3,v4,v5,v6,v7].map u32):=λxx=>(o1.ext x2 (λh=>h)).ext xx (λh=>h)
 have cl:∀{W},aL w2 W aT->W.cell? ⟨p,0,none⟩=some (.int .u32 (v0:Nat))/\W.cell? ⟨p,1,none⟩=some (.int .u32 (v1:Nat))/\W.cell? ⟨p,2,none⟩=some (.int .u32 (v2:Nat))/\W.cell? ⟨p,3,none⟩=some (.int .u32 (v3:Nat))/\
     W.cell? ⟨p,4,none⟩=some (.int .u32 (v4:Nat))/\W.cell? ⟨p,5,none⟩=some (.int .u32 (v5:Nat))/\W.cell? ⟨p,6,none⟩=some (.int .u32 (v6:Nat))/\W.cell? ⟨p,7,none⟩=some (.int .u32 (v7:Nat)):=λ{W} xx=>by
  have o:=oP xx
  exact⟨o.cell (off:=0),o.cell (off:=1),o.cell (off:=2),o.cell (off:=3),o.cell (off:=4),o.cell (off:=5),o.cell (off:=6),o.cell (off:=7)⟩
 obtain⟨c0,c1,c2,c3,c4,c5,c6,c7⟩:=cl (aL.refl w2 aT)
 obtain⟨d0,d1,d2,d3,d4,d5,d6,d7⟩:=cl (aL.dr w2 aT)
 obtain⟨f0,f1,f2,f3,f4,f5,f6,f7⟩:=cl ((aL.dr w2 aT).seq (aL.dr _ aT))
 have t0:(0:Int).toNat=0:=rfl
 have t1:(1:Int).toNat=1:=rfl
 have t2:(2:Int).toNat=2:=rfl
 have t3:(3:Int).toNat=3:=rfl
 have t4:(4:Int).toNat=4:=rfl
 have t5:(5:Int).toNat=5:=rfl
 have t6:(6:Int).toNat=6:=rfl
 have t7:(7:Int).toNat=7:=rfl
 have g1:IntKind.u32.signed=false:=rfl
 have g2:IntKind.u32.max=4294967295:=rfl
 have r4:∀{k:Nat},Z0 v4 k<iW:=oN b4
 have r0:∀{k:Nat},Z0 v0 k<iW:=oN b0
 have n4:4294967295^^^v4<iW:=AR (by decide) b4
 have e1:=yE b4 b5
 have e2:afF .u32 (4294967295:Int) (v4:Int)=((4294967295^^^v4:Nat):Int):=fH (a:=4294967295) (by decide) b4
 have e3:=yE n4 b6
 have e4:=fH (CR v4 b5) (CR (4294967295^^^v4) b6)
 have e5:=yE b0 b1
 have e6:=yE b0 b2
 have e7:=yE b1 b2
 have e8:=fH (CR v0 b1) (CR v0 b2)
 have e9:=fH (AR (CR v0 b1) (CR v0 b2)) (CR v1 b2)
 have k1:=fH (r4 (k:=6)) (r4 (k:=11))
 have k2:=fH (AR (r4 (k:=6)) (r4 (k:=11))) (r4 (k:=25))
 have k3:=fH (r0 (k:=2)) (r0 (k:=13))
 have k4:=fH (AR (r0 (k:=2)) (r0 (k:=13))) (r0 (k:=22))
 have fa:=LS
 simp(disch:=omega)only[SV,c0,c4,c7,d7,d5,d6,t0,t1,t2,t3,t4,t5,t6,t7,aJG]
 refine(rH b4 (by decide) (by decide) _).mono ?_
 rintro r w' ⟨rfl,hw⟩
 rw[hw];clear hw w'
 simp(disch:=omega)only[SV,c7,d7,t0,t1,t2,t3,t4,t5,t6,t7,aJG]
 refine(rH b4 (by decide) (by decide) _).mono ?_
 rintro r w' ⟨rfl,hw⟩
 rw[hw];clear hw w'
 simp(disch:=omega)only[SV,c7,d7,k1,t0,t1,t2,t3,t4,t5,t6,t7,aJG]
 refine(rH b4 (by decide) (by decide) _).mono ?_
 rintro r w' ⟨rfl,hw⟩
 rw[hw];clear hw w'
 simp(disch:=omega)only[SV,c7,d7,c5,d5,c6,d6,k1,k2,e1,e2,e3,e4,fa,g1,g2,t0,t1,t2,t3,t4,t5,t6,t7,aJG]
 rw[<-hone]
 refine(rH b0 (by decide) (by decide) _).mono ?_
 rintro r w' ⟨rfl,hw⟩
 rw[hw];clear hw w'
 simp(disch:=omega)only[SV,t0,t1,t2,t3,t4,t5,t6,t7,aJG]
 refine(rH b0 (by decide) (by decide) _).mono ?_
 rintro r w' ⟨rfl,hw⟩
 rw[hw];clear hw w'
 simp(disch:=omega)only[SV,k3,t0,t1,t2,t3,t4,t5,t6,t7,aJG]
 refine(rH b0 (by decide) (by decide) _).mono ?_
 rintro r w' ⟨rfl,hw⟩
 rw[hw];clear hw w'
 simp(disch:=omega)only[SV,c0,c1,c2,c3,c4,c5,c6,c7,d0,d1,d2,d3,d4,d5,d6,d7,f0,f1,f2,f3,f4,f5,f6,f7,k3,k4,e5,e6,e7,e8,e9,fa,t0,t1,t2,t3,t4,t5,t6,t7,aJG]
 try rw[<-htwo]
 have oQ:bD (dr (dr w2)) q [.int .u32 0,.int .u32 0,.int .u32 0,.int .u32 0,.int .u32 0,.int .u32 0,.int .u32 0,.int .u32 0]:=dB (dB o2)
 refine DE (by first|exact oQ|exact dB o2) rfl (by simp[En.one]) (by simp) λw3 o3 x3 s3=> ?_
 refine ahS o3 (by simp[eI]) ?_
 rw[hRR]
 have x02:aL w w2 aT:=x1.seq x2
 refine⟨rfl, ?_⟩
 first
  |exact((x02.seq (aL.dr _ _)).seq (aL.dr _ _)).trans x3 λy hy h=>by omega
  |exact(x02.seq (aL.dr _ _)).trans x3 λy hy h=>by omega
theorem To{a b:Nat}(k:Nat)(h:b<2^k):a*2^k|||b=a*2^k+b:=by
 rw[<-Nat.shiftLeft_eq,Nat.shiftLeft_add_eq_or_of_lt h]
def be4 (a b c d:Nat):Nat:=a*16777216+b*65536+c*256+d
theorem aGG{a b c d:Nat}(ha:a<256)(hb:b<256)(hc:c<256)(hd:d<256):be4 a b c d<iW:=by
 have:iW=4294967296:=rfl
 unfold be4;omega
theorem aEZ{a b c d:Nat}(ha:a<256)(hb:b<256)(hc:c<256)(hd:d<256):((a*2^24%iW|||b*2^16%iW)|||c*2^8%iW)|||d=be4 a b c d:=by
 have hM:iW=4294967296:=rfl
 have e1:a*2^24%iW=a*2^24:=aKl (by omega)
 have e2:b*2^16%iW=b*2^16:=aKl (by omega)
 have e3:c*2^8%iW=c*2^8:=aKl (by omega)
 rw[e1,e2,e3,To 24 (by omega)]
 rw[show a*2^24+b*2^16=(a*256+b)*2^16 from by omega,To 16 (by omega)]
 rw[show(a*256+b)*2^16+c*2^8=(a*65536+b*256+c)*2^8 from by omega,To 8 (by omega)]
 unfold be4;omega
theorem aCN{a b c d:Nat}(ha:a<256)(hb:b<256)(hc:c<256)(hd:d<256):((((0*2^8%iW|||a)*2^8%iW|||b)*2^8%iW|||c)*2^8%iW)|||d=be4 a b c d:=by
 have hM:iW=4294967296:=rfl
 have e0:(0*2^8%iW|||a)=a:=by simp
 have e1:a*2^8%iW=a*2^8:=aKl (by omega)
 rw[e0,e1,To 8 (by omega)]
 have e2:(a*2^8+b)*2^8%iW=(a*2^8+b)*2^8:=aKl (by omega)
 rw[e2,To 8 (by omega)]
 have e3:((a*2^8+b)*2^8+c)*2^8%iW=((a*2^8+b)*2^8+c)*2^8:=aKl (by omega)
 rw[e3,To 8 (by omega)]
 unfold be4;omega
def byN(b:List UInt8)(i:Nat):Nat:=(b.getD i 0).toNat
theorem Gm(b:List UInt8)(i:Nat):byN b i<256:=UInt8.toNat_lt _
def beW(b:List UInt8)(t:Nat):Nat:=be4 (byN b (4*t)) (byN b (4*t+1)) (byN b (4*t+2)) (byN b (4*t+3))
theorem aGH(b:List UInt8)(t:Nat):beW b t<iW:=aGG (Gm _ _) (Gm _ _) (Gm _ _) (Gm _ _)
def hdW(b:List UInt8)(t:Nat):List Nat:=(List.range t).map (beW b)++List.replicate (64-t) 0
theorem aFh(b:List UInt8){t:Nat}(h:t<=64):(hdW b t).length=64:=by simp[hdW];omega
theorem aFg(b:List UInt8){t:Nat}(h:t<64):(hdW b t).getD t 0=0:=by
 unfold hdW
 rw[aJL,aJ2 (by simp),aJC,aK2,aKT,List.getElem?_replicate]
 split<;>rfl
theorem aAu(b:List UInt8){t:Nat}(h:t<64):(hdW b t).set t (beW b t)=hdW b (t+1):=by
 unfold hdW
 obtain⟨m,hm⟩:∃m,64-t=m+1:=⟨64-t-1,by omega⟩
 rw[hm,show 64-(t+1)=m from by omega,aKj _ _ (by simp),aJC,aK2,aKT,aLH,aJV,aLh,aKb]
 simp
theorem aEf{l:List Nat}{t x:Nat}(h:t<l.length):(l.set t x).getD t 0=x:=by
 rw[aJL,List.getElem?_set_self (by omega)]<;>rfl
theorem aEw(b:List UInt8):∀t,t<=16->w0N b (4*t)=hdW b t
 |0,_=>by simp[w0N,hdW]
 |t+1,h=>by
  have ih:=aEw b t (by omega)
  have hl:=aFh b (t:=t) (by omega)
  have hg:=aFg b (t:=t) (by omega)
  have q0:(4*t)/4=t:=by omega
  have q1:(4*t+1)/4=t:=by omega
  have q2:(4*t+2)/4=t:=by omega
  have q3:(4*t+3)/4=t:=by omega
  rw[show 4*(t+1)=4*t+1+1+1+1 from by omega,w0N,w0N,w0N,w0N,ih]
  have hs:∀x,((hdW b t).set t x).getD t 0=x:=λx=>aEf (by omega)
  simp only[q0,q1,q2,q3,show 4*t+1+1=4*t+2 from rfl,show 4*t+2+1=4*t+3 from rfl,List.set_set,hs,hg]
  have:=aCN (Gm b (4*t)) (Gm b (4*t+1)) (Gm b (4*t+2)) (Gm b (4*t+3))
  rw[<-aAu b (by omega)]
  unfold beW
  rw[<-this]
  rfl
def xY(b:List UInt8):Nat->List Nat
 |0=>List.replicate 64 0
 |t+1=>(xY b t).set t (if t<16 then beW b t else((((xY b t).getD (t-16) 0+Xg ((xY b t).getD (t-15) 0) 7 18 3)%iW+(xY b t).getD (t-7) 0)%iW+Xg ((xY b t).getD (t-2) 0) 17 19 10)%iW)
theorem avU(b:List UInt8):∀t,(xY b t).length=64
 |0=>by simp[xY]
 |t+1=>by rw[xY,aKr,avU b t]
theorem aAY(b:List UInt8):∀t,CL (xY b t)
 |0=>λx hx=>by
  rw[xY]at hx
  rw[(List.mem_replicate.1 hx).2];decide
 |t+1=>by
  rw[xY]
  refine(aAY b t).set ?_
  split
  .exact aGH b t
  .exact pP _
theorem aAX(b:List UInt8):∀t,t<=16->xY b t=hdW b t
 |0,_=>by simp[xY,hdW]
 |t+1,h=>by rw[xY,aAX b t (by omega),if_pos (by omega),aAu b (by omega)]
theorem aAZ(b:List UInt8):∀j,xY b (16+j)=w1N (hdW b 16) j
 |0=>aAX b 16 (aJO _)
 |j+1=>by
  rw[show 16+(j+1)=16+j+1 from rfl,xY,aAZ b j,w1N,if_neg (by omega)]
  rw[show 16+j-16=j from by omega,show 16+j-15=j+1 from by omega,show 16+j-7=j+9 from by omega,show 16+j-2=j+14 from by omega]
theorem aEc(b:List UInt8):xY b 64=w1N (w0N b 64) 48:=by
 rw[show(64:Nat)=16+48 from rfl,aAZ,show w0N b (16+48)=w0N b (4*16)from rfl,aEw b 16 (aJO _)]
theorem azP{v s:List Nat}(hv:v.length=8)(hs:s.length=8):zQ s v 8=zQ v s 8:=by
 apply aLz
 .rw [EM,EM,hv,hs]
 .intro i h1 h2
  rw[EM]at h1 h2
  simp only[zQ,List.getElem_mapIdx]
  rw[if_pos (by omega),if_pos (by omega),aJL,aJL,aJE h1,aJE h2,Nat.add_comm]
  rfl
theorem aCp{s:List Nat}(b:List UInt8)(hs:s.length=8):KG s b=zQ s (nE (xY b 64) s 64) 8:=by
 unfold KG
 rw[aEc,azP (Ks hs _) hs]
end Go.Proofs.YteelnmpbnaohpaaGreatDoor
namespace Go.Proofs.YteelnmpbnaohpaaGreatDoor
open Go Go.En Go.Pu
set_option maxRecDepth 4000
set_option maxHeartbeats 1000000
theorem aD6 {kn:aL1->aL1->aL1->aL1->aL1->aL0->Prop}{t2:aL1}{hb kb at_:Nat}{ba:Option Addr}{bc:Nat}{s:List Nat}{P:List UInt8}{w:aL0}(hP:Bs w (.slice ba P.length bc) P)(hPl:P.length<=1000000)(hat:at_+64<=P.length)
 (oH:bD w hb (s.map u32)) (hs:s.length=8) (h32:CL s) (oK:bD w kb (kN.map u32)) (hne:hb≠kb) (hPh:¬fK (.slice ba P.length bc) (λy=>y=hb))
 (hk:∀W,bD W hb ((KG s ((P.drop at_).take 64)).map u32)->aL w W (λy=>y=hb)->kn t2 (.slice ba P.length bc) (.pointer (some ⟨hb,0,none⟩)) (.pointer (some ⟨kb,0,none⟩)) (.int .i64 (at_:Nat)) W):
 Di kn t2 (.slice ba P.length bc) (.pointer (some ⟨hb,0,none⟩)) (.pointer (some ⟨kb,0,none⟩)) (.int .i64 (at_:Nat)) w:=by
 unfold Di Xu
 obtain⟨KQ,hblk⟩:∃KQ,KQ=(P.drop at_).take 64:=⟨_,rfl⟩
 rw[<-hblk]at hk
 have hby:∀{W:aL0} {M:Nat->Prop},aL w W M->¬fK (.slice ba P.length bc) M->∃kb' off,ba=some ⟨kb',off,none⟩/\∀j,j<64->W.cell? ⟨kb',off+(at_+j),none⟩=some (.int .u8 (byN KQ j:Nat)):=λ{W M} x hM=>by
  obtain⟨a',n',c',he,hn',hc',hh⟩:=hP.ext x hM
  simp only[Value.slice.injEq]at he
  obtain⟨rfl,rfl,rfl⟩:=he
  obtain⟨kb',off,rfl,h2⟩:=hh (by omega)
  refine⟨kb',off,rfl,λj hj=> ?_⟩
  rw[h2 (at_+j) (by omega),aJ4,aJE (by omega)]
  unfold byN
  rw[hblk,aJL,aKE hj,aK7,aJE (by omega)]
  rfl
 refine CQ λw1 o1 x1 s1=> ?_
 obtain⟨wb,hwb⟩:∃wb,wb=w.heap.size:=⟨_,rfl⟩
 rw[<-hwb]at o1⊢
 have hbl:=oH.lt
 have kbl:=oK.lt
 have o1:bD w1 wb ((xY KQ 0).map u32):=by rw[xY,aAM];exact o1
 have hPold:¬fK (.slice ba P.length bc) (λy=>y=wb):=λh=>hP.old (bO h λy hy=>by omega)
 unfold NZ NY Xt Hr
 refine bM.rule (λm (t:aL1) W=>∃i:Nat,m=64-i/\t= .int .i64 (i:Nat)/\i<=64/\bD W wb ((xY KQ i).map u32)/\aL w1 W (λy=>y=wb)) 64 ⟨0,rfl,rfl,by omega,o1,aL.refl _ _⟩ ?_
 clear o1
 rintro m t w2 ⟨i,rfl,rfl,hi,o2,x2⟩
 have x02:aL w w2 (λy=>y=wb):=(x1.mono λ_ _ h=>h.elim).seq x2
 have hl2:=avU KQ i
 have hlt2:=aAY KQ i
 unfold NX Xs NW
 by_cases hlt:i<64
 .have d1:decide ((i:Int)<64)=true:=by simp;omega
  have e9:(i:Int)+1=((i+1:Nat):Int):=by omega
  have hin:(i:Int).toNat=i:=aJI _
  by_cases h16:i<16
  .have d2:decide ((i:Int)<16)=true:=by simp;omega
   obtain⟨kb',off,rfl,hc⟩:=hby x02 hPold
   have n0:=hc (4*i) (by omega)
   have n1:=hc (4*i+1) (by omega)
   have n2:=hc (4*i+2) (by omega)
   have n3:=hc (4*i+3) (by omega)
   have hcd:∀j,(dr w2).cell? j=w2.cell? j:=λj=>rfl
   have q0:(at_:Int)+4*(i:Int)=((at_+4*i:Nat):Int):=by omega
   have q1:((at_+4*i:Nat):Int)+1=((at_+(4*i+1):Nat):Int):=by omega
   have q2:((at_+4*i:Nat):Int)+2=((at_+(4*i+2):Nat):Int):=by omega
   have q3:((at_+4*i:Nat):Int)+3=((at_+(4*i+3):Nat):Int):=by omega
   have u0:=Gm KQ (4*i)
   have u1:=Gm KQ (4*i+1)
   have u2:=Gm KQ (4*i+2)
   have u3:=Gm KQ (4*i+3)
   have hbe:=aEZ u0 u1 u2 u3
   have hsch:xY KQ (i+1)=(xY KQ i).set i (be4 (byN KQ (4*i)) (byN KQ (4*i+1)) (byN KQ (4*i+2)) (byN KQ (4*i+3))):=by
    rw[xY,if_pos h16]<;>rfl
   generalize byN KQ (4*i)=b0 at*
   generalize byN KQ (4*i+1)=b1 at*
   generalize byN KQ (4*i+2)=b2 at*
   generalize byN KQ (4*i+3)=b3 at*
   have f1:=MN b0 24
   have f2:=MN b1 16
   have f3:=MN b2 8
   have m1:min (24:Int).toNat IntKind.u32.bits=24:=rfl
   have m2:min (16:Int).toNat IntKind.u32.bits=16:=rfl
   have m3:min (8:Int).toNat IntKind.u32.bits=8:=rfl
   have f4:=Tn (pP (b0*2^24)) (pP (b1*2^16))
   have f5:=Tn (auM (pP (b0*2^24)) (pP (b1*2^16))) (pP (b2*2^8))
   have hM:iW=4294967296:=rfl
   have f6:=Tn (auM (auM (pP (b0*2^24)) (pP (b1*2^16))) (pP (b2*2^8))) (show b3<iW by omega)
   rw[hbe]at f6
   have tn:∀n:Nat,((n:Nat):Int).toNat=n:=aJI
   simp(disch:=omega)only[aA,eX,d1,d2,UC,dG,fV,tn,aJG,fT,aI,true_and,q0,tM,q1,q2,q3,yN,Mv,aP,Result.ok.injEq,Next.value.injEq,and_true,cN,hcd,n0,bK,n1,n2,n3,nK,JM,aoB,m3,f3,m2,f2,m1,f1,aBZ,f4,f5,f6]
   refine tE (by first|exact o2|exact dB o2) rfl (by rw[aJC];omega) λw3 o3 x3 s3=> ?_
   simp(disch:=omega)only[e9]
   refine⟨64-(i+1),by omega,i+1,rfl,rfl,by omega, ?_,by first|exact(x2.seq (aL.dr _ _)).seq x3|exact x2.seq x3⟩
   rw[hsch,aKW]
   exact o3
  .have d2:decide ((i:Int)<16)=false:=by simp;omega
   have q1:(i:Int)-15=((i-15:Nat):Int):=by omega
   have q2:(i:Int)-2=((i-2:Nat):Int):=by omega
   have q3:(i:Int)-16=((i-16:Nat):Int):=by omega
   have q4:(i:Int)-7=((i-7:Nat):Int):=by omega
   have hcd:∀j,(dr w2).cell? j=w2.cell? j:=λj=>rfl
   have hcd2:∀j,(dr (dr w2)).cell? j=w2.cell? j:=λj=>rfl
   have n1:=o2.cell (off:=i-15)
   have n2:=o2.cell (off:=i-2)
   have n3:=o2.cell (off:=i-16)
   have n4:=o2.cell (off:=i-7)
   rw[xS (by omega)]at n1 n2 n3 n4
   have l1:=hlt2.getD (i-15)
   have l2:=hlt2.getD (i-2)
   have hsch:xY KQ (i+1)=(xY KQ i).set i ((((((xY KQ i).getD (i-16) 0+Xg ((xY KQ i).getD (i-15) 0) 7 18 3)%iW+(xY KQ i).getD (i-7) 0)%iW+Xg ((xY KQ i).getD (i-2) 0) 17 19 10)%iW)):=by
    rw[xY,if_neg h16]
   generalize(xY KQ i).getD (i-15) 0=X at*
   generalize(xY KQ i).getD (i-2) 0=Y at*
   generalize(xY KQ i).getD (i-16) 0=A at*
   generalize(xY KQ i).getD (i-7) 0=B at*
   unfold Xg at hsch
   have tn:∀n:Nat,((n:Nat):Int).toNat=n:=aJI
   have m3:min (3:Int).toNat IntKind.u32.bits=3:=rfl
   have m10:min (10:Int).toNat IntKind.u32.bits=10:=rfl
   have g3:=LG X 3
   have g10:=LG Y 10
   have j1:=fH (oN (k:=7) l1) (oN (k:=18) l1)
   have j2:=fH (AR (oN (k:=7) l1) (oN (k:=18) l1)) (Ra l1 3)
   have j3:=fH (oN (k:=17) l2) (oN (k:=19) l2)
   have j4:=fH (AR (oN (k:=17) l2) (oN (k:=19) l2)) (Ra l2 10)
   have fa:=LS
   simp(disch:=omega)only[aA,eX,d1,d2,UC,dG,fV,tn,aJG,fT,aI,true_and,Mv,q1,q2,q3,aP,Result.ok.injEq,Next.value.injEq,and_true,q4,gW,bH,n1,bK,n2,Mu,hcd,n3,n4,cN]
   refine(rH l1 (by decide) (by decide) _).mono ?_
   rintro r w' ⟨rfl,hw⟩
   rw[hw];clear hw w'
   simp(disch:=omega)only[hcd,n3,bK,true_and]
   refine(rH l1 (by decide) (by decide) _).mono ?_
   rintro r w' ⟨rfl,hw⟩
   rw[hw];clear hw w'
   simp(disch:=omega)only[hcd,n3,bK,RW,j1,m3,g3,n4,Result.ok.injEq,Next.value.injEq,and_true,aI,true_and,j2,fT,fa]
   refine(rH l2 (by decide) (by decide) _).mono ?_
   rintro r w' ⟨rfl,hw⟩
   rw[hw];clear hw w'
   simp(disch:=omega)only[hcd,n4,bK,n3,and_true,true_and]
   refine(rH l2 (by decide) (by decide) _).mono ?_
   rintro r w' ⟨rfl,hw⟩
   rw[hw];clear hw w'
   simp(disch:=omega)only[hcd,n4,bK,n3,and_true,RW,j3,m10,g10,aI,j4,fT,fa,true_and]
   refine tE (by first|exact o2|exact dB o2) rfl (by rw[aJC];omega) λw3 o3 x3 s3=> ?_
   simp(disch:=omega)only[e9]
   refine⟨64-(i+1),by omega,i+1,rfl,rfl,by omega, ?_,by first|exact(x2.seq (aL.dr _ _)).seq x3|exact x2.seq x3⟩
   rw[hsch,aKW]
   exact o3
 have d1:decide ((i:Int)<64)=false:=by simp;omega
 obtain rfl:i=64:=by omega
 simp(disch:=omega)only[aA,eX,d1,UC,dG,fT,aI,true_and,Mv,aP,Result.ok.injEq,Next.value.injEq,and_true,fV,aJG,gW,bH]
 have hwith:=aCp (s:=s) KQ hs
 obtain⟨Wl,hWl⟩:∃Wl,Wl=xY KQ 64:=⟨_,rfl⟩
 rw[<-hWl]at o2 hl2 hwith
 clear hWl hlt2 d1 hlt hi
 have aH:bD w2 hb (s.map u32):=oH.ext x02 (by omega)
 have aK:bD w2 kb (kN.map u32):=oK.ext x02 (by omega)
 unfold NV Xr
 have ls:=IC (off:=0) aH (by rw[aJC];omega)
 rw[aJY,aJH (by rw[aJC];omega)]at ls
 simp(disch:=omega)only[aA,ls,aI]
 refine KI λw3 o3 x3 s3=> ?_
 obtain⟨v,hv⟩:∃v,v=w2.heap.size:=⟨_,rfl⟩
 rw[<-hv]at o3⊢
 refine DE o3 (by simp[hs]) (λy hy=>KF s y (by simpa using hy)) (by simp) λw4 o4 x4 s4=> ?_
 have hset:eI [(.int .u32 0),(.int .u32 0),(.int .u32 0),(.int .u32 0),(.int .u32 0),(.int .u32 0),(.int .u32 0),(.int .u32 0)] 0 (s.map u32).toArray.toList=s.map u32:=by
  rw[aJZ]
  have:=jN (s.map u32) [] [(.int .u32 0),(.int .u32 0),(.int .u32 0),(.int .u32 0),(.int .u32 0),(.int .u32 0),(.int .u32 0),(.int .u32 0)] (by rw[aJC,hs];decide)
  rw[aJ1,aJ1,aKD,aJC,hs]at this
  rw[this];simp
 rw[hset]at o4
 have wbl:=o2.lt
 have x24:aL w2 w4 aT:=x3.trans x4 λy hy h=>by omega
 have x04:aL w w4 aT:=x02.trans x24 (λy hy h=>h.elim)|>.mono (λy hy h=>by omega)
 have aH4:=aH.ext x24 (λh=>h)
 have aK4:=aK.ext x24 (λh=>h)
 have aW4:=o2.ext x24 (λh=>h)
 have z2:=x02.size
 unfold NU NT Xq Hq
 refine bM.rule (λm (t:aL1) W=>∃i:Nat,m=64-i/\t= .int .i64 (i:Nat)/\i<=64/\bD W v ((nE Wl s i).map u32)/\aL w4 W (λy=>y=v)) 64 ⟨0,rfl,rfl,by omega,o4,aL.refl _ _⟩ ?_
 clear o4
 rintro m t w5 ⟨i,rfl,rfl,hi,o5,x5⟩
 have hl5:(nE Wl s i).length=8:=Ks hs i
 have hlt5:CL (nE Wl s i):=OB h32 i
 unfold NS
 by_cases hlt:i<64
 .have d1:decide ((i:Int)<64)=true:=by simp;omega
  have e9:(i:Int)+1=((i+1:Nat):Int):=by omega
  have hin:(i:Int).toNat=i:=aJI _
  have cW:=(aW4.ext x5 (by omega)).cell (off:=i)
  have cK:=(aK4.ext x5 (by omega)).cell (off:=i)
  rw[xS (by omega)]at cW
  rw[xS (by show i<64;omega)]at cK
  have cWd:(dr w5).cell? ⟨wb,i,none⟩=_:=cW
  have cKd:(dr w5).cell? ⟨kb,i,none⟩=_:=cK
  have lv:=IC (off:=0) o5 (by rw[aJC];omega)
  have lvd:=IC (off:=0) (dB o5) (by rw[aJC];omega)
  rw[aJY,aJH (by rw[aJC];omega)]at lv lvd
  have hnext:nE Wl s (i+1)=MV (nE Wl s i) (kN.getD i 0) (Wl.getD i 0):=rfl
  generalize nE Wl s i=V at*
  generalize kN.getD i 0=kk at*
  generalize Wl.getD i 0=ww at*
  simp(disch:=omega)only[aA,eX,d1,fV,hin,aJG,fT,dG,aI,gW,true_and,lvd,cKd,bK,cWd,cN]
  refine(ayW hl5 hlt5).mono ?_
  rintro r w6 ⟨rfl,x6⟩
  have hV8:(MV V kk ww).length=8:=rfl
  have o6:bD w6 v (V.map u32):=by first|exact(dB o5).ext x6 (λh=>h)|exact o5.ext x6 (λh=>h)
  refine DE o6 (by simp[hV8]) (λy hy=>KF _ y (by simpa using hy)) (by rw[aJC];omega) λw7 o7 x7 s7=> ?_
  have hset7:eI (V.map u32) 0 ((MV V kk ww).map u32).toArray.toList=(MV V kk ww).map u32:=by
   rw[aJZ]
   have:=jN ((MV V kk ww).map u32) [] (V.map u32) (by rw[aJC,aJC,hl5];exact aJO _)
   rw[aJ1,aJ1,aKD,aJC]at this
   rw[this,aKw (by rw[aJC,hl5,hV8];exact aJO _),aKf]
  rw[hset7,<-hnext]at o7
  simp(disch:=omega)only[e9]
  refine⟨64-(i+1),by omega,i+1,rfl,rfl,by omega,o7, ?_⟩
  first
   |exact((x5.seq (aL.dr _ _)).seq (x6.mono λ_ _ h=>h.elim)).seq x7
   |exact(x5.seq (x6.mono λ_ _ h=>h.elim)).seq x7
 have d1:decide ((i:Int)<64)=false:=by simp;omega
 obtain rfl:i=64:=by omega
 simp(disch:=omega)only[aA,eX,d1,fT,dG,aI,true_and,bH]
 obtain⟨V,hV⟩:∃V,V=nE Wl s 64:=⟨_,rfl⟩
 rw[<-hV]at o5 hl5 hlt5 hwith
 have x05:aL w w5 aT:=x04.trans x5 λy hy h=>by omega
 have a5:=aH4.ext x5 (by omega)
 unfold NQ Xp Hp
 refine bM.rule (λm (t:aL1) W=>∃i:Nat,m=8-i/\t= .int .i64 (i:Nat)/\i<=8/\bD W hb ((zQ s V i).map u32)/\aL w5 W (λy=>y=hb)) 8 ⟨0,rfl,rfl,by omega,by rw[akV];exact a5,aL.refl _ _⟩ ?_
 rintro m t w6 ⟨i,rfl,rfl,hi,o6,x6⟩
 have hl6:(zQ s V i).length=8:=by rw[EM,hs]
 unfold NP
 by_cases hlt:i<8
 .have d1:decide ((i:Int)<8)=true:=by simp;omega
  have e9:(i:Int)+1=((i+1:Nat):Int):=by omega
  have hin:(i:Int).toNat=i:=aJI _
  have c1:=o6.cell (off:=i)
  have c2:=(o5.ext x6 (by omega)).cell (off:=i)
  rw[xS (by omega),aoW (by omega)]at c1
  rw[xS (by omega)]at c2
  have c1d:(dr w6).cell? ⟨hb,i,none⟩=_:=c1
  have c2d:(dr w6).cell? ⟨v,i,none⟩=_:=c2
  have fa:=LS
  simp(disch:=omega)only[aA,eX,d1,A9,hin,aJG,fT,dG,aI,true_and,gW,c1d,bK,c2d,fa,cN]
  refine tE (by first|exact dB o6|exact o6) rfl (by rw[aJC];omega) λw7 o7 x7 s7=> ?_
  simp(disch:=omega)only[e9]
  refine⟨8-(i+1),by omega,i+1,rfl,rfl,by omega, ?_,by first|exact(x6.seq (aL.dr _ _)).seq x7|exact x6.seq x7⟩
  rw[<-aoX (by omega),aKW]
  exact o7
 have d1:decide ((i:Int)<8)=false:=by simp;omega
 obtain rfl:i=8:=by omega
 simp(disch:=omega)only[aA,eX,d1,fT,dG,aI,true_and,bH]
 rw[<-hwith]at o6
 exact hk w6 o6 ((x05.mono λ_ _ h=>h.elim).seq x6)
end Go.Proofs.YteelnmpbnaohpaaGreatDoor
namespace Go.Proofs.YteelnmpbnaohpaaGreatDoor
open Go Go.En Go.Pu
set_option maxRecDepth 4000
theorem aAr{ox oy:Operand}{a b:List UInt8}(ha:a.length=32)(hb:b.length=32)(w:aL0):(aE .eql 70 ox oy (.agg (a.map gT).toArray) (.agg (b.map gT).toArray)).run pg w= .ok (.value (.bool (a==b))) w:=by
 have g0:pg.eqGuardType pg.depth 70=false:=by kernel_rfl
 unfold aE
 simp only[Eo,jJ,Sem.run_bind,run_eqGuard_agg w .eql 70 ox oy _ _ g0,Result.andThen_ok,run_eql_struct]
 rw[axX 9998 32 Tryz.underlying70 Tryz.underlying5 Mh rfl a b ha hb]
 simp only[Result.andThen_ok]
 rw[show decide (a=b)=(a==b)from(by cases h:(a==b)<;>simp_all)]
theorem aAA:∀{l:List (List UInt8)},(∀x∈l,x.length=32)->(V6 l).length=l.length*32
 |[],_=>rfl
 |x::l,h=>by
  show(List.flatMap _ (x::l)).length=_
  rw[aKz,aJF,aJC,h x aJ7]
  have:=aAA (l:=l) λy hy=>h y (aJT _ hy)
  rw[this,aJX];omega
theorem aqH:∀{l:List (List UInt8)} {i j:Nat},(∀x∈l,x.length=32)->i<l.length->j<32->(V6 l)[i*32+j]?=((l.getD i []).map gT)[j]?
 |[],i,j,_,hi,_=>by simp at hi
 |x::l,0,j,h,_,hj=>by
  show(List.flatMap _ (x::l))[0*32+j]?=_
  rw[aKz,aJ0 (by rw[aJC,h x aJ7];omega)]
  simp
 |x::l,i+1,j,h,hi,hj=>by
  show(List.flatMap _ (x::l))[(i+1)*32+j]?=_
  rw[aKz,aJ2 (by rw[aJC,h x aJ7];omega),aJC,h x aJ7,show(i+1)*32+j-32=i*32+j from by omega]
  exact aqH (l:=l) (λy hy=>h y (aJT _ hy)) (by simpa using hi) hj
theorem YA{n0 q p:Nat}{X D Y:Nat->Prop}{S:cG}{s:eT}{lv hv:aL1}{w:aL0}(h:eC n0 w q p X D Y S s lv hv):aG pg gE #[dP q] w (λr w'=>r= .int .i64 s.err/\w'=w):=by
 refine SY ?_
 obtain⟨c0,c1,c2,c3,c4,c5,c6,c7,c8,c9⟩:=h.cells
 unfold Pr Jw
 simp(disch:=omega)only[SV,c9]
theorem aEp{n0 q p:Nat}{X D Y:Nat->Prop}{S:cG}{s:eT}{lv hv:aL1}{w:aL0}(h:eC n0 w q p X D Y S s lv hv):aG pg lF #[dP q] w (λr w'=>r= .bool s.fin/\w'=w):=by
 refine Qq ?_
 obtain⟨c0,c1,c2,c3,c4,c5,c6,c7,c8,c9⟩:=h.cells
 unfold MX G6
 simp(disch:=omega)only[SV,c8]
theorem aCe{n0 q p:Nat}{X D Y:Nat->Prop}{S:cG}{s:eT}{lv hv:aL1}{w:aL0}(h:eC n0 w q p X D Y S s lv hv):aG pg kI #[dP q] w (λr w'=>r= .int .u64 (s.epoch:Nat)/\w'=w):=by
 refine OK ?_
 obtain⟨c0,c1,c2,c3,c4,c5,c6,c7,c8,c9⟩:=h.cells
 unfold KB Gb
 simp(disch:=omega)only[SV,c5]
theorem akP{q p:Nat}{X D:Nat->Prop}{S:cG}{n:ByteArray}{w:aL0}(hd:fS w p X D S)(hB:GN 0 S)(hc:w.cell? ⟨q,0,none⟩=some (dP p)):
 aG pg lG #[dP q,.string n] w (λr w'=>∃v,r= .tuple #[v,.bool (bS S n).2.1,.int .i64 (bS S n).2.2]/\mP w' w.heap.size 1 v (bS S n).1.length ((bS S n).1.map gT)/\aL w w' aT):=by
 refine Qs ?_
 unfold M1 G8
 simp(disch:=omega)only[SV,hc]
 refine(afN hd hB.bd (λb hb=>hB.file hb)).mono ?_
 rintro r w1 ⟨hr,x1⟩
 unfold bS
 rcases hr with⟨h1,rfl⟩|⟨h1,h2,rfl⟩|⟨h1,b,v,h2,rfl,ho⟩
 .have n1:((20:Int)==21)=false:=rfl
  have n2:((20:Int)==0)=false:=rfl
  rw[if_pos h1]
  simp(disch:=omega)only[SV,n1,n2]
  exact⟨_,rfl,mP.nil _ _ _,x1⟩
 .have n1:((21:Int)==21)=true:=rfl
  rw[if_neg (by rw[h1];decide),h2]
  simp(disch:=omega)only[SV,n1]
  exact⟨_,rfl,mP.nil _ _ _,x1⟩
 .have n1:((0:Int)==21)=false:=rfl
  have n2:((0:Int)==0)=true:=rfl
  rw[if_neg (by rw[h1];decide),h2]
  simp(disch:=omega)only[SV,n1,n2]
  exact⟨_,rfl,ho,x1⟩
theorem aBd{n0 q p i:Nat}{X D Y:Nat->Prop}{S:cG}{s:eT}{lv hv bv:aL1}{b:List UInt8}{w:aL0}(h:eC n0 w q p X D Y S s lv hv)(hi:i<s.man.leaves.length)(hb:Bs w bv b)(hl:b.length<=1000000):
 aG pg nP #[dP q,.int .i64 (i:Nat),bv] w (λr w'=>r= .bool (wT aX s.man i b)/\aL w w' aT):=by
 refine ON ?_
 obtain⟨RR,hRR⟩:∃RR:aL1->aL0->Prop,RR=λr w'=>r= .bool (wT aX s.man i b)/\aL w w' aT:=⟨_,rfl⟩
 rw[<-hRR]
 have hm:=h.man
 have hc1:=hm.cnt
 have hc2:=hm.max
 have h':=h.new (aL.dr w aT)
 obtain⟨c0,c1,c2,c3,c4,c5,c6,c7,c8,c9⟩:=h'.cells
 obtain⟨ba,bc,rfl,hbc⟩:=hb.len
 rw[aJC]at hb hbc
 unfold KE Gf
 have e1:IntKind.i64.wrap ((s.man.part:Nat):Int)=((s.man.part:Nat):Int):=dG (by omega) (by have:=hm.part;omega)
 simp(disch:=omega)only[SV,c2,c3,e1,aJC]
 have hsz:=hm.size
 refine(akN (by omega) hm.part.1 hm.part.2 hc2 (by omega)).mono ?_
 rintro r w1 ⟨rfl,hw⟩
 rw[hw];clear hw w1
 have n0':((0:Int)==0)=true:=rfl
 obtain⟨N,hN⟩:∃N,N=U7 s.man.size s.man.part i:=⟨_,rfl⟩
 have hwb:wT aX s.man i b=(b.length==N&&aX b==s.man.leaves.getD i []):=by rw[hN]<;>rfl
 rw[<-hN]
 have key:∀W,aL w W aT->∃la off lc,lv= .slice (some ⟨la,off,none⟩) s.man.leaves.length lc/\(aB 70 (.pointer (some ⟨la,off+i*32,none⟩))).run pg W= .ok (.value (.agg ((s.man.leaves.getD i []).map gT).toArray)) W:=λW x=>by
  obtain⟨a,c,hlv,hln,hh⟩:=dS h.lv.1 x (bC _)
  obtain⟨la,off,rfl,h2⟩:=hh (by omega)
  have hmem:s.man.leaves.getD i []∈s.man.leaves:=by
   rw[aJL,aJE hi];exact aKp hi
  refine⟨la,off,c,hlv,aaX (by rw[aJC,hm.len _ hmem]) λj hj=> ?_⟩
  rw[aJC,hm.len _ hmem]at hj
  rw[aKy,h2 _ (by rw[hln];omega),aqH hm.len hi hj]
 have hllen:(s.man.leaves.getD i []).length=32:=hm.len _ (by rw[aJL,aJE hi];exact aKp hi)
 by_cases hq:b.length=N
 rotate_left
 .have d1:(((b.length:Nat):Int)==((N:Nat):Int))=false:=by rw[beq_eq_false_iff_ne];omega
  have d2:(b.length==N)=false:=by rw[beq_eq_false_iff_ne];exact hq
  rw[d2,aKH]at hwb
  simp(disch:=omega)only[SV,n0',d1]
  rw[hRR]
  exact⟨by rw[hwb],(aL.dr w _).seq (aL.dr _ _)⟩
 have d1:(((b.length:Nat):Int)==((N:Nat):Int))=true:=by rw[beq_iff_eq];omega
 have d2:(b.length==N)=true:=by rw[beq_iff_eq];exact hq
 rw[d2,aKM]at hwb
 simp(disch:=omega)only[SV,n0',d1]
 have xd2:aL w (dr (dr w)) aT:=(aL.dr w _).seq (aL.dr _ _)
 refine(aDt (l:=b) (h.glob.ext xd2) (hb.ext xd2 (bC _)) (by omega)).mono ?_
 rintro r w2 ⟨rfl,x2⟩
 have x02:=xd2.seq x2
 obtain⟨la,off,lc,hlv,ld2⟩:=key w2 x02
 obtain⟨_,_,_,hlv',ldd⟩:=key _ xd2
 rw[hlv]at hlv'
 cases hlv'
 obtain⟨a0,a1,a2,a3,a4,a5,a6,a7,a8,a9⟩:=(h.new x02).cells
 obtain⟨b0,b1,b2,b3,b4,b5,b6,b7,b8,b9⟩:=(h.new xd2).cells
 rw[hlv]at a4 b4
 have hs:=λox oy=>aAr (ox:=ox) (oy:=oy) (a:=aX b) (b:=s.man.leaves.getD i []) (vS _) hllen w2
 simp(disch:=omega)only[SV,a4,b4,ld2,ldd,hs]
 rw[hRR]
 exact⟨by rw[hwb],x02⟩
theorem VB(L k i:Nat)(b:List UInt8):(CB L k i b).length<=b.length:=by
 unfold CB
 rw[aJP,aJS];omega
theorem alB{n0 q p:Nat}{X D Y:Nat->Prop}{S:cG}{s:eT}{lv hv bv:aL1}{b:List UInt8}{w:aL0}(h:eC n0 w q p X D Y S s lv hv)(hb:Bs w bv b)(hl:b.length<=1000000):
 aG pg iV #[dP q,bv] w (λr w'=>∃ob,r= .slice (some ⟨ob,0,none⟩) s.man.leaves.length s.man.leaves.length/\w.heap.size<=ob/\bD w' ob ((bQ aX s.man b).map Value.bool)/\aL w w' aT):=by
 refine M4 ?_
 obtain⟨RR,hRR⟩:∃RR:aL1->aL0->Prop,RR=λr w'=>∃ob,r= .slice (some ⟨ob,0,none⟩) s.man.leaves.length s.man.leaves.length/\w.heap.size<=ob/\bD w' ob ((bQ aX s.man b).map Value.bool)/\aL w w' aT:=⟨_,rfl⟩
 rw[<-hRR]
 have hm:=h.man
 have hc1:=hm.cnt
 have hc2:=hm.max
 have hsz:=hm.size
 obtain⟨c0,c1,c2,c3,c4,c5,c6,c7,c8,c9⟩:=h.cells
 obtain⟨la,lc,hlv,_⟩:=h.lv.1
 obtain⟨ba,bc,rfl,hbc⟩:=hb.len
 rw[aJC]at hb hbc⊢
 obtain⟨n,hn⟩:∃n,n=s.man.leaves.length:=⟨_,rfl⟩
 rw[hlv]at c4
 rw[<-hn]at c4 hc1
 unfold JC D7 D6
 simp(disch:=omega)only[SV,c4]
 refine ahZ (by omega) (by omega) λw1 o1 x1 s1=> ?_
 rw[aJI]at o1⊢
 obtain⟨ob,hob⟩:∃ob,ob=w.heap.size:=⟨_,rfl⟩
 rw[<-hob]at o1⊢
 unfold wS wR D5 pX
 simp(disch:=omega)only[SV]
 refine bM.rule (λm (t:aL1) w'=>∃i:Nat,m=n-i/\i<=n/\t= .int .i64 (i:Nat)/\bD w' ob (((List.range i).map λj=>Value.bool (wholeAt aX s.man b j))++List.replicate (n-i) (.bool false))/\aL w w' aT) n ⟨0,rfl,by omega,rfl,o1,x1⟩ ?_
 clear o1
 rintro m t w2 ⟨i,rfl,hi,rfl,o2,x2⟩
 unfold wQ
 by_cases hlt:i<n
 .have d1:decide ((i:Int)<(n:Int))=true:=by simp;omega
  have x2d:aL w (dr w2) aT:=x2.seq (aL.dr _ _)
  obtain⟨a0,a1,a2,a3,a4,a5,a6,a7,a8,a9⟩:=(h.new x2d).cells
  have e1:IntKind.i64.wrap ((s.man.part:Nat):Int)=((s.man.part:Nat):Int):=dG (by omega) (by have:=hm.part;omega)
  simp(disch:=omega)only[SV,d1,a2,a3,e1]
  refine(akN (by omega) hm.part.1 hm.part.2 hc2 (by omega)).mono ?_
  rintro r w3 ⟨rfl,hw⟩
  rw[hw];clear hw w3
  obtain⟨P,hP⟩:∃P,P=s.man.part*i:=⟨_,rfl⟩
  obtain⟨N,hN⟩:∃N,N=U7 s.man.size s.man.part i:=⟨_,rfl⟩
  have hPl:P<s.man.size:=hP▸(Bn (by have:=hm.part;omega)).1 (by omega)
  have hNl:N<=s.man.part:=by rw[hN];unfold U7;omega
  have hpm:=hm.part
  rw[<-hP,<-hN]
  have n1:((0:Int)==0)=true:=rfl
  have e2:(P:Int)+(N:Int)=((P+N:Nat):Int):=by omega
  have hwa:wholeAt aX s.man b i=(decide (P+N<=b.length)&&wT aX s.man i (CB s.man.size s.man.part i b)):=by rw[hP,hN]<;>rfl
  have o3:=dB o2
  have oset:∀(z:Bool),z=wholeAt aX s.man b i->((((List.range i).map λj=>Value.bool (wholeAt aX s.man b j))++List.replicate (n-i) (Value.bool false)).set i (.bool z))=((List.range (i+1)).map λj=>Value.bool (wholeAt aX s.man b j))++List.replicate (n-(i+1)) (.bool false):=λz hz=>by
   rw[aKj _ _ (by simp),aJC,aK2,aKT,show n-i=(n-(i+1))+1 from by omega,aLH,aJV,aLh,aKb,aJW,hz]
   rfl
  by_cases hfit:P+N<=b.length
  .have d2:decide (((P+N:Nat):Int)<=(b.length:Int))=true:=by simp only[decide_eq_true_eq];omega
   rw[decide_eq_true hfit,aKM]at hwa
   simp(disch:=omega)only[SV,n1,e2,d2]
   have hbd:Bs (dr w2) (.slice (dD ba bc P 1) (P+N-P) (bc-P)) (CB s.man.size s.man.part i b):=by
    have:=Sl.mid (hb.ext x2d (bC _)) (i:=P) (j:=P+N) (by omega) hfit
    rw[<-aLj,<-aLD,aKG]at this
    rw[aKG]
    unfold CB
    rw[<-hP,<-hN]
    exact this
   refine(aBd (h.new x2d) (by omega) hbd (by have:=VB s.man.size s.man.part i b;omega)).mono ?_
   rintro r w4 ⟨rfl,x4⟩
   refine vD (o3.ext x4 (λh=>h)) rfl (by rw[aJF,aJC,aK2,aJ9];omega) λw5 o5 x5 s5=> ?_
   rw[oset _ hwa.symm]at o5
   exact⟨n-(i+1),by omega,i+1,rfl,by omega,rfl,o5,(x2d.seq x4).trans x5 λy hy h=>by omega⟩
  .have d2:decide (((P+N:Nat):Int)<=(b.length:Int))=false:=by simp only[decide_eq_false_iff_not];omega
   rw[decide_eq_false hfit,aKH]at hwa
   simp(disch:=omega)only[SV,n1,e2,d2]
   refine vD o3 rfl (by rw[aJF,aJC,aK2,aJ9];omega) λw5 o5 x5 s5=> ?_
   rw[oset _ hwa.symm]at o5
   exact⟨n-(i+1),by omega,i+1,rfl,by omega,rfl,o5,x2d.trans x5 λy hy h=>by omega⟩
 .have d1:decide ((i:Int)<(n:Int))=false:=by simp;omega
  obtain rfl:i=n:=by omega
  unfold wP
  simp(disch:=omega)only[SV,d1]
  rw[hRR]
  refine⟨ob,by rw[<-hn],by omega, ?_,x2⟩
  rw[aKT,aLt,aKf]at o2
  unfold bQ
  rw[<-hn,List.map_map]
  exact o2
theorem afJ{n:ByteArray}(h:n.size<=27)(t:TypeId)(ox oy:Operand)(w:aL0):(aE .add t ox oy (.string n) (.string ⟨#[46,108,111,103]⟩)).run pg w= .ok (.value (.string (cZ n))) w:=aqM n _ (by show((n.size+4:Nat):Int)<=_;omega)
theorem LX{n:ByteArray}(h:n.size<=27)(t:TypeId)(ox oy:Operand)(w:aL0):(aE .add t ox oy (.string n) (.string ⟨#[46,112,97,114,116]⟩)).run pg w= .ok (.value (.string (aZ n))) w:=aqM n _ (by show((n.size+5:Nat):Int)<=_;omega)
theorem avC{n0 q p k v:Nat}{X D Y:Nat->Prop}{S:cG}{s:eT}{lv hv:aL1}{w:aL0}(h:eC n0 w q p X D Y S s lv hv)(hB:GN 1 S)(hk:k=1∨k=2)(hv':v<2^64)(hlg:s.log+13<=1000000000):
 aG pg mE #[dP q,amC k v] w (λr w'=>r= .int .i64 (bZ aY S s k v).2.2/\bY n0 w q p X D Y (bZ aY S s k v).1 (bZ aY S s k v).2.1 w'):=by
 refine M3 ?_
 obtain⟨RR,hRR⟩:∃RR:aL1->aL0->Prop,RR=λr w'=>r= .int .i64 (bZ aY S s k v).2.2/\bY n0 w q p X D Y (bZ aY S s k v).1 (bZ aY S s k v).2.1 w':=⟨_,rfl⟩
 rw[<-hRR]
 unfold JB D4 D3
 refine cA λw1 o1 x1 s1=> ?_
 have o1:bD w1 w.heap.size (qD (k,v)):=o1
 have l1:=xM (off:=0) o1 (by simp)
 have l1:(aB 109 (.pointer (some ⟨w.heap.size,0,none⟩))).run pg w1= .ok (.value (amC k v)) w1:=l1
 simp(disch:=omega)only[SV,l1]
 refine(atX (h.glob.ext x1) (by omega) hv').mono ?_
 rintro r w2 ⟨hr,x2⟩
 rw[if_pos hk]at hr
 obtain⟨b,rfl,hb⟩:=hr
 have h13:=oX aY k v
 have h2:=h.new (x1.seq x2)
 have h2d:=h2.new (aL.dr w2 aT)
 obtain⟨a0,a1,a2,a3,a4,a5,a6,a7,a8,a9⟩:=h2d.cells
 have n1:((0:Int)==0)=true:=rfl
 have hbd:Bs (dr w2) b (pA aY k v):=(show Bs w2 b (pA aY k v)from hb.sl).ext (aL.dr w2 aT) (bC _)
 obtain⟨ba,bc,rfl,_⟩:=hbd.len
 rw[aJC]at hbd hb⊢
 have ct:=afJ h.nl
 simp(disch:=omega)only[SV,n1,a0,a1,a7,ct]
 have x02:aL w (dr w2) (λb=>X b∨Y b):=((x1.seq x2).seq (aL.dr _ _)).mono λ_ _ h=>h.elim
 refine(Wz (name:=cZ s.nm) (a:=(s.log:Nat)) h2d.dsk hB.bd hbd (by omega) (by omega) (by omega)).mono ?_
 rintro r w3 ⟨rfl,hp⟩
 obtain⟨X',D',h3,hX,hD,x3⟩:=h2d.disk hp
 have hrec:bZ aY S s k v=if(zU S (cZ s.nm) s.log (pA aY k v)).2=0 then((zU S (cZ s.nm) s.log (pA aY k v)).1,{s with log:=s.log+13},0)else((zU S (cZ s.nm) s.log (pA aY k v)).1,s,(zU S (cZ s.nm) s.log (pA aY k v)).2):=rfl
 generalize zU S (cZ s.nm) s.log (pA aY k v)=W at*
 obtain⟨S',e⟩:=W
 simp only at h3 hrec
 unfold wO DZ wN
 have x3':aL (dr w2) w3 (λb=>X b∨Y b):=x3.mono λ_ _ h=> .inl h
 by_cases he:e=0
 .subst he
  rw[if_pos rfl]at hrec
  obtain⟨c0,c1,c2,c3,c4,c5,c6,c7,c8,c9⟩:=h3.cells
  have e1:(s.log:Int)+(13:Int)=((s.log+13:Nat):Int):=by omega
  rw[h13]at*
  simp(disch:=omega)only[SV,n1,c7,e1]
  refine DD h3.own rfl (by simp) λw4 o4 x4 s4=> ?_
  have h4:=h3.set (s':={s with log:=s.log+13}) x4 o4 rfl rfl rfl h.ep hlg
  rw[hRR,hrec]
  exact⟨rfl,bY.step x02 (λ_ h=> .inl h) (λ_ h=>h) (λ_ h=> .inl h) ⟨X',D',Y,_,_,h4,hX,hD,λ_ h=> .inl h,x3'.seq (x4.mono λy _ hy=> .inr (hy▸h.yq))⟩⟩
 .rw [if_neg he]at hrec
  have n2:(e==0)=false:=beq_eq_false_iff_ne.2 he
  simp(disch:=omega)only[SV,n1,n2]
  rw[hRR,hrec]
  exact⟨rfl,bY.step x02 (λ_ h=> .inl h) (λ_ h=>h) (λ_ h=> .inl h) ⟨X',D',Y,_,_,h3,hX,hD,λ_ h=> .inl h,x3'⟩⟩
theorem aDb{n0 q p:Nat}{X D Y:Nat->Prop}{S:cG}{s:eT}{lv hv:aL1}{w:aL0}(h:eC n0 w q p X D Y S s lv hv)(hB:GN 2 S):
 aG pg qP #[dP q] w (λr w'=>∃bv,r= .tuple #[bv,.int .i64 (cC S s).2.2]/\Bs w' bv (cC S s).2.1/\(∀b,(X b∨Y b)->¬fK bv (λy=>y=b))/\bY n0 w q p X D Y (cC S s).1 s w'):=by
 refine M0 ?_
 obtain⟨RR,hRR⟩:∃RR:aL1->aL0->Prop,RR=λr w'=>∃bv,r= .tuple #[bv,.int .i64 (cC S s).2.2]/\Bs w' bv (cC S s).2.1/\(∀b,(X b∨Y b)->¬fK bv (λy=>y=b))/\bY n0 w q p X D Y (cC S s).1 s w':=⟨_,rfl⟩
 rw[<-hRR]
 obtain⟨c0,c1,c2,c3,c4,c5,c6,c7,c8,c9⟩:=h.cells
 have ct:=LX h.nl
 unfold JA DY DX
 simp(disch:=omega)only[SV,c1,ct]
 refine(akP (n:=aZ s.nm) h.dsk (hB.le (by omega)) c0).mono ?_
 rintro r w1 ⟨v,rfl,ho,x1⟩
 have h1:=h.new x1
 obtain⟨rb,hrb⟩:∃rb,rb=bS S (aZ s.nm):=⟨_,rfl⟩
 rw[<-hrb]at ho⊢
 obtain⟨b,th,e⟩:=rb
 simp only at ho⊢
 have hno:∀b,(X b∨Y b)->¬fK v (λy=>y=b):=λy hy hi=>by
  have hlt:=eC.lt h y hy
  rcases ho.2 with⟨rfl,_⟩|⟨bb,cc,rest,rfl,g2,_⟩
  .exact hi
  .unfold fK at hi
   split at hi
   .rename_i e
    simp only[Value.slice.injEq,aKc]at e
    obtain⟨rfl,_⟩:=e
    have hi:bb=y:=hi
    omega
   .exact hi
 have hnn:∀y:Nat,(X y∨Y y)->¬fK (.slice none 0 0) (λz=>z=y):=λy _ h=>h
 have hf:cC S s=if e≠0 then(S,[],e)else if s.man.size<b.length then(if(Yj S (aZ s.nm)).2≠0 then((Yj S (aZ s.nm)).1,[],(Yj S (aZ s.nm)).2)else((zU (Yj S (aZ s.nm)).1 (aZ s.nm) 0 (List.replicate s.man.size 0)).1,[],(zU (Yj S (aZ s.nm)).1 (aZ s.nm) 0 (List.replicate s.man.size 0)).2))
     else if b.length<s.man.size∨th=false then((zU S (aZ s.nm) b.length (List.replicate (s.man.size-b.length) 0)).1,b,(zU S (aZ s.nm) b.length (List.replicate (s.man.size-b.length) 0)).2)else(S,b,0):=by
  unfold cC
  rw[<-hrb]
 have hsz:=h.man.size
 by_cases he:e=0
 rotate_left
 .have n1:(e !=0)=true:=bne_iff_ne.2 he
  rw[if_pos he]at hf
  simp(disch:=omega)only[SV,n1]
  rw[hRR,hf]
  exact⟨_,rfl,Sl.nil _,hnn,bY.step (x1.mono λ_ _ h=>h.elim) (λ_ h=> .inl h) (λ_ h=>h) (λ_ h=> .inl h) (bY.refl h1)⟩
 subst he
 rw[if_neg (by decide)]at hf
 have n1:((0:Int) !=0)=false:=rfl
 have hbs:Bs w1 v b:=ho.sl
 obtain⟨va,vc,rfl,_⟩:=hbs.len
 rw[aJC]at hbs hno ho
 have hbl:b.length<=1000000000:=by
  unfold bS at hrb
  split at hrb
  .cases hrb
  .cases hg:bF (aZ s.nm) S.seen with
   |none=>rw[hg]at hrb;cases hrb;simp
   |some b'=>rw[hg]at hrb;cases hrb;exact hB.file hg
 have tail:∀{w2:aL0} {X2 D2:Nat->Prop} {S2:cG} {b2:List UInt8} {a2:Option Addr} {c2:Nat} {th2:Bool},eC n0 w2 q p X2 D2 Y S2 s lv hv->GN 1 S2->Bs w2 (.slice a2 b2.length c2) b2->(∀y,(X2 y∨Y y)->¬fK (.slice a2 b2.length c2) (λz=>z=y))->b2.length<=s.man.size→
     (∀w3 e3 S3,(if b2.length<s.man.size∨th2=false then((zU S2 (aZ s.nm) b2.length (List.replicate (s.man.size-b2.length) 0)).1,(zU S2 (aZ s.nm) b2.length (List.replicate (s.man.size-b2.length) 0)).2)else(S2,0))=(S3,e3)->Bs w3 (.slice a2 b2.length c2) b2->bY n0 w2 q p X2 D2 Y S3 s w3->RR (.tuple #[.slice a2 b2.length c2,.int .i64 e3]) w3)→
     pW RR (dP q) (.slice a2 b2.length c2) (.bool th2) w2:=by
  intro w2 X2 D2 S2 b2 a2 c2 th2 h2 hB2 hb2 hn2 hle hK
  obtain⟨d0,d1,d2,d3,d4,d5,d6,d7,d8,d9⟩:=h2.cells
  have e1:IntKind.i64.wrap ((s.man.size:Nat):Int)=((s.man.size:Nat):Int):=dG (by omega) (by omega)
  have e2:(s.man.size:Int)-(b2.length:Int)=((s.man.size-b2.length:Nat):Int):=by omega
  have fin:∀{w3:aL0},(b2.length<s.man.size∨th2=false)->bD w3 (dr w2).heap.size (List.replicate (s.man.size-b2.length) (.int .u8 0))->aL (dr w2) w3 aT->aG pg gD #[dP p,.string (aZ s.nm),.int .i64 (b2.length:Nat),.slice (some ⟨(dr w2).heap.size,0,none⟩) (s.man.size-b2.length) (s.man.size-b2.length)] w3 λt74 w4=>RR (.tuple #[.slice a2 b2.length c2,t74]) w4:=by
   intro w3 hc o3 x3
   rw[if_pos hc]at hK
   have x23:aL w2 w3 aT:=(aL.dr _ _).seq x3
   have h3:=h2.new x23
   have hbz:Bs w3 (.slice (some ⟨(dr w2).heap.size,0,none⟩) (s.man.size-b2.length) (s.man.size-b2.length)) (List.replicate (s.man.size-b2.length) 0):=by
    refine bD.whole (l:=List.replicate (s.man.size-b2.length) (0:UInt8)) (c:=s.man.size-b2.length) ?_ ?_|>λhh=>by rw[aJ9]at hh;exact hh
    .rw [aAh];exact o3
    .simp
   have hdw:=Wz (name:=aZ s.nm) (a:=(b2.length:Nat)) h3.dsk hB2.bd hbz (by rw[aJ9];omega) (by omega) (by omega)
   refine hdw.mono ?_
   rintro r w4 ⟨rfl,hp⟩
   obtain⟨X',D',h4,hX,hD,x4⟩:=h3.disk hp
   refine hK w4 _ _ rfl ((hb2.ext x23 (bC _)).ext x4 λhi=> ?_) (bY.step (x23.mono λ_ _ h=>h.elim) (λ_ h=> .inl h) (λ_ h=>h) (λ_ h=> .inl h) ⟨X',D',Y,_,_,h4,hX,hD,λ_ h=> .inl h,x4.mono λ_ _ h=> .inl h⟩)
   unfold fK at hi
   split at hi
   .rename_i b' _ m _ he
    have:=hn2 _ (.inl hi)
    rw[he]at this
    exact this rfl
   .exact hi
  have h2d:=(h2.new (aL.dr w2 aT))
  obtain⟨f0,f1,f2,f3,f4,f5,f6,f7,f8,f9⟩:=h2d.cells
  unfold pW
  have mk:(b2.length<s.man.size∨th2=false)->aA pg (yX 22 (.int .i64 ((s.man.size-b2.length:Nat):Int)) (.int .i64 ((s.man.size-b2.length:Nat):Int))) (dr w2) λt73 w3=>
      (ldC (w3.cell? ⟨q,1,none⟩) w3 (far pg 9 ⟨q,1,none⟩ w3)=Result.ok (Next.value (Value.string s.nm)) w3/\ldC (w3.cell? ⟨q,0,none⟩) w3 (far pg 34 ⟨q,0,none⟩ w3)=Result.ok (Next.value (dP p)) w3)/\
      aG pg gD #[dP p,.string (aZ s.nm),.int .i64 (b2.length:Nat),t73] w3 λt74 w4=>RR (.tuple #[.slice a2 b2.length c2,t74]) w4:=λhc=>by
   refine RQ (by omega) (by omega) λw3 o3 x3 s3=> ?_
   rw[aJI]at o3⊢
   obtain⟨g0,g1,_⟩:=(h2.new ((aL.dr _ _).seq x3)).cells
   refine⟨⟨by rw[g1]<;>rfl,by rw[g0]<;>rfl⟩,fin hc o3 x3⟩
  by_cases hlt:b2.length<s.man.size
  .have q1:decide ((0:Int)<((s.man.size-b2.length:Nat):Int))=true:=by simp only[decide_eq_true_eq];omega
   simp(disch:=omega)only[SV,d2,e1,e2,q1,f0,f1,ct]
   exact mk (.inl hlt)
  .have q1:decide ((0:Int)<((s.man.size-b2.length:Nat):Int))=false:=by simp only[decide_eq_false_iff_not];omega
   cases th2 with
   |false=>
    simp(disch:=omega)only[SV,d2,e1,e2,q1,f0,f1,ct]
    exact mk (.inr rfl)
   |true=>
    rw[if_neg (by rintro(h|h);exact hlt h;cases h)]at hK
    simp(disch:=omega)only[SV,d2,e1,e2,q1]
    exact hK w2 0 S2 rfl hb2 (bY.refl h2)
 have x1':aL w w1 (λb=>X b∨Y b):=x1.mono λ_ _ h=>h.elim
 obtain⟨d0,d1,d2,d3,d4,d5,d6,d7,d8,d9⟩:=h1.cells
 have e1:IntKind.u64.wrap ((b.length:Nat):Int)=((b.length:Nat):Int):=gX (by omega) (by omega)
 by_cases hgt:s.man.size<b.length
 .rw [if_pos hgt]at hf
  have q1:decide (((s.man.size:Nat):Int)<((b.length:Nat):Int))=true:=by simp only[decide_eq_true_eq];omega
  have h1d:=h1.new (aL.dr w1 aT)
  obtain⟨f0,f1,f2,f3,f4,f5,f6,f7,f8,f9⟩:=h1d.cells
  simp(disch:=omega)only[SV,aJC,n1,d2,e1,q1,f0,f1,ct]
  refine(aBw (name:=aZ s.nm) h1d.dsk hB.bd).mono ?_
  rintro r w2 ⟨rfl,hp⟩
  obtain⟨X',D',h2,hX,hD,x2⟩:=h1d.disk hp
  have hB2:GN 1 (Yj S (aZ s.nm)).1:=aAO hB
  have x02:aL w w2 (λb=>X b∨Y b):=(x1'.seq (aL.dr _ _)).seq (x2.mono λ_ _ h=> .inl h)
  have hX0:∀b,X' b->X b∨w.heap.size<=b:=λb hb=>by
   have:=x1.size
   rcases hX b hb with h|h
   .exact .inl h
   .exact .inr (aK5 this h)
  generalize Yj S (aZ s.nm)=R at*
  obtain⟨S2,e⟩:=R
  simp only at h2 hB2 hf
  by_cases he:e=0
  .subst he
   rw[if_neg (by decide)]at hf
   simp(disch:=omega)only[SV,n1]
   refine tail (th2:=false) (a2:=none) (c2:=0) (b2:=[]) h2 hB2 (Sl.nil _) (λy _ h=>h) (by simp) λw3 e3 S3 h3 hb3 hp3=> ?_
   rw[if_pos (.inr rfl)]at h3
   have h3:((zU S2 (aZ s.nm) 0 (List.replicate s.man.size 0)).1,(zU S2 (aZ s.nm) 0 (List.replicate s.man.size 0)).2)=(S3,e3):=h3
   rw[hRR,hf]
   obtain⟨ha,hb'⟩:=aLF .. ▸h3
   rw[ha,hb']
   exact⟨_,rfl,Sl.nil _,hnn,bY.step x02 hX0 hD (λ_ h=> .inl h) hp3⟩
  .have n2:(e !=0)=true:=bne_iff_ne.2 he
   rw[if_pos he]at hf
   simp(disch:=omega)only[SV,n2]
   rw[hRR,hf]
   exact⟨_,rfl,Sl.nil _,hnn,bY.step x02 hX0 hD (λ_ h=> .inl h) (bY.refl h2)⟩
 .rw [if_neg hgt]at hf
  have q1:decide (((s.man.size:Nat):Int)<((b.length:Nat):Int))=false:=by simp only[decide_eq_false_iff_not];omega
  simp(disch:=omega)only[SV,aJC,n1,d2,e1,q1]
  refine tail (th2:=th) h1 (hB.le (by omega)) hbs hno (by omega) λw3 e3 S3 h3 hb3 hp3=> ?_
  rw[hRR,hf]
  by_cases hc:b.length<s.man.size∨th=false
  .rw [if_pos hc]at h3⊢
   obtain⟨ha,hb'⟩:=aLF .. ▸h3
   rw[ha,hb']
   exact⟨_,rfl,hb3,hno,bY.step x1' (λ_ h=> .inl h) (λ_ h=>h) (λ_ h=> .inl h) hp3⟩
  .rw [if_neg hc]at h3⊢
   obtain⟨ha,hb'⟩:=aLF .. ▸h3
   rw[ha,hb']
   exact⟨_,rfl,hb3,hno,bY.step x1' (λ_ h=> .inl h) (λ_ h=>h) (λ_ h=> .inl h) hp3⟩
theorem Tq{P:Program}{f:FuncId}{fn:Func}(hf:P.funcs[f]?=some fn)(hb:fn.body.isSome=true)(hn:(fn.name== "runtime.NumGoroutine")=false)(first cap:Array aL1)(args:List aL1)(w:aL0):
 (AO (.func (.func f) first cap) args).run P w= .ok (.enter f (first++args.toArray++cap)) w:=by
 unfold AO Deferred.ofValue
 simp only[pure_bind,invoke]
 exact Nj hf hb hn _ _
theorem aAt{fs:List aL1}{b c:Nat}{w:aL0}(J:Nat->aL0->Prop)(E:Int->aL0->Prop)(hl:fs.length<=100)(h0:J 0 w)(ho:∀i w',J i w'->bD w' b fs)
 (hs:∀i w' f,fs[i]?=some f->J i w'->YB pg ((AO f []).run pg w') (λr w''=>∃e:Int,r= .int .i64 e/\(if e=0 then J (i+1) w'' else E e w''))):
 aG pg AY #[.slice (some ⟨b,0,none⟩) fs.length c] w (λr w'=>∃e:Int,r= .int .i64 e/\(if e=0 then J fs.length w' else E e w')):=by
 refine aaD ?_
 obtain⟨RR,hRR⟩:∃RR:aL1->aL0->Prop,RR=λr w'=>∃e:Int,r= .int .i64 e/\(if e=0 then J fs.length w' else E e w'):=⟨_,rfl⟩
 rw[<-hRR]
 unfold abX S9 S7 JG JF S6 DG
 simp(disch:=omega)only[SV]
 refine bM.rule (λm (t:aL1) w'=>∃i:Nat,m=fs.length-i/\i<=fs.length/\t= .int .i64 (i:Nat)/\J i w') fs.length ⟨0,rfl,by omega,rfl,h0⟩ ?_
 rintro m t w1 ⟨i,rfl,hi,rfl,hJ⟩
 unfold JE
 by_cases hlt:i<fs.length
 .have d1:decide ((i:Int)<(fs.length:Int))=true:=by simp;omega
  have c1:=(ho _ _ hJ).cell (off:=i)
  rw[aJE hlt]at c1
  have hss:=hs i w1 fs[i] (aJE hlt) hJ
  simp(disch:=omega)only[SV,d1,c1]
  have mono:∀{r:Result Next} {K K':aL1->aL0->Prop},YB pg r K->(∀v w,K v w->K' v w)->YB pg r K':=λ{r K K'} h hk=>by
   unfold YB at*
   split at h
   .exact hk _ _ h
   .exact hk _ _ h
   .exact h.mono hk
   .obtain ⟨v,w',h1,h2⟩:=h
    exact⟨v,w',h1,hk _ _ h2⟩
   .exact h
  refine mono hss ?_
  rintro r w2 ⟨e,rfl,he⟩
  by_cases h0':e=0
  .subst h0'
   rw[if_pos rfl]at he
   have n1:((0:Int) !=0)=false:=rfl
   simp(disch:=omega)only[SV,n1]
   exact⟨fs.length-(i+1),by omega,i+1,rfl,by omega,rfl,he⟩
  .have n1:(e !=0)=true:=bne_iff_ne.2 h0'
   rw[if_neg h0']at he
   simp(disch:=omega)only[SV,n1]
   rw[hRR]
   exact⟨e,rfl,by rw[if_neg h0'];exact he⟩
 .have d1:decide ((i:Int)<(fs.length:Int))=false:=by simp;omega
  obtain rfl:i=fs.length:=by omega
  unfold JD
  simp(disch:=omega)only[SV,d1]
  rw[hRR]
  exact⟨0,rfl,by rw[if_pos rfl];exact hJ⟩
theorem aD5 {n:Nat}{S:cG}{s:eT}{k v:Nat}(h:GN (n+1) S):GN n (bZ aY S s k v).1:=by
 have:=awZ (k:=cZ s.nm) (a:=s.log) (l:=pA aY k v) h
 unfold bZ
 simp only
 split
 .exact this
 .exact this
theorem bY.keep {n0:Nat}{w w':aL0}{q p b:Nat}{X D Y:Nat->Prop}{S:cG}{s:eT}{cs:List aL1}(h:bY n0 w q p X D Y S s w')(o:bD w b cs)(hb:¬(X b∨Y b)):bD w' b cs:=by
 obtain⟨_,_,_,_,_,_,_,_,_,x⟩:=h
 exact o.ext x hb
theorem bY.andThen {n0:Nat}{w w1 w2:aL0}{q p:Nat}{X D Y:Nat->Prop}{S1 S2:cG}{s1 s2:eT}(h:bY n0 w q p X D Y S1 s1 w1)(h2:∀{X' D' Y' lv hv},eC n0 w1 q p X' D' Y' S1 s1 lv hv->bY n0 w1 q p X' D' Y' S2 s2 w2):bY n0 w q p X D Y S2 s2 w2:=by
 obtain⟨X',D',Y',lv,hv,h1,hX,hD,hY,x⟩:=h
 exact bY.step x hX hD hY (h2 h1)
theorem arJ{n0 q p:Nat}{X D Y:Nat->Prop}{S:cG}{s:eT}{w w1:aL0}(h:bY n0 w q p X D Y S s w1)(hB:GN 0 S):
 aG pg dQ #[dP p] w1 (λr w2=>r= .int .i64 (AP S).2/\bY n0 w q p X D Y (AP S).1 s w2):=by
 obtain⟨X',D',Y',lv,hv,h1,hX,hD,hY,x⟩:=h
 refine(aHn h1.dsk hB.bd).mono ?_
 rintro r w2 ⟨rfl,hp⟩
 obtain⟨X2,D2,h2,hX2,hD2,x2⟩:=h1.disk hp
 exact⟨rfl,bY.step x hX hD hY ⟨X2,D2,Y',_,_,h2,hX2,hD2,λ_ h=> .inl h,x2.mono λ_ _ h=> .inl h⟩⟩
theorem NK{S:cG}{s:eT}{k v:Nat}:(bZ aY S s k v).2.1.hv=s.hv/\(bZ aY S s k v).2.1.man=s.man/\(bZ aY S s k v).2.1.nm=s.nm/\(bZ aY S s k v).2.1.epoch=s.epoch:=by
 unfold bZ
 simp only
 split<;>exact⟨rfl,rfl,rfl,rfl⟩
theorem asM{S:cG}{s:eT}{i:Nat}{b:List UInt8}:(fD aY S s i b).2.1.hv=s.hv:=by
 unfold fD
 simp only
 split
 .rfl
 .split
  .rfl
  .split
   .exact NK.1
   .exact NK.1
theorem eC.setHv {n0:Nat}{w:aL0}{q p:Nat}{X D Y:Nat->Prop}{S:cG}{s:eT}{lv hv:aL1}(h:eC n0 w q p X D Y S s lv hv){i:Nat}(hi:i<s.hv.length):
 ∃hb c rest,hv= .slice (some ⟨hb,0,none⟩) s.hv.length c/\Y hb/\hb≠q/\bD w hb (s.hv.map Value.bool++rest)/\∀{w':aL0} {z:Bool},bD w' hb ((s.hv.map Value.bool++rest).set i (.bool z))->aL w w' (λy=>y=hb)->eC n0 w' q p X D Y S {s with hv:=s.hv.set i z} lv hv:=by
 rcases h.hv.2 with⟨_,h0⟩|⟨hb,c,rest,hhv,⟨hbY,hbq⟩,o,ol,oc⟩
 .omega
 refine⟨hb,c,rest,hhv,hbY,hbq,o,λ{w' z} o' x=> ?_⟩
 have hg:=h.g0
 have hn:=h.lo hb (.inr hbY)
 have hd:=h.yd hb hbY
 refine⟨h.glob.extM x (by omega) (by omega),h.g0,h.lo,aK5 h.hi x.size,h.dsk.ext x λb hb=>hb▸hd,h.yq,h.yd,h.own.ext x (λe=>hbq e.symm),h.man,h.lv.keep (x.mono λb _ hb=> .inr (hb▸hbY)) λb hb=> .inl hb, ?_,h.ep,h.lg, ?_,h.nl⟩
 .refine ⟨by rw[aJC];simp,.inr ⟨hb,c,rest, ?_,⟨hbY,hbq⟩, ?_, ?_, ?_⟩⟩
  .rw [hhv];simp
  .rw [aLa _ _ (by rw[aJC];exact hi)]at o'
   rw[aKW];exact o'
  .rw [aJF,aJC]at ol⊢
   rw[aKr];exact ol
  .rw [aKr];exact oc
 .show (s.hv.set i z).length<=1024
  rw[aKr];exact h.hl
theorem aBX{n0 q p i s3 i4 b5 a7:Nat}{X D Y:Nat->Prop}{S:cG}{s:eT}{lv hv bv:aL1}{b:List UInt8}{w:aL0}{RR:aL1->aL0->Prop}(h:eC n0 w q p X D Y S s lv hv)(hB:GN 2 S)(hi:i<s.hv.length)(hb:Bs w bv b)(hbl:b.length<=1000000)
 (hbn:¬fK bv (λy=>X y∨Y y)) (hlg:s.log+13<=1000000000) (hpi:s.man.part*i<=1000000000) (o3:bD w s3 [dP q]) (o4:bD w i4 [.int .i64 (i:Nat)]) (o5:bD w b5 [bv]) (o7:bD w a7 [.int .u64 ((s.man.part*i:Nat):Int)])
 (m3:¬(X s3∨Y s3)) (m4:¬(X i4∨Y i4)) (m5:¬(X b5∨Y b5)) (m7:¬(X a7∨Y a7))
 (hR:∀w',bY n0 w q p X D Y (fD aY S s i b).1 {(fD aY S s i b).2.1 with err:=(fD aY S s i b).2.2,hv:=(fD aY S s i b).2.1.hv.set i ((fD aY S s i b).2.2==0)} w'->RR (.int .i64 (fD aY S s i b).2.2) w'):
 pI RR (.pointer (some ⟨s3,0,none⟩)) (.pointer (some ⟨i4,0,none⟩)) (.pointer (some ⟨b5,0,none⟩)) (.pointer (some ⟨a7,0,none⟩)) w:=by
 unfold pI
 have hd:=h.new (aL.dr w aT)
 obtain⟨c0,c1,c2,c3,c4,c5,c6,c7,c8,c9⟩:=hd.cells
 have k3:=(dB o3).cell (off:=0)
 simp only[aJD]at k3
 have f1:=λw=>RV (P:=pg) (f:=nN) [] [.pointer (some ⟨s3,0,none⟩),.pointer (some ⟨a7,0,none⟩),.pointer (some ⟨b5,0,none⟩)] w
 have f2:=λw=>RV (P:=pg) (f:=dQ) [dP p] [] w
 have f3:=λw=>RV (P:=pg) (f:=nO) [] [.pointer (some ⟨s3,0,none⟩),.pointer (some ⟨i4,0,none⟩)] w
 simp(disch:=omega)only[SV,k3,c0,f1,f2,f3]
 obtain⟨fs,hfs⟩:∃fs:List aL1,fs=[.func (.func nN) #[] #[.pointer (some ⟨s3,0,none⟩),.pointer (some ⟨a7,0,none⟩),.pointer (some ⟨b5,0,none⟩)],.func (.func dQ) #[dP p] #[],.func (.func nO) #[] #[.pointer (some ⟨s3,0,none⟩),.pointer (some ⟨i4,0,none⟩)],.func (.func dQ) #[dP p] #[]]:=⟨_,rfl⟩
 refine CU (cells:=fs.toArray) (by decide) (by decide) (by rw[hfs];kernel_rfl) λw1 o1 x1 s1=> ?_
 have o1:bD w1 (dr w).heap.size fs:=o1
 obtain⟨bb,hbb⟩:∃bb,bb=(dr w).heap.size:=⟨_,rfl⟩
 rw[<-hbb]at o1⊢
 have hw0:bb=w.heap.size:=hbb
 have x01:aL w w1 aT:=(aL.dr w _).seq x1
 have h1:=h.new x01
 have mb:¬(X bb∨Y bb):=λhx=>by have:=eC.lt h bb hx;omega
 have o3:=o3.ext x01 (λh=>h)
 have o4:=o4.ext x01 (λh=>h)
 have o5:=o5.ext x01 (λh=>h)
 have o7:=o7.ext x01 (λh=>h)
 have hb1:=hb.ext x01 (bC _)
 obtain⟨A1,hA1⟩:∃A1,A1=zU S (aZ s.nm) (s.man.part*i:Nat) b:=⟨_,rfl⟩
 have hB1:GN 1 A1.1:=hA1▸awZ hB
 obtain⟨A2,hA2⟩:∃A2,A2=AP A1.1:=⟨_,rfl⟩
 have hB2:GN 1 A2.1:=hA2▸aGu hB1
 obtain⟨A3,hA3⟩:∃A3,A3=bZ aY A2.1 s 2 i:=⟨_,rfl⟩
 have hB3:GN 0 A3.1:=hA3▸aD5 hB2
 obtain⟨A4,hA4⟩:∃A4,A4=AP A3.1:=⟨_,rfl⟩
 have hch:fD aY S s i b=if A1.2≠0 then(A1.1,s,A1.2)else if A2.2≠0 then(A2.1,s,A2.2)else if A3.2.2≠0 then(A3.1,A3.2.1,A3.2.2)else(A4.1,A3.2.1,A4.2):=by
  unfold fD
  simp only[<-hA1,<-hA2,<-hA3,<-hA4]
 obtain⟨C,hC⟩:∃C,C=fD aY S s i b:=⟨_,rfl⟩
 rw[<-hC]at hch hR
 let J:Nat->aL0->Prop:=λk w'=>match k with
  |0=>bY n0 w1 q p X D Y S s w'
  |1=>A1.2=0/\bY n0 w1 q p X D Y A1.1 s w'
  |2=>A1.2=0/\A2.2=0/\bY n0 w1 q p X D Y A2.1 s w'
  |3=>A1.2=0/\A2.2=0/\A3.2.2=0/\bY n0 w1 q p X D Y A3.1 A3.2.1 w'
  |_=>C.2.2=0/\bY n0 w1 q p X D Y C.1 C.2.1 w'
 let E:Int->aL0->Prop:=λe w'=>C.2.2=e/\bY n0 w1 q p X D Y C.1 C.2.1 w'
 have hJown:∀k w',J k w'->∃S' s',bY n0 w1 q p X D Y S' s' w':=λk w' hk=>by
  match k,hk with
  |0,hk=>exact⟨_,_,hk⟩
  |1,hk=>exact⟨_,_,hk.2⟩
  |2,hk=>exact⟨_,_,hk.2.2⟩
  |3,hk=>exact⟨_,_,hk.2.2.2⟩
  |n+4,hk=>exact⟨_,_,hk.2⟩
 have hmain:=aAt (fs:=fs) (b:=bb) (c:=4) (w:=w1) J E (by rw[hfs];simp) (bY.refl h1) (λk w' hk=>by
  obtain⟨_,_,hp⟩:=hJown k w' hk
  exact hp.keep o1 mb) ?hs
 case hs=>
  intro k w' f hf hk
  rw[hfs]at hf
  match k,hf,hk with
  |0,hf,hk=>
   simp only[aJD,aKc]at hf
   rw[<-hf,Tq Tryz.func45 (by kernel_rfl) (by kernel_rfl)]
   show aG pg nN #[.pointer (some ⟨s3,0,none⟩),.pointer (some ⟨a7,0,none⟩),.pointer (some ⟨b5,0,none⟩)] w' _
   have hk:bY n0 w1 q p X D Y S s w':=hk
   refine OL ?_
   unfold KC Gc
   have e3:=(dB (hk.keep o3 m3)).cell (off:=0)
   have e7:=(dB (hk.keep o7 m7)).cell (off:=0)
   have e5:=(dB (hk.keep o5 m5)).cell (off:=0)
   simp only[aJD]at e3 e7 e5
   obtain⟨X',D',Y',lv',hv',g1,hX,hD,hY,gx⟩:=hk
   have g1d:=g1.new (aL.dr w' aT)
   obtain⟨d0,d1,d2,d3,d4,d5,d6,d7,d8,d9⟩:=g1d.cells
   have ct:=LX h.nl
   have ew:IntKind.i64.wrap ((s.man.part*i:Nat):Int)=((s.man.part*i:Nat):Int):=dG (by omega) (by omega)
   have hbw:Bs (dr w') bv b:=(hb1.ext gx hbn).ext (aL.dr _ aT) (bC _)
   generalize s.man.part*i=at' at*
   obtain⟨ba,bc,rfl,_⟩:=hbw.len
   simp(disch:=omega)only[SV,e3,e7,e5,d0,d1,ct,ew]
   refine(Wz (name:=aZ s.nm) (a:=(at':Nat)) g1d.dsk hB.bd hbw (by omega) (by omega) (by omega)).mono ?_
   rintro r w2 ⟨rfl,hp⟩
   obtain⟨X2,D2,g2,hX2,hD2,gx2⟩:=g1d.disk hp
   rw[<-hA1]at g2⊢
   have hpost:bY n0 w1 q p X D Y A1.1 s w2:=bY.step (gx.seq (aL.dr _ _)) hX hD hY ⟨X2,D2,Y',_,_,g2,hX2,hD2,λ_ h=> .inl h,gx2.mono λ_ _ h=> .inl h⟩
   refine⟨_,rfl, ?_⟩
   split
   .rename_i he;exact⟨he,hpost⟩
   .rename_i he
    rw[if_pos he]at hch
    show C.2.2=_/\bY n0 w1 q p X D Y C.1 C.2.1 w2
    rw[hch]
    exact⟨rfl,hpost⟩
  |1,hf,hk=>
   simp only[aJD,aJJ,aKc]at hf
   rw[<-hf,Tq Tryz.func42 (by kernel_rfl) (by kernel_rfl)]
   show aG pg dQ #[dP p] w' _
   have hk:A1.2=0/\bY n0 w1 q p X D Y A1.1 s w':=hk
   refine(arJ hk.2 (hB1.le (by omega))).mono ?_
   rintro r w2 ⟨rfl,hp⟩
   rw[<-hA2]at hp⊢
   refine⟨_,rfl, ?_⟩
   split
   .rename_i he;exact⟨hk.1,he,hp⟩
   .rename_i he
    rw[if_neg (by rw[hk.1];decide),if_pos he]at hch
    show C.2.2=_/\bY n0 w1 q p X D Y C.1 C.2.1 w2
    rw[hch]
    exact⟨rfl,hp⟩
  |2,hf,hk=>
   simp only[aJD,aJJ,aKc]at hf
   rw[<-hf,Tq Tryz.func46 (by kernel_rfl) (by kernel_rfl)]
   show aG pg nO #[.pointer (some ⟨s3,0,none⟩),.pointer (some ⟨i4,0,none⟩)] w' _
   have hk:A1.2=0/\A2.2=0/\bY n0 w1 q p X D Y A2.1 s w':=hk
   refine OM ?_
   unfold KD Ge
   have e3:=(hk.2.2.keep o3 m3).cell (off:=0)
   have e4:=(hk.2.2.keep o4 m4).cell (off:=0)
   simp only[aJD]at e3 e4
   have hi':=h.hl
   have ew:IntKind.u64.wrap (i:Int)=(i:Int):=gX (by omega) (by omega)
   simp(disch:=omega)only[SV,e3,e4,ew]
   obtain⟨X',D',Y',lv',hv',g1,hX,hD,hY,gx⟩:=hk.2.2
   refine(avC (k:=2) (v:=i) g1 hB2 (.inr rfl) (by omega) hlg).mono ?_
   rintro r w2 ⟨rfl,hp⟩
   rw[<-hA3]at hp⊢
   have hpost:=bY.step gx hX hD hY hp
   refine⟨_,rfl, ?_⟩
   split
   .rename_i he;exact⟨hk.1,hk.2.1,he,hpost⟩
   .rename_i he
    rw[if_neg (by rw[hk.1];decide),if_neg (by rw[hk.2.1];decide),if_pos he]at hch
    show C.2.2=_/\bY n0 w1 q p X D Y C.1 C.2.1 w2
    rw[hch]
    exact⟨rfl,hpost⟩
  |3,hf,hk=>
   simp only[aJD,aJJ,aKc]at hf
   rw[<-hf,Tq Tryz.func42 (by kernel_rfl) (by kernel_rfl)]
   show aG pg dQ #[dP p] w' _
   have hk:A1.2=0/\A2.2=0/\A3.2.2=0/\bY n0 w1 q p X D Y A3.1 A3.2.1 w':=hk
   refine(arJ hk.2.2.2 hB3).mono ?_
   rintro r w2 ⟨rfl,hp⟩
   rw[<-hA4]at hp⊢
   rw[if_neg (by rw[hk.1];decide),if_neg (by rw[hk.2.1];decide),if_neg (by rw[hk.2.2.1];decide)]at hch
   refine⟨_,rfl, ?_⟩
   have hE:C.2.2=A4.2/\bY n0 w1 q p X D Y C.1 C.2.1 w2:=by rw[hch];exact⟨rfl,hp⟩
   split
   .rename_i he;exact⟨hE.1.trans he,hE.2⟩
   .exact hE
  |n+4,hf,hk=>simp at hf
 rw[show fs.length=4 from by rw[hfs]<;>rfl]at hmain
 have k3':=(o3).cell (off:=0)
 simp only[aJD]at k3'
 simp(disch:=omega)only[SV,k3']
 refine hmain.mono ?_
 rintro r w2 ⟨e,rfl,he⟩
 have hfin:C.2.2=e/\bY n0 w1 q p X D Y C.1 C.2.1 w2:=by
  split at he
  .rename_i h0;rw[h0];exact he
  .exact he
 clear he hmain
 obtain⟨rfl,hp⟩:=hfin
 have q3:=(hp.keep o3 m3).cell (off:=0)
 simp only[aJD]at q3
 obtain⟨X2,D2,Y2,lv2,hv2,h2,hX2,hD2,hY2,x2⟩:=id hp
 have hChv:C.2.1.hv=s.hv:=by rw[hC];exact asM
 have l1:w.heap.size<=w1.heap.size:=x01.size
 have notin:∀{y:Nat},y<w1.heap.size->¬(X y∨Y y)->¬(X2 y∨Y2 y):=λ{y} hy hn h=>by
  rcases h with h|h
  .rcases hX2 y h with h|h
   .exact hn (.inl h)
   .omega
  .rcases hY2 y h with h|h
   .exact hn (.inr h)
   .omega
 simp(disch:=omega)only[SV,q3]
 refine vC h2.own rfl (by simp) λw3 q3' x3 zz3=> ?_
 have h3:=h2.set (s':={C.2.1 with err:=C.2.2}) x3 q3' rfl rfl rfl h2.ep h2.lg
 have x3Y:aL w2 w3 (λb=>X2 b∨Y2 b):=x3.mono λy _ hy=> .inr (hy▸h2.yq)
 have h3d:=h3.new (aL.dr w3 aT)
 obtain⟨d0,d1,d2,d3,d4,d5,d6,d7,d8,d9⟩:=h3d.cells
 obtain⟨hb,c,rest,hhv,hbY,hbq,oh,hset⟩:=h3d.setHv (i:=i) (by show i<C.2.1.hv.length;rw[hChv];exact hi)
 have hlen:({C.2.1 with err:=C.2.2}:eT).hv.length=s.hv.length:=by show C.2.1.hv.length=_;rw[hChv]
 rw[hlen]at hhv
 subst hhv
 have e3:w3.cell? ⟨s3,0,none⟩=some (dP q):=(((hp.keep o3 m3).ext x3Y (notin o3.lt m3))).cell (off:=0)
 have e4:w3.cell? ⟨i4,0,none⟩=some (.int .i64 (i:Nat)):=(((hp.keep o4 m4).ext x3Y (notin o4.lt m4))).cell (off:=0)
 have e3d:(dr w3).cell? ⟨s3,0,none⟩=some (dP q):=e3
 have e4d:(dr w3).cell? ⟨i4,0,none⟩=some (.int .i64 (i:Nat)):=e4
 simp(disch:=omega)only[SV,e3d,e4d,d6,d9]
 refine vD oh rfl (by rw[aJF,aJC,hlen];omega) λw4 o4' x4 zz4=> ?_
 have h4:=hset o4' x4
 obtain⟨g0,g1,g2,g3,g4,g5,g6,g7,g8,g9⟩:=h4.cells
 have e34:w4.cell? ⟨s3,0,none⟩=some (dP q):=by
  have hk:=((dB ((hp.keep o3 m3).ext x3Y (notin o3.lt m3))).ext x4 (λe=>(notin o3.lt m3) (.inr (e▸hbY))))
  exact hk.cell (off:=0)
 simp(disch:=omega)only[SV,e34,g9]
 refine hR w4 (bY.step (x01.mono λ_ _ h=>h.elim) (λ_ h=> .inl h) (λ_ h=>h) (λ_ h=> .inl h) ⟨X2,D2,Y2,_,_,h4,hX2,hD2,hY2, ?_⟩)
 refine(x2.trans x3Y λy hy h=> ?_).trans ((aL.dr w3 _).seq x4) λy hy h=> ?_
 .rcases h with h|h
  .rcases hX2 y h with h|h
   .exact .inl h
   .omega
  .rcases hY2 y h with h|h
   .exact .inr h
   .omega
 .rcases hY2 y (h▸hbY)with h|h
  .exact .inr h
  .omega
theorem aEr{n0 q p:Nat}{i:Int}{X D Y:Nat->Prop}{S:cG}{s:eT}{lv hv bv:aL1}{b:List UInt8}{w:aL0}(h:eC n0 w q p X D Y S s lv hv)(hB:GN 2 S)(hlen:s.hv.length=s.man.leaves.length)(hb:Bs w bv b)(hbl:b.length<=1000000)
 (hbn:¬fK bv (λy=>X y∨Y y)) (hlg:s.log+13<=1000000000) (hi64: -9223372036854775808<=i/\i<=9223372036854775807):
 aG pg eF #[dP q,.int .i64 i,bv] w (λr w'=>r= .int .i64 (yT aX aY S s i b).2.2/\bY n0 w q p X D Y (yT aX aY S s i b).1 (yT aX aY S s i b).2.1 w'):=by
 refine SZ ?_
 obtain⟨RR,hRR⟩:∃RR:aL1->aL0->Prop,RR=λr w'=>r= .int .i64 (yT aX aY S s i b).2.2/\bY n0 w q p X D Y (yT aX aY S s i b).1 (yT aX aY S s i b).2.1 w':=⟨_,rfl⟩
 rw[<-hRR]
 unfold Ps Jy Jx
 refine cA λw1 o1 x1 s1=> ?_
 refine cA λw2 o2 x2 s2=> ?_
 refine cA λw3 o3 x3 s3=> ?_
 have hlt0:=λy hy=>eC.lt h y hy
 generalize hn:w.heap.size=n at*
 rw[s1]at o2
 rw[show w2.heap.size=n+2 from by omega]at o3⊢
 rw[s1]
 have o1:bD w3 n [dP q]:=((bD.ext (cs:=[dP q]) o1 x2 (λh=>h)).ext x3 (λh=>h))
 have o2:bD w3 (n+1) [.int .i64 i]:=bD.ext (cs:=[.int .i64 i]) o2 x3 (λh=>h)
 have o3:bD w3 (n+2) [bv]:=by
  obtain⟨ba,bc,rfl,_⟩:=hb.len
  exact o3
 have x03:aL w w3 aT:=(x1.seq x2).seq x3
 have h3:=h.new x03
 have hb3:=hb.ext x03 (bC _)
 have z3:w3.heap.size=n+3:=by omega
 clear x1 x2 x3
 have c1:=o1.cell (off:=0)
 have c2:=o2.cell (off:=0)
 have c3:=o3.cell (off:=0)
 simp only[aJD]at c1 c2 c3
 have x03':aL w w3 (λy=>X y∨Y y):=x03.mono λ_ _ h=>h.elim
 have stay:∀{w':aL0} {e:Int},aL w3 w' aT->yT aX aY S s i b=(S,s,e)->RR (.int .i64 e) w':=λ{w' e} x he=>by
  rw[hRR,he]
  exact⟨rfl,bY.step x03' (λ_ h=> .inl h) (λ_ h=>h) (λ_ h=> .inl h) (bY.step (x.mono λ_ _ h=>h.elim) (λ_ h=> .inl h) (λ_ h=>h) (λ_ h=> .inl h) (bY.refl (h3.new x)))⟩
 simp(disch:=omega)only[SV,c1]
 refine(YA h3).mono ?_
 rintro r w4 ⟨rfl,hw⟩
 rw[hw];clear hw w4
 by_cases he:s.err=0
 rotate_left
 .have n1:(s.err !=0)=true:=bne_iff_ne.2 he
  simp(disch:=omega)only[SV,n1,c1]
  refine(YA h3).mono ?_
  rintro r w4 ⟨rfl,hw⟩
  rw[hw];clear hw w4
  exact stay (aL.refl _ _) (by unfold yT;rw[if_pos he])
 have n1:(s.err !=0)=false:=bne_eq_false_iff_eq.2 he
 have P1:yT aX aY S s i b=if i<0∨(s.hv.length:Int)<=i then(S,s,17)else if s.fin||s.hv.getD i.toNat false then(S,s,0)else if wT aX s.man i.toNat b=false then(S,s,13)else((fD aY S s i.toNat b).1,{(fD aY S s i.toNat b).2.1 with err:=(fD aY S s i.toNat b).2.2,hv:=(fD aY S s i.toNat b).2.1.hv.set i.toNat ((fD aY S s i.toNat b).2.2==0)},(fD aY S s i.toNat b).2.2):=by
  unfold yT
  rw[if_neg (by rw[he];decide)]
 have h3d:=h3.new (aL.dr w3 aT)
 obtain⟨d0,d1,d2,d3,d4,d5,d6,d7,d8,d9⟩:=h3d.cells
 obtain⟨ha,hc,hhv⟩:=yQ h3.hv
 rw[hhv]at d6
 have c1d:(dr w3).cell? ⟨n,0,none⟩=some (dP q):=c1
 have c2d:(dr w3).cell? ⟨n+1,0,none⟩=some (.int .i64 i):=c2
 have hx1:aL w3 (dr w3) aT:=aL.dr _ _
 by_cases hneg:i<0
 .have q1:decide (i<0)=true:=decide_eq_true hneg
  rw[if_pos (.inl hneg)]at P1
  simp(disch:=omega)only[SV,n1,c2d,q1]
  exact stay hx1 P1
 have q1:decide (i<0)=false:=decide_eq_false hneg
 obtain⟨j,rfl⟩:∃j:Nat,i=j:=⟨i.toNat,by omega⟩
 rw[aJI]at P1
 by_cases hge:s.hv.length<=j
 .have q2:decide (((s.hv.length:Nat):Int)<=(j:Int))=true:=by simp;omega
  rw[if_pos (.inr (by omega))]at P1
  simp(disch:=omega)only[SV,n1,c2d,q1,c1d,d6,q2]
  exact stay hx1 P1
 have q2:decide (((s.hv.length:Nat):Int)<=(j:Int))=false:=by simp;omega
 rw[if_neg (by omega)]at P1
 have hj:j<s.hv.length:=by omega
 have hx2:aL w3 (dr (dr w3)) aT:=hx1.seq (aL.dr _ _)
 have h3e:=h3.new hx2
 obtain⟨e0,e1,e2,e3,e4,e5,e6,e7,e8,e9⟩:=h3e.cells
 rw[hhv]at e6
 have c1e:(dr (dr w3)).cell? ⟨n,0,none⟩=some (dP q):=c1
 have c2e:(dr (dr w3)).cell? ⟨n+1,0,none⟩=some (.int .i64 (j:Nat)):=c2
 have c3e:(dr (dr w3)).cell? ⟨n+2,0,none⟩=some bv:=c3
 cases hfin:s.fin with
 |true=>
  rw[hfin]at e8 P1
  rw[Bool.true_or,if_pos rfl]at P1
  simp(disch:=omega)only[SV,n1,c2d,q1,c1d,d6,q2,c1e,e8]
  exact stay hx2 P1
 |false=>
  rw[hfin]at e8 P1
  rw[aLi]at P1
  obtain⟨sa,so,sc,hsv,hcell⟩:=awC (show Sl (dr (dr w3)) hv (s.hv.map Value.bool)from Vz h3e.hv) hj
  rw[hhv]at hsv
  cases hsv
  cases hvj:s.hv.getD j false with
  |true=>
   rw[hvj]at hcell P1
   rw[if_pos rfl]at P1
   simp(disch:=omega)only[SV,n1,c2d,q1,c1d,d6,q2,c1e,e8,e6,c2e,hcell]
   exact stay hx2 P1
  |false=>
   rw[hvj]at hcell P1
   rw[if_neg (by decide)]at P1
   simp(disch:=omega)only[SV,n1,c2d,q1,c1d,d6,q2,c1e,e8,e6,c2e,hcell,c3e]
   refine(aBd h3e (by omega) (hb3.ext hx2 (bC _)) hbl).mono ?_
   rintro r w4 ⟨rfl,x4⟩
   cases hwh:wT aX s.man j b with
   |false=>
    rw[hwh]at P1
    rw[if_pos rfl]at P1
    simp(disch:=omega)only[SV]
    exact stay (hx2.seq x4) P1
   |true=>
    rw[hwh]at P1
    rw[if_neg (by decide)]at P1
    have x34:=hx2.seq x4
    have h4:=h3.new x34
    have hm:=h.man
    have hm1:=hm.cnt
    have hm2:=hm.max
    have hm3:=hm.part
    have hm4:=hm.size
    have hpj:s.man.part*j<s.man.size:=(Bn (by omega)).1 (by omega)
    have o14:=o1.ext x34 (λh=>h)
    have o24:=o2.ext x34 (λh=>h)
    have o34:=o3.ext x34 (λh=>h)
    have z4:=x34.size
    have ew:IntKind.i64.wrap ((s.man.part:Nat):Int)=((s.man.part:Nat):Int):=dG (by omega) (by omega)
    have tail:∀{w5:aL0} {a7:Nat},aL w4 w5 aT->w4.heap.size<=a7->bD w5 a7 [.int .u64 ((s.man.part*j:Nat):Int)]->pI RR (.pointer (some ⟨n,0,none⟩)) (.pointer (some ⟨n+1,0,none⟩)) (.pointer (some ⟨n+2,0,none⟩)) (.pointer (some ⟨a7,0,none⟩)) w5:=λ{w5 a7} x ha o7=>by
     have x05:=x34.seq x
     have nin:∀y,n<=y->¬(X y∨Y y):=λy hy hm=>by have:=hlt0 y hm;omega
     refine aBX (i:=j) (h3.new x05) hB hj ((hb3.ext x34 (bC _)).ext x (bC _)) hbl hbn hlg (by omega) (o14.ext x (λh=>h)) (o24.ext x (λh=>h)) (o34.ext x (λh=>h)) o7 (nin _ (by omega)) (nin _ (by omega)) (nin _ (by omega)) (nin _ (by omega)) λw' hp=> ?_
     rw[hRR,P1]
     exact⟨rfl,bY.step (x03'.seq (x05.mono λ_ _ h=>h.elim)) (λ_ h=> .inl h) (λ_ h=>h) (λ_ h=> .inl h) hp⟩
    obtain⟨f0,f1,f2,f3,f4,f5,f6,f7,f8,f9⟩:=(h4.new (aL.dr w4 aT)).cells
    have k1:(dr w4).cell? ⟨n,0,none⟩=some (dP q):=o14.cell (off:=0)
    have k2:(dr w4).cell? ⟨n+1,0,none⟩=some (.int .i64 (j:Nat)):=o24.cell (off:=0)
    obtain⟨pj,hpj'⟩:∃pj,pj=s.man.part*j:=⟨_,rfl⟩
    rw[<-hpj']at tail
    have zd:(dr w4).heap.size=w4.heap.size:=rfl
    simp(disch:=omega)only[SV]
    refine Qx ?_ ?_
    .simp (disch:=omega)only[SV,k1,k2,f2,f3,ew]
     refine(akN (by omega) hm3.1 hm3.2 hm2 (by omega)).mono ?_
     rintro r w5 ⟨rfl,hw⟩
     rw[hw];clear hw w5
     rw[<-hpj']
     simp(disch:=omega)only[SV]
     refine anC λw5 o5 x5 s5=> ?_
     refine MU o5 rfl (by simp) λw6 o6 x6 s6=> ?_
     simp only[aJV]at o6
     exact tail (((aL.dr w4 _).seq x5).trans x6 λy hy h=>by omega) (aJO _) o6
    .simp (disch:=omega)only[SV,k1,k2,f2,f3,ew]
     refine anC λw5 o5 x5 s5=> ?_
     obtain⟨g0,g1,g2,g3,g4,g5,g6,g7,g8,g9⟩:=(h4.new ((aL.dr w4 aT).seq x5)).cells
     have k1':w5.cell? ⟨n,0,none⟩=some (dP q):=(o14.ext ((aL.dr w4 aT).seq x5) (λh=>h)).cell (off:=0)
     have k2':w5.cell? ⟨n+1,0,none⟩=some (.int .i64 (j:Nat)):=(o24.ext ((aL.dr w4 aT).seq x5) (λh=>h)).cell (off:=0)
     simp(disch:=omega)only[SV,k1',k2',g2,g3,ew]
     refine(akN (by omega) hm3.1 hm3.2 hm2 (by omega)).mono ?_
     rintro r w6 ⟨rfl,hw⟩
     rw[hw];clear hw w6
     rw[<-hpj']
     simp(disch:=omega)only[SV]
     refine MU o5 rfl (by simp) λw6 o6 x6 s6=> ?_
     simp only[aJV]at o6
     exact tail (((aL.dr w4 _).seq x5).trans x6 λy hy h=>by omega) (aJO _) o6
theorem eC.newHv {n0:Nat}{w w1 w2:aL0}{q p ob:Nat}{X D Y:Nat->Prop}{S:cG}{s s':eT}{lv hv:aL1}{l:List Bool}(h:eC n0 w q p X D Y S s lv hv)(x1:aL w w1 aT)(hob:w.heap.size<=ob)(o1:bD w1 ob (l.map Value.bool))(hl:l.length<=1024)
 (x2:aL w1 w2 (λy=>y=q)) (o2:bD w2 q (stC p s' lv (.slice (some ⟨ob,0,none⟩) l.length l.length))) (hm:s'.man=s.man) (hh:s'.hv=l) (hn:s'.nm=s.nm) (he:s'.epoch<18446744073709551616) (hlg:s'.log<=1000000000):
 eC n0 w2 q p X (λb=>D b∨b=ob) (λb=>Y b∨b=ob) S s' lv (.slice (some ⟨ob,0,none⟩) l.length l.length):=by
 have hlt:=eC.lt h
 have hqY:=hlt q (.inr h.yq)
 have hq:=h.yd q h.yq
 have hqn:=h.lo q (.inr h.yq)
 have hg:=h.g0
 have hhi:=h.hi
 have hol:=o1.lt
 have z1:=x1.size
 have z2:=x2.size
 have hd1:=h.dsk.more x1 hob hol
 refine⟨(h.glob.ext x1).extM x2 (by omega) (by omega),h.g0,λb hb=> ?_,by omega,hd1.ext x2 λb hb=>⟨.inl (hb▸hq.1),hb▸hq.2⟩,.inl h.yq,λb hb=> ?_,o2,hm▸h.man, ?_, ?_,he,hlg,hh▸hl,hn▸h.nl⟩
 .rcases hb with hb|hb|hb
  .exact h.lo b (.inl hb)
  .exact h.lo b (.inr hb)
  .omega
 .rcases hb with hb|hb
  .exact ⟨.inl (h.yd b hb).1,(h.yd b hb).2⟩
  .exact ⟨.inr hb,λhx=>by have:=hlt b (.inl hx);omega⟩
 .rw [hm]
  have k1:aBh w1 (λb=>X b∨Y b) lv s.man.leaves:=h.lv.keep (x1.mono λ_ _ h=>h.elim) λb hb=> .inl hb
  have k2:aBh w1 (λb=>X b∨Y b∨b=ob) lv s.man.leaves:=h.lv.keep (x1.mono λ_ _ h=>h.elim) λb hb=>by
   rcases hb with hb|hb|hb
   .exact .inl (.inl hb)
   .exact .inl (.inr hb)
   .exact .inr (by omega)
  exact k2.keep (x2.mono λb _ hb=> .inr (.inl (hb▸h.yq))) λb hb=> .inl hb
 .rw [hh]
  refine⟨by rw[aJC];simp,.inr ⟨ob,l.length,[],rfl,⟨.inr rfl,by omega⟩, ?_,by simp,aJO _⟩⟩
  rw[aKf]
  exact o1.ext x2 (by omega)
theorem aCW{n0 q p:Nat}{X D Y:Nat->Prop}{S:cG}{s:eT}{lv hv:aL1}{w:aL0}(h:eC n0 w q p X D Y S s lv hv)(hB:GN 2 S)(hbp:∀b,bF (aZ s.nm) S.seen=some b->b.length<=1000000):
 aG pg gK #[dP q] w (λr w'=>r= .int .i64 (dV aX S s).2.2/\bY n0 w q p X D Y (dV aX S s).1 (dV aX S s).2.1 w'):=by
 refine MW ?_
 obtain⟨RR,hRR⟩:∃RR:aL1->aL0->Prop,RR=λr w'=>r= .int .i64 (dV aX S s).2.2/\bY n0 w q p X D Y (dV aX S s).1 (dV aX S s).2.1 w':=⟨_,rfl⟩
 rw[<-hRR]
 unfold Jv DV
 refine cA λw1 o1 x1 s1=> ?_
 have hlt0:=λy hy=>eC.lt h y hy
 generalize hn:w.heap.size=n at*
 have o1:bD w1 n [dP q]:=o1
 have h1:=h.new x1
 have c1:=o1.cell (off:=0)
 simp only[aJD]at c1
 have x01:aL w w1 (λy=>X y∨Y y):=x1.mono λ_ _ h=>h.elim
 have stay:∀{w':aL0} {e:Int},aL w1 w' aT->dV aX S s=(S,s,e)->RR (.int .i64 e) w':=λ{w' e} x he=>by
  rw[hRR,he]
  exact⟨rfl,bY.step x01 (λ_ h=> .inl h) (λ_ h=>h) (λ_ h=> .inl h) (bY.step (x.mono λ_ _ h=>h.elim) (λ_ h=> .inl h) (λ_ h=>h) (λ_ h=> .inl h) (bY.refl (h1.new x)))⟩
 obtain⟨d0,d1,d2,d3,d4,d5,d6,d7,d8,d9⟩:=h1.cells
 simp(disch:=omega)only[SV,c1]
 refine(YA h1).mono ?_
 rintro r w2 ⟨rfl,hw⟩
 rw[hw];clear hw w2
 by_cases he:s.err=0
 rotate_left
 .have n1:(s.err !=0)=true:=bne_iff_ne.2 he
  simp(disch:=omega)only[SV,n1,c1]
  refine(YA h1).mono ?_
  rintro r w2 ⟨rfl,hw⟩
  rw[hw];clear hw w2
  exact stay (aL.refl _ _) (by unfold dV;rw[if_pos he])
 have n1:(s.err !=0)=false:=bne_eq_false_iff_eq.2 he
 cases hfin:s.fin with
 |true=>
  rw[hfin]at d8
  simp(disch:=omega)only[SV,n1,c1,d8]
  exact stay (aL.refl _ _) (by unfold dV;rw[if_neg (by rw[he];decide),hfin,if_pos rfl])
 |false=>
  rw[hfin]at d8
  have C1:dV aX S s=if Ae s.hv=false then(S,s,30)else if S.down then(S,{s with err:=20},20)else match bF (aZ s.nm) S.seen with
   |none=>(S,{s with err:=21},21)
   |some b=>if Ae (bQ aX s.man b)=false then(S,{s with hv:=bQ aX s.man b},13)else
    (if(JX S (aZ s.nm) s.nm).2≠0 then((JX S (aZ s.nm) s.nm).1,{s with hv:=bQ aX s.man b,err:=(JX S (aZ s.nm) s.nm).2,fin:=false},(JX S (aZ s.nm) s.nm).2)else
     ((AP (JX S (aZ s.nm) s.nm).1).1,{s with hv:=bQ aX s.man b,err:=(AP (JX S (aZ s.nm) s.nm).1).2,fin:=(AP (JX S (aZ s.nm) s.nm).1).2==0},(AP (JX S (aZ s.nm) s.nm).1).2)):=by
   unfold dV
   exact(if_neg (by rw[he];decide)).trans ((if_neg (by rw[hfin];decide)).trans rfl)
  simp(disch:=omega)only[SV,n1,c1,d8,d6]
  refine(akS (Vz h1.hv) (by have:=h.hl;omega)).mono ?_
  rintro r w2 ⟨rfl,hw⟩
  rw[hw];clear hw w2
  have hall:(!s.hv.contains false)=Ae s.hv:=rfl
  rw[hall]
  cases hab:Ae s.hv with
  |false=>
   rw[if_pos hab]at C1
   simp(disch:=omega)only[SV]
   exact stay (aL.refl _ _) C1
  |true=>
   rw[if_neg (by rw[hab];decide)]at C1
   have hd:=h1.new (aL.dr w1 aT)
   obtain⟨e0,e1,e2,e3,e4,e5,e6,e7,e8,e9⟩:=hd.cells
   have c1d:(dr w1).cell? ⟨n,0,none⟩=some (dP q):=c1
   have ct:=LX h.nl
   simp(disch:=omega)only[SV,c1d,e0,e1,ct]
   refine(afN (name:=aZ s.nm) hd.dsk hB.bd (λb hb=>hB.file hb)).mono ?_
   rintro r w2 ⟨hr,x2⟩
   have x12:aL w1 w2 aT:=(aL.dr w1 _).seq x2
   have h2:=h1.new x12
   have c2:w2.cell? ⟨n,0,none⟩=some (dP q):=(o1.ext x12 (λh=>h)).cell (off:=0)
   have x02:aL w w2 (λy=>X y∨Y y):=x01.seq (x12.mono λ_ _ h=>h.elim)
   have bad:∀{e:Int},dV aX S s=(S,{s with err:=e},e)->aA pg (aF 31 (.pointer (some ⟨q,9,none⟩)) (.int .i64 e)) w2 λ_u w=>RR (.int .i64 e) w:=λ{e} hC=>by
    refine vC h2.own rfl (by simp) λw3 o3 x3 z3=> ?_
    have h3:=h2.set (s':={s with err:=e}) x3 o3 rfl rfl rfl h.ep h.lg
    rw[hRR,hC]
    exact⟨rfl,bY.step x02 (λ_ h=> .inl h) (λ_ h=>h) (λ_ h=> .inl h) ⟨X,D,Y,_,_,h3,λ_ h=> .inl h,λ_ h=>h,λ_ h=> .inl h,x3.mono λy _ hy=> .inr (hy▸h.yq)⟩⟩
   rcases hr with⟨hdn,rfl⟩|⟨hdn,hg,rfl⟩|⟨hdn,b,v,hg,rfl,ho⟩
   .rw [if_pos hdn]at C1
    have n2:((20:Int) !=0)=true:=rfl
    have:=bad C1
    simp(disch:=omega)only[SV,n2,c2]
    exact this
   .rw [if_neg (by rw[hdn];decide),hg]at C1
    have n2:((21:Int) !=0)=true:=rfl
    have:=bad C1
    simp(disch:=omega)only[SV,n2,c2]
    exact this
   rw[if_neg (by rw[hdn];decide),hg]at C1
   have C1:dV aX S s=if Ae (bQ aX s.man b)=false then(S,{s with hv:=bQ aX s.man b},13)else
    (if(JX S (aZ s.nm) s.nm).2≠0 then((JX S (aZ s.nm) s.nm).1,{s with hv:=bQ aX s.man b,err:=(JX S (aZ s.nm) s.nm).2,fin:=false},(JX S (aZ s.nm) s.nm).2)else
     ((AP (JX S (aZ s.nm) s.nm).1).1,{s with hv:=bQ aX s.man b,err:=(AP (JX S (aZ s.nm) s.nm).1).2,fin:=(AP (JX S (aZ s.nm) s.nm).1).2==0},(AP (JX S (aZ s.nm) s.nm).1).2)):=C1
   have n2:((0:Int) !=0)=false:=rfl
   have h2d:=h2.new (aL.dr w2 aT)
   have c2d:(dr w2).cell? ⟨n,0,none⟩=some (dP q):=c2
   have hvb:Bs (dr w2) v b:=(show Bs w2 v b from ho.sl).ext (aL.dr w2 aT) (bC _)
   simp(disch:=omega)only[SV,n2,c2d]
   refine(alB h2d hvb (hbp b hg)).mono ?_
   rintro r w3 ⟨ob,rfl,hob,oo,x3⟩
   have x23:aL w2 w3 aT:=(aL.dr w2 _).seq x3
   have c3:w3.cell? ⟨n,0,none⟩=some (dP q):=((o1.ext x12 (λh=>h)).ext x23 (λh=>h)).cell (off:=0)
   obtain⟨W,hW⟩:∃W,W=bQ aX s.man b:=⟨_,rfl⟩
   have hWl:W.length=s.man.leaves.length:=by rw[hW];unfold bQ;simp
   rw[<-hW]at oo C1
   rw[<-hWl]
   have hob2:w2.heap.size<=ob:=hob
   have hmx:=h.man.max
   have hmc:=h.man.cnt
   simp(disch:=omega)only[SV,c3]
   refine EL ((h2.new x23).own) rfl (by simp) λw4 o4 x4 z4=> ?_
   have h4:=h2.newHv (s':={s with hv:=W}) x23 hob2 oo (by omega) x4 o4 rfl rfl rfl h.ep h.lg
   have x04:aL w w4 (λy=>X y∨Y y):=x02.seq ((x23.mono λ_ _ h=>h.elim).seq (x4.mono λy _ hy=> .inr (hy▸h.yq)))
   have nq:n≠q:=λe=>by have:=hlt0 q (.inr h.yq);omega
   have o14:=((o1.ext x12 (λh=>h)).ext x23 (λh=>h)).ext x4 (λe=>nq e)
   have c4:w4.cell? ⟨n,0,none⟩=some (dP q):=o14.cell (off:=0)
   have hz2:=(x1.seq x12).size
   have hYn:∀b,(Y b∨b=ob)->Y b∨w.heap.size<=b:=λb hb=>hb.imp id λhb=>by omega
   have hDn:∀b,D b->(D b∨b=ob):=λ_ h=> .inl h
   obtain⟨g0,g1,g2,g3,g4,g5,g6,g7,g8,g9⟩:=h4.cells
   simp(disch:=omega)only[SV,c4,g6]
   refine(akS (Vz h4.hv) (by show W.length<=_;omega)).mono ?_
   rintro r w5 ⟨rfl,hw⟩
   rw[hw];clear hw w5
   have hall:(!({s with hv:=W}:eT).hv.contains false)=Ae W:=rfl
   rw[hall]
   cases hab2:Ae W with
   |false=>
    rw[if_pos hab2]at C1
    simp(disch:=omega)only[SV]
    rw[hRR,C1]
    exact⟨rfl,bY.step x04 (λ_ h=> .inl h) hDn hYn (bY.refl h4)⟩
   |true=>
    rw[if_neg (by rw[hab2];decide)]at C1
    have h4d:=h4.new (aL.dr w4 aT)
    obtain⟨f0,f1,f2,f3,f4,f5,f6,f7,f8,f9⟩:=h4d.cells
    have c4d:(dr w4).cell? ⟨n,0,none⟩=some (dP q):=c4
    have m1:=λw=>RV (P:=pg) (f:=jP) [] [.pointer (some ⟨n,0,none⟩)] w
    have m2:=λw=>RV (P:=pg) (f:=dQ) [dP p] [] w
    simp(disch:=omega)only[SV,c4d,f0,m1,m2]
    obtain⟨fs,hfs⟩:∃fs:List aL1,fs=[.func (.func jP) #[] #[.pointer (some ⟨n,0,none⟩)],.func (.func dQ) #[dP p] #[]]:=⟨_,rfl⟩
    refine CU (cells:=fs.toArray) (by decide) (by decide) (by rw[hfs];kernel_rfl) λw5 o5 x5 z5=> ?_
    obtain⟨bb,hbb⟩:∃bb,bb=w4.heap.size:=⟨_,rfl⟩
    have o5:bD w5 bb fs:=by rw[hbb];exact o5
    rw[show(dr w4).heap.size=bb from hbb.symm]
    have x45:aL w4 w5 aT:=(aL.dr w4 _).seq x5
    have h5:=h4.new x45
    have o15:=o14.ext x45 (λh=>h)
    have zz4:=x4.size
    have zz5:=x45.size
    have zz23:=x23.size
    have hlt4:=λy hy=>eC.lt h4 y hy
    have mb:¬(X bb∨(Y bb∨bb=ob)):=λhx=>by have:=hlt4 bb hx;omega
    have mn:¬(X n∨(Y n∨n=ob)):=λhx=>by
     rcases hx with hx|hx|hx
     .have:=hlt0 n (.inl hx);omega
     .have:=hlt0 n (.inr hx);omega
     .have:=x12.size;omega
    obtain⟨A1,hA1⟩:∃A1,A1=JX S (aZ s.nm) s.nm:=⟨_,rfl⟩
    have hB1:GN 1 A1.1:=hA1▸aGt hB
    obtain⟨A2,hA2⟩:∃A2,A2=AP A1.1:=⟨_,rfl⟩
    rw[<-hA1,<-hA2]at C1
    obtain⟨s',hs'⟩:∃s':eT,s'={s with hv:=W}:=⟨_,rfl⟩
    rw[<-hs']at h4 h5
    obtain⟨C,hC⟩:∃C:cG×Int,C=if A1.2≠0 then(A1.1,A1.2)else(A2.1,A2.2):=⟨_,rfl⟩
    have C2:dV aX S s=(C.1,{s' with err:=C.2,fin:=C.2==0},C.2):=by
     rw[C1,hC,hs']
     split
     .rename_i hne
      have:(A1.2==0)=false:=beq_eq_false_iff_ne.2 hne
      simp only[this]
     .rfl
    let J:Nat->aL0->Prop:=λk w'=>match k with
     |0=>bY n0 w5 q p X (λb=>D b∨b=ob) (λb=>Y b∨b=ob) S s' w'
     |1=>A1.2=0/\bY n0 w5 q p X (λb=>D b∨b=ob) (λb=>Y b∨b=ob) A1.1 s' w'
     |_=>C.2=0/\bY n0 w5 q p X (λb=>D b∨b=ob) (λb=>Y b∨b=ob) C.1 s' w'
    let E:Int->aL0->Prop:=λe w'=>C.2=e/\bY n0 w5 q p X (λb=>D b∨b=ob) (λb=>Y b∨b=ob) C.1 s' w'
    have hmain:=aAt (fs:=fs) (b:=bb) (c:=2) (w:=w5) J E (by rw[hfs];simp) (bY.refl h5) (λk w' hk=>by
     match k,hk with
     |0,hk=>exact bY.keep hk o5 mb
     |1,hk=>exact bY.keep hk.2 o5 mb
     |n+2,hk=>exact bY.keep hk.2 o5 mb) ?hs
    case hs=>
     intro k w' f hf hk
     rw[hfs]at hf
     match k,hf,hk with
     |0,hf,hk=>
      simp only[aJD,aKc]at hf
      rw[<-hf,Tq Tryz.func48 (by kernel_rfl) (by kernel_rfl)]
      show aG pg jP #[.pointer (some ⟨n,0,none⟩)] w' _
      have hk:bY n0 w5 q p X (λb=>D b∨b=ob) (λb=>Y b∨b=ob) S s' w':=hk
      refine J2 ?_
      unfold Ga Cx
      have e1:=(dB (hk.keep o15 mn)).cell (off:=0)
      simp only[aJD]at e1
      obtain⟨X',D',Y',lv',hv',g1,hX,hD,hY,gx⟩:=hk
      have g1d:=g1.new (aL.dr w' aT)
      obtain⟨k0,k1,k2,k3,k4,k5,k6,k7,k8,k9⟩:=g1d.cells
      have hnm:s'.nm=s.nm:=by rw[hs']
      rw[hnm]at k1
      simp(disch:=omega)only[SV,e1,k0,k1,ct]
      refine(aBx (old:=aZ s.nm) (name:=s.nm) g1d.dsk hB.bd).mono ?_
      rintro r w6 ⟨rfl,hp⟩
      obtain⟨X2,D2,q2,hX2,hD2,qx2⟩:=g1d.disk hp
      rw[<-hA1]at q2⊢
      have hpost:bY n0 w5 q p X (λb=>D b∨b=ob) (λb=>Y b∨b=ob) A1.1 s' w6:=bY.step (gx.seq (aL.dr _ _)) hX hD hY ⟨X2,D2,Y',_,_,q2,hX2,hD2,λ_ h=> .inl h,qx2.mono λ_ _ h=> .inl h⟩
      refine⟨_,rfl, ?_⟩
      split
      .rename_i he;exact⟨he,hpost⟩
      .rename_i he
       rw[if_pos he]at hC
       show C.2=_/\bY n0 w5 q p X (λb=>D b∨b=ob) (λb=>Y b∨b=ob) C.1 s' w6
       rw[hC]
       exact⟨rfl,hpost⟩
     |1,hf,hk=>
      simp only[aJD,aJJ,aKc]at hf
      rw[<-hf,Tq Tryz.func42 (by kernel_rfl) (by kernel_rfl)]
      show aG pg dQ #[dP p] w' _
      have hk:A1.2=0/\bY n0 w5 q p X (λb=>D b∨b=ob) (λb=>Y b∨b=ob) A1.1 s' w':=hk
      refine(arJ hk.2 (hB1.le (by omega))).mono ?_
      rintro r w6 ⟨rfl,hp⟩
      rw[<-hA2]at hp⊢
      rw[if_neg (by rw[hk.1];decide)]at hC
      have hE:C.2=A2.2/\bY n0 w5 q p X (λb=>D b∨b=ob) (λb=>Y b∨b=ob) C.1 s' w6:=by rw[hC];exact⟨rfl,hp⟩
      refine⟨_,rfl, ?_⟩
      split
      .rename_i he;exact⟨hE.1.trans he,hE.2⟩
      .exact hE
     |m+2,hf,hk=>simp at hf
    rw[show fs.length=2 from by rw[hfs]<;>rfl]at hmain
    have c5:=o15.cell (off:=0)
    simp only[aJD]at c5
    simp(disch:=omega)only[SV,c5]
    refine hmain.mono ?_
    rintro r w6 ⟨e,rfl,he⟩
    have hfin':C.2=e/\bY n0 w5 q p X (λb=>D b∨b=ob) (λb=>Y b∨b=ob) C.1 s' w6:=by
     split at he
     .rename_i h0;rw[h0];exact he
     .exact he
    clear he hmain
    obtain⟨rfl,hp⟩:=hfin'
    have c6:=(hp.keep o15 mn).cell (off:=0)
    simp only[aJD]at c6
    have o16:=hp.keep o15 mn
    obtain⟨X2,D2,Y2,lv2,hv2,h6,hX2,hD2,hY2,x6⟩:=id hp
    simp(disch:=omega)only[SV,c6]
    refine vC h6.own rfl (by simp) λw7 o7 x7 z7=> ?_
    have h7:=h6.set (s':={s' with err:=C.2}) x7 o7 rfl rfl rfl h6.ep h6.lg
    have n2':¬n=q:=nq
    have o17:=o16.ext x7 n2'
    have h7d:=h7.new (aL.dr w7 aT)
    obtain⟨k0,k1,k2,k3,k4,k5,k6,k7,k8,k9⟩:=h7d.cells
    have c7d:(dr w7).cell? ⟨n,0,none⟩=some (dP q):=(dB o17).cell (off:=0)
    simp(disch:=omega)only[SV,c7d,k9]
    refine vD h7d.own rfl (by simp) λw8 o8 x8 z8=> ?_
    have h8:=h7d.set (s':={s' with err:=C.2,fin:=C.2==0}) x8 o8 rfl rfl rfl h6.ep h6.lg
    have c8:w8.cell? ⟨n,0,none⟩=some (dP q):=((dB o17).ext x8 n2').cell (off:=0)
    obtain⟨j0,j1,j2,j3,j4,j5,j6,j7,j8,j9⟩:=h8.cells
    simp(disch:=omega)only[SV,c8,j9]
    rw[hRR,C2]
    refine⟨rfl,bY.step x04 (λ_ h=> .inl h) hDn hYn (bY.step (x45.mono λ_ _ h=>h.elim) (λ_ h=> .inl h) (λ_ h=>h) (λ_ h=> .inl h) ⟨X2,D2,Y2,_,_,h8,hX2,hD2,hY2, ?_⟩)⟩
    refine(x6.trans x7 λy hy h=> ?_).trans ((aL.dr w7 _).seq x8) λy hy h=> ?_
    .exact .inr (.inl (h▸h4.yq.elim id λe=>by rw[e]at nq;have:=hlt0 q (.inr h1.yq);omega))
    .exact .inr (.inl (h▸h1.yq))
def fU(S:cG)(s:eT):cG×eT×Int×List (Nat×Nat):=
 if(bS S (cZ s.nm)).2.2≠0 then(S,s,(bS S (cZ s.nm)).2.2,[])else
 if dU 1 (gB aY (bS S (cZ s.nm)).1)=18446744073709551615 then(S,s,23,[])else
 let q:=bZ aY S {s with epoch:=dU 1 (gB aY (bS S (cZ s.nm)).1)+1,log:=13*(gB aY (bS S (cZ s.nm)).1).length} 1 (dU 1 (gB aY (bS S (cZ s.nm)).1)+1)
 (q.1,q.2.1,q.2.2,gB aY (bS S (cZ s.nm)).1)
theorem aAw{w w':aL0}{S:Nat->Prop}{sz n:Nat}{v:aL1}{l:List aL1}{T:Nat->Prop}(h:DJ w S sz v n l)(hT:∀b,S b->b<w.heap.size->¬T b):¬fK v T:=by
 intro hi
 rcases h.2 with⟨rfl,_⟩|⟨b,c,rest,rfl,g2,g3,_⟩
 .exact hi
 .unfold fK at hi
  split at hi
  .rename_i e
   simp only[Value.slice.injEq,aKc]at e
   obtain⟨rfl,_⟩:=e
   exact hT _ g2 g3.lt hi
  .exact hi
theorem ayJ{w:aL0}{S:Nat->Prop}{sz n:Nat}{v:aL1}{l:List aL1}(h:DJ w S sz v n l):Cl w sz v n l:=by
 rcases h.2 with⟨rfl,h0⟩|⟨b,c,rest,rfl,g2,g3,g4,g5⟩
 .exact ⟨_,_,by rw[h0],h.1,λh=>by omega⟩
 .refine ⟨_,_,rfl,h.1,λ_=>⟨b,0,rfl,λi hi=> ?_⟩⟩
  rw[aJG,g3.cell,aJ0 hi]
theorem aCQ{n0 q p:Nat}{X D Y:Nat->Prop}{S:cG}{s:eT}{lv hv:aL1}{w:aL0}(h:eC n0 w q p X D Y S s lv hv)(hB:GN 1 S)(hbl:∀b,bF (cZ s.nm) S.seen=some b->b.length<=1000000):
 aG pg mD #[dP q] w (λr w'=>∃o X' D' Y' lv' hv',r= .tuple #[o,.int .i64 (fU S s).2.2.1]/\eC n0 w' q p X' D' Y' (fU S s).1 (fU S s).2.1 lv' hv'/\(∀b,X' b->X b∨w.heap.size<=b)/\(∀b,D b->D' b)/\(∀b,Y' b->Y b∨w.heap.size<=b)/\aL w w' (λb=>X b∨Y b)/\
  Cl w' 2 o (fU S s).2.2.2.length ((fU S s).2.2.2.flatMap qD)/\¬fK o (λb=>X' b∨Y' b)):=by
 refine MZ ?_
 obtain⟨RR,hRR⟩:∃RR:aL1->aL0->Prop,RR=λr w'=>∃o X' D' Y' lv' hv',r= .tuple #[o,.int .i64 (fU S s).2.2.1]/\eC n0 w' q p X' D' Y' (fU S s).1 (fU S s).2.1 lv' hv'/\(∀b,X' b->X b∨w.heap.size<=b)/\(∀b,D b->D' b)/\(∀b,Y' b->Y b∨w.heap.size<=b)/\aL w w' (λb=>X b∨Y b)/\
  Cl w' 2 o (fU S s).2.2.2.length ((fU S s).2.2.2.flatMap qD)/\¬fK o (λb=>X' b∨Y' b):=⟨_,rfl⟩
 rw[<-hRR]
 obtain⟨c0,c1,c2,c3,c4,c5,c6,c7,c8,c9⟩:=h.cells
 have ct:=afJ h.nl
 unfold Jz DW
 simp(disch:=omega)only[SV,c1,ct]
 refine(akP (n:=cZ s.nm) h.dsk (hB.le (by omega)) c0).mono ?_
 rintro r w1 ⟨v,rfl,ho,x1⟩
 have h1:=h.new x1
 have hlt0:=λy hy=>eC.lt h y hy
 have hB0:fU S s=if(bS S (cZ s.nm)).2.2≠0 then(S,s,(bS S (cZ s.nm)).2.2,[])else
  if dU 1 (gB aY (bS S (cZ s.nm)).1)=18446744073709551615 then(S,s,23,[])else
  ((bZ aY S {s with epoch:=dU 1 (gB aY (bS S (cZ s.nm)).1)+1,log:=13*(gB aY (bS S (cZ s.nm)).1).length} 1 (dU 1 (gB aY (bS S (cZ s.nm)).1)+1)).1,
   (bZ aY S {s with epoch:=dU 1 (gB aY (bS S (cZ s.nm)).1)+1,log:=13*(gB aY (bS S (cZ s.nm)).1).length} 1 (dU 1 (gB aY (bS S (cZ s.nm)).1)+1)).2.1,
   (bZ aY S {s with epoch:=dU 1 (gB aY (bS S (cZ s.nm)).1)+1,log:=13*(gB aY (bS S (cZ s.nm)).1).length} 1 (dU 1 (gB aY (bS S (cZ s.nm)).1)+1)).2.2,gB aY (bS S (cZ s.nm)).1):=rfl
 have hbl':(bS S (cZ s.nm)).1.length<=1000000:=by
  unfold bS
  split
  .simp
  .cases hg:bF (cZ s.nm) S.seen with
   |none=>simp
   |some b=>exact hbl b hg
 generalize bS S (cZ s.nm)=rb at*
 obtain⟨b,th,e⟩:=rb
 simp only at ho hB0 hbl'⊢
 have nilc:∀w:aL0,Cl w 2 (.slice none 0 0) ([]:List (Nat×Nat)).length (([]:List (Nat×Nat)).flatMap qD):=λw=>⟨_,_,rfl,rfl,λh=>by simp at h⟩
 have stay:∀{w':aL0} {e:Int},aL w w' aT->fU S s=(S,s,e,[])->RR (.tuple #[.slice none 0 0,.int .i64 e]) w':=λ{w' e} x he=>by
  rw[hRR,he]
  exact⟨_,X,D,Y,_,_,rfl,h.new x,λ_ h=> .inl h,λ_ h=>h,λ_ h=> .inl h,x.mono λ_ _ h=>h.elim,nilc _,λh=>h⟩
 by_cases he:e=0
 rotate_left
 .have n1:(e !=0)=true:=bne_iff_ne.2 he
  rw[if_pos he]at hB0
  simp(disch:=omega)only[SV,n1]
  exact stay x1 hB0
 have n1:(e !=0)=false:=bne_eq_false_iff_eq.2 he
 rw[if_neg (by rw[he];decide)]at hB0
 simp(disch:=omega)only[SV,n1]
 refine(aBG h1.glob (show Bs w1 v b from ho.sl) (by omega)).mono ?_
 rintro r w2 ⟨o,rfl,hrv,x2⟩
 have h2:=h1.new x2
 obtain⟨L,hL⟩:∃L,L=gB aY b:=⟨_,rfl⟩
 have hok:∀r∈L,okR r:=by rw[hL];exact afR aY _ b
 have hLl:13*L.length<=b.length:=by rw[hL];exact RC aY _ b
 rw[<-hL]at hrv hB0⊢
 simp(disch:=omega)only[SV]
 refine(aBE (k:=1) ⟨_,hrv⟩ (by omega) (λr hr=>⟨by have:=(hok r hr).1;omega,(hok r hr).2⟩) (by omega)).mono ?_
 rintro r w3 ⟨⟨tb,rfl⟩,x3⟩
 have h3:=h2.new x3
 obtain⟨M,hM⟩:∃M,M=dU 1 L:=⟨_,rfl⟩
 have hM64:M<2^64:=by rw[hM];exact ahN hok
 rw[<-hM]at hB0⊢
 have x03:aL w w3 aT:=(x1.seq x2).seq x3
 by_cases hmx:M=18446744073709551615
 .have q1:(((M:Nat):Int)==18446744073709551615)=true:=by rw[beq_iff_eq];omega
  rw[if_pos hmx]at hB0
  simp(disch:=omega)only[SV,q1]
  exact stay x03 hB0
 have q1:(((M:Nat):Int)==18446744073709551615)=false:=by rw[beq_eq_false_iff_ne];omega
 rw[if_neg hmx]at hB0
 have e1:(M:Int)+1=((M+1:Nat):Int):=by omega
 simp(disch:=omega)only[SV,q1,e1]
 refine MU h3.own rfl (by simp) λw4 o4 x4 z4=> ?_
 have h4:=h3.set (s':={s with epoch:=M+1}) x4 o4 rfl rfl rfl (by show M+1<_;omega) h.lg
 refine DD h4.own rfl (by simp) λw5 o5 x5 z5=> ?_
 obtain⟨s1,hs1⟩:∃s1:eT,s1={s with epoch:=M+1,log:=13*L.length}:=⟨_,rfl⟩
 have h5:=h4.set (s':={s with epoch:=M+1,log:=13*L.length}) x5 o5 rfl rfl rfl (by show M+1<_;omega) (by show 13*L.length<=_;omega)
 rw[<-hs1]at h5 hB0
 obtain⟨d0,d1,d2,d3,d4,d5,d6,d7,d8,d9⟩:=h5.cells
 have hep:s1.epoch=M+1:=by rw[hs1]
 rw[hep]at d5
 have x35:aL w3 w5 (λy=>X y∨Y y):=(x4.mono λy _ hy=> .inr (hy▸h.yq)).seq (x5.mono λy _ hy=> .inr (hy▸h.yq))
 have x05:aL w w5 (λy=>X y∨Y y):=(x03.mono λ_ _ h=>h.elim).seq x35
 simp(disch:=omega)only[SV,d5]
 refine(avC (k:=1) (v:=M+1) h5 hB (.inl rfl) (by omega) (by rw[hs1];show 13*L.length+13<=_;omega)).mono ?_
 rintro r w6 ⟨rfl,X',D',Y',lv',hv',h6,hX,hD,hY,x6⟩
 rw[hRR,hB0]
 have zz1:=x1.size
 have zz5:=x05.size
 have zz35:=x35.size
 have zz3:=x3.size
 have ho3:DJ w3 (λb=>w1.heap.size<=b) 2 o L.length (L.flatMap qD):=hrv.ext x3 λ_ _ h=>h
 have ho5:DJ w5 (λb=>w1.heap.size<=b) 2 o L.length (L.flatMap qD):=Df ho3 x35 λb hb h=>by have:=hlt0 b h;omega
 have ho6:DJ w6 (λb=>w1.heap.size<=b/\b<w5.heap.size) 2 o L.length (L.flatMap qD):=Df (aqI ho5) x6 λb hb h=>by have:=hlt0 b h;omega
 refine⟨o,X',D',Y',lv',hv',rfl,h6,λb hb=> ?_,hD,λb hb=> ?_,x05.trans x6 λy hy h=>h,ayJ ho6,aAw (w':=w6) ho6 λb hb _ hx=> ?_⟩
 .rcases hX b hb with h|h
  .exact .inl h
  .exact .inr (by omega)
 .rcases hY b hb with h|h
  .exact .inl h
  .exact .inr (by omega)
 .rcases hx with hx|hx
  .rcases hX b hx with h|h
   .have:=hlt0 b (.inl h);omega
   .omega
  .rcases hY b hx with h|h
   .have:=hlt0 b (.inr h);omega
   .omega
theorem asP{v:aL1}{n:Nat}{l:List aL1}{w:aL0}(h:Cl w 32 v n l)(hone:∀y∈l,one y=true)(hl:n<=100000):
 aG pg rP #[v] w (λr w'=>mP w' w.heap.size 32 r n l/\aL w w' aT):=by
 refine OH ?_
 have h1:=h
 obtain⟨a,c,rfl,hn,hh⟩:=h
 unfold Ky FY
 cases a with
 |none=>
  have h0:n=0:=by
   cases n with
   |zero=>rfl
   |succ n=>obtain⟨b,off,h,_⟩:=hh (by omega);cases h
  subst h0
  have:l=[]:=aKd.1 (by omega)
  subst this
  simp(disch:=omega)only[aA,aP,aI,stepR_skip,fT,Mv,UC,UE,abC,abB,aBZ,RW,Xi,aoB,Mu,O8,Km,eX,auT,vQ,Dg,aAL,anZ,UD,jH,aoA,aAK,aiG,x20,x21,x30,x31,x32,x40,x41,x42,x43,bK,Result.ok.injEq,Next.value.injEq,true_and,and_true,dG,gX,aBb,JM,aBc,azW,aJI,uQ,Nv,wH,qB,gI,jQ,afG,Wb,cN,bH,if_true,if_false,aJM,aJG,aKI,aKY,aKS,aKC,aJJ,aJD,mK,CZ,EW,iH,lC,lB,iR,Co,kQ,uS,uW,IM,iI,gZ,A8,jV,gG,Ap,fJ,vY,pB,qQ,pM,lP,oA,C6,oE,Ti,oC,oB,Db,nA,lV,mZ,nB,cI,An,Al,lK,gH,kW,fE,Ao,kY,Nz,kB,kX,oI,C4,Em,jB,mV,gW,EX,jD,jE,kT,jA,jC,yN,jU,Ar,nD,Fk,mG,rT,rS,sC,rV,pO,nZ,Ak,Ai,Aj,rU,xJ,Fi,qT,uX,lU,pN,kS,kR,jF,lT,lW,nC,mX,eA,dT,lS,jS,kV,mY,mW,uL,qV,qW,jY,oJ,kZ,jT,As,xH,qU,xK,xG,xI,kP,BD,uM,qR,Fb,oM,oL,rZ,mQ,wA,HE,tA,Az,jR,Am,lR,cL,cJ,cY,kA,tM,lQ,cD,nY,nX,qS,mT,yY,mU,kU,vL,xA,sB,pL,vM,sQ,iQ,EV,Bw,Bq,Ah,EY,Ay,EZ,uP,Bp,Nu,jZ,FI,kD,kE,HM,uD,qY,wZ,qZ,uK,Ba,fV,nK,qI,qH,oF,Dz,Hh,yK,iC,A9,uJ,uI,Dy,A6,qG,rG,sU,aM]
  exact⟨mP.nil _ _ _,aL.refl _ _⟩
 |some x=>
  simp(disch:=omega)only[aA,aP,aI,stepR_skip,fT,Mv,UC,UE,abC,abB,aBZ,RW,Xi,aoB,Mu,O8,Km,eX,auT,vQ,Dg,aAL,anZ,UD,jH,aoA,aAK,aiG,x20,x21,x30,x31,x32,x40,x41,x42,x43,bK,Result.ok.injEq,Next.value.injEq,true_and,and_true,dG,gX,aBb,JM,aBc,azW,aJI,uQ,Nv,wH,qB,gI,jQ,afG,Wb,cN,bH,if_true,if_false,aJM,aJG,aKI,aKY,aKS,aKC,aJJ,aJD,mK,CZ,EW,iH,lC,lB,iR,Co,kQ,uS,uW,IM,iI,gZ,A8,jV,gG,Ap,fJ,vY,pB,qQ,pM,lP,oA,C6,oE,Ti,oC,oB,Db,nA,lV,mZ,nB,cI,An,Al,lK,gH,kW,fE,Ao,kY,Nz,kB,kX,oI,C4,Em,jB,mV,gW,EX,jD,jE,kT,jA,jC,yN,jU,Ar,nD,Fk,mG,rT,rS,sC,rV,pO,nZ,Ak,Ai,Aj,rU,xJ,Fi,qT,uX,lU,pN,kS,kR,jF,lT,lW,nC,mX,eA,dT,lS,jS,kV,mY,mW,uL,qV,qW,jY,oJ,kZ,jT,As,xH,qU,xK,xG,xI,kP,BD,uM,qR,Fb,oM,oL,rZ,mQ,wA,HE,tA,Az,jR,Am,lR,cL,cJ,cY,kA,tM,lQ,cD,nY,nX,qS,mT,yY,mU,kU,vL,xA,sB,pL,vM,sQ,iQ,EV,Bw,Bq,Ah,EY,Ay,EZ,uP,Bp,Nu,jZ,FI,kD,kE,HM,uD,qY,wZ,qZ,uK,Ba,fV,nK,qI,qH,oF,Dz,Hh,yK,iC,A9,uJ,uI,Dy,A6,qG,rG,sU,aM]
  refine Ta Tryz.underlying28 WE λw1 o1 x1 s1=> ?_
  have hcl1:=dS h1 x1 (bC _)
  have hos:mP w1 w.heap.size 32 (.slice (some ⟨w.heap.size,0,none⟩) 0 0) 0 []:=⟨rfl,.inr ⟨_,0,[],rfl,aJO _,o1,rfl,aJO _⟩⟩
  refine A5 hos hcl1 hone x1.size (by omega) λv3 w3 o3 x3=> ?_
  rw[aJG,aJ1]at o3
  exact⟨o3,x1.trans x3 λb hb h=>Nat.not_le_of_lt hb h⟩
theorem aFu(l:List (List UInt8)):∀y∈V6 l,one y=true:=λy hy=>by
 obtain⟨x,-,hy⟩:=aLA.1 hy
 exact Eg _ y hy
theorem aCm{l:List (Nat×Nat)}{W:List Bool}{n j:Nat}(hj:j<l.length):
 nH (l.take (j+1)) W n=if l[j].1=2/\l[j].2<n then(nH (l.take j) W n).set l[j].2 (W.getD l[j].2 false)else nH (l.take j) W n:=by
 unfold nH
 have ht:l.take (j+1)=l.take j++[l[j]]:=aJ3 hj
 generalize l[j]=r at*
 rw[ht]
 obtain⟨a,v⟩:=r
 simp only
 split
 .rename_i h
  apply aLz
  .simp
  .intro x h1 h2
   simp only[aJC,aK2]at h1
   rw[List.getElem_set]
   simp only[aLq,List.getElem_range,List.any_append,List.any_cons,List.any_nil,aLB]
   by_cases hx:v=x
   .rw [if_pos hx];subst hx;simp[h.1]
   .rw [if_neg hx]
    have:(v==x)=false:=beq_eq_false_iff_ne.2 hx
    rw[this,Bool.and_false,aLB]
 .rename_i h
  apply aKK
  intro x hx
  have hx:=aKv.1 hx
  have:(a==2&&v==x)=false:=by
   rw[aLR,beq_eq_false_iff_ne,beq_eq_false_iff_ne]
   by_cases ha:a=2
   .exact .inr λe=>h ⟨ha,by omega⟩
   .exact .inl ha
  rw[List.any_append,List.any_cons,List.any_nil,aLB,this,aLB]
theorem Gg(l:List (Nat×Nat))(W:List Bool)(n:Nat):(nH l W n).length=n:=by unfold nH;simp
theorem aCn(l:List (Nat×Nat))(W:List Bool)(n:Nat):nH (l.take 0) W n=List.replicate n false:=by
 unfold nH
 rw[List.take_zero]
 apply aLz
 .simp
 .intro i h1 h2;simp
def qA(S:cG)(n:ByteArray)(m:Gh):eT:=⟨n,m,0,bQ aX m (bS S n).1,0,(bS S n).2.1&&(bS S n).1.length==m.size&&Ae (bQ aX m (bS S n).1),0⟩
def KS(S:cG)(s:eT)(l:List (Nat×Nat)):cG×Option eT×Int:=
 if s.fin then(if(AP S).2≠0 then((AP S).1,none,(AP S).2)else((AP S).1,some s,0))
 else if(cC S s).2.2≠0 then((cC S s).1,none,(cC S s).2.2)
 else if(AP (cC S s).1).2≠0 then((AP (cC S s).1).1,none,(AP (cC S s).1).2)
 else((AP (cC S s).1).1,some {s with hv:=nH l (bQ aX s.man (cC S s).2.1) s.man.leaves.length},0)
theorem Er(S:cG)(n:ByteArray)(m:Gh):sY aX aY S n m=
 if(bS S n).2.2≠0 then(S,none,(bS S n).2.2)
 else if(fU S (qA S n m)).2.2.1≠0 then((fU S (qA S n m)).1,none,(fU S (qA S n m)).2.2.1)
 else KS (fU S (qA S n m)).1 (fU S (qA S n m)).2.1 (fU S (qA S n m)).2.2.2:=by
 unfold sY
 simp only
 by_cases h1:(bS S n).2.2=0
 .rw [if_neg (show¬(bS S n).2.2≠0 by rw[h1];decide),if_neg (show¬(bS S n).2.2≠0 by rw[h1];decide)]
  have hb:fU S (qA S n m)=if(bS S (cZ n)).2.2≠0 then(S,qA S n m,(bS S (cZ n)).2.2,[])else
   if dU 1 (gB aY (bS S (cZ n)).1)=18446744073709551615 then(S,qA S n m,23,[])else
   ((bZ aY S {qA S n m with epoch:=dU 1 (gB aY (bS S (cZ n)).1)+1,log:=13*(gB aY (bS S (cZ n)).1).length} 1 (dU 1 (gB aY (bS S (cZ n)).1)+1)).1,
    (bZ aY S {qA S n m with epoch:=dU 1 (gB aY (bS S (cZ n)).1)+1,log:=13*(gB aY (bS S (cZ n)).1).length} 1 (dU 1 (gB aY (bS S (cZ n)).1)+1)).2.1,
    (bZ aY S {qA S n m with epoch:=dU 1 (gB aY (bS S (cZ n)).1)+1,log:=13*(gB aY (bS S (cZ n)).1).length} 1 (dU 1 (gB aY (bS S (cZ n)).1)+1)).2.2,gB aY (bS S (cZ n)).1):=rfl
  by_cases h2:(bS S (cZ n)).2.2=0
  .rw [if_neg (by rw[h2];decide)]at hb
   rw[if_neg (show¬(bS S (cZ n)).2.2≠0 by rw[h2];decide)]
   by_cases h3:dU 1 (gB aY (bS S (cZ n)).1)=18446744073709551615
   .rw [if_pos h3]at hb
    rw[if_pos h3,hb]
    rfl
   .rw [if_neg h3]at hb
    rw[if_neg h3,hb]
    simp only
    have e:(⟨n,m,dU 1 (gB aY (bS S (cZ n)).1)+1,bQ aX m (bS S n).1,13*(gB aY (bS S (cZ n)).1).length,(bS S n).2.1&&(bS S n).1.length==m.size&&Ae (bQ aX m (bS S n).1),0⟩:eT)=
     {qA S n m with epoch:=dU 1 (gB aY (bS S (cZ n)).1)+1,log:=13*(gB aY (bS S (cZ n)).1).length}:=rfl
    rw[e]
    obtain⟨q,hq⟩:∃q,q=bZ aY S {qA S n m with epoch:=dU 1 (gB aY (bS S (cZ n)).1)+1,log:=13*(gB aY (bS S (cZ n)).1).length} 1 (dU 1 (gB aY (bS S (cZ n)).1)+1):=⟨_,rfl⟩
    have hf:q.2.1.fin=((bS S n).2.1&&(bS S n).1.length==m.size&&Ae (bQ aX m (bS S n).1))/\q.2.1.man=m:=by
     rw[hq]
     unfold bZ
     simp only
     split<;>exact⟨rfl,rfl⟩
    rw[<-hq]
    unfold KS
    rw[hf.1,hf.2]
  .rw [if_pos h2]at hb
   rw[if_pos h2,hb]
   show _=if(bS S (cZ n)).2.2≠0 then(S,none,(bS S (cZ n)).2.2)else _
   rw[if_pos h2]
 .rw [if_pos h1,if_pos h1]
def arY(n0:Nat)(w:aL0)(p:Nat)(X D:Nat->Prop)(R:cG×Option eT×Int)(r:aL1)(w':aL0):Prop:=
 match R.2.1 with
 |some s=>R.2.2=0/\∃q X' D' Y' lv hv,r= .tuple #[dP q,.int .i64 0]/\eC n0 w' q p X' D' Y' R.1 s lv hv/\(∀b,X' b->X b∨w.heap.size<=b)/\(∀b,D b->D' b)/\(∀b,Y' b->w.heap.size<=b)/\aL w w' X
 |none=>r= .tuple #[.pointer none,.int .i64 R.2.2]/\CA w p X D R.1 w'
theorem aBM{n0 n1 q p:Nat}{X D Y:Nat->Prop}{S:cG}{s:eT}{l:List (Nat×Nat)}{lv hv o:aL1}{w:aL0}{RR:aL1->aL0->Prop}(h:eC n0 w q p X D Y S s lv hv)(hB:GN 2 S)
 (hbp:∀b,bF (aZ s.nm) S.seen=some b->b.length<=1000000) (hn:n1=s.man.leaves.length) (hcl:Cl w 2 o l.length (l.flatMap qD)) (hno:¬fK o (λb=>X b∨Y b)) (hlo:l.length<=1000000) (hok:∀r∈l,okR r)
 (hR:∀r w',(match(KS S s l).2.1 with
  |some s'=>(KS S s l).2.2=0/\r= .tuple #[dP q,.int .i64 0]/\bY n0 w q p X D Y (KS S s l).1 s' w'
  |none=>r= .tuple #[.pointer none,.int .i64 (KS S s l).2.2]/\∃s',bY n0 w q p X D Y (KS S s l).1 s' w')->RR r w'):
 zN RR (dP p) (.int .i64 (n1:Nat)) (dP q) o w:=by
 have fin:∀{w1:aL0} {S1:cG} {s1:eT},bY n0 w q p X D Y S1 s1 w1->GN 0 S1->(KS S s l=if(AP S1).2≠0 then((AP S1).1,none,(AP S1).2)else((AP S1).1,some s1,0))->Fx RR (dP p) (dP q) w1:=λ{w1 S1 s1} hp hB1 hE=>by
  unfold Fx
  refine(arJ hp hB1).mono ?_
  rintro r w2 ⟨rfl,hp2⟩
  by_cases he:(AP S1).2=0
  .rw [if_neg (by rw[he];decide)]at hE
   rw[hE]at hR
   rw[he]
   have n1':((0:Int) !=0)=false:=rfl
   simp(disch:=omega)only[SV,n1',he]
   exact hR _ _ ⟨rfl,rfl,hp2⟩
  .have n1':((AP S1).2 !=0)=true:=bne_iff_ne.2 he
   rw[if_pos he]at hE
   rw[hE]at hR
   simp(disch:=omega)only[SV,n1']
   exact hR _ _ ⟨rfl,_,hp2⟩
 obtain⟨c0,c1,c2,c3,c4,c5,c6,c7,c8,c9⟩:=h.cells
 have hmx:=h.man.max
 have hmc:=h.man.cnt
 unfold zN Ju SU Jt
 cases hf:s.fin with
 |true=>
  rw[hf]at c8
  unfold Vd
  simp(disch:=omega)only[SV,c8]
  refine fin (bY.refl h) (hB.le (by omega)) ?_
  unfold KS
  rw[if_pos hf]
 |false=>
  rw[hf]at c8
  have hE0:KS S s l=if(cC S s).2.2≠0 then((cC S s).1,none,(cC S s).2.2)
   else if(AP (cC S s).1).2≠0 then((AP (cC S s).1).1,none,(AP (cC S s).1).2)
   else((AP (cC S s).1).1,some {s with hv:=nH l (bQ aX s.man (cC S s).2.1) s.man.leaves.length},0):=by
   unfold KS
   rw[if_neg (by rw[hf];decide)]
  unfold Vc Vb
  simp(disch:=omega)only[SV,c8]
  refine(aDb h hB).mono ?_
  rintro r w1 ⟨bv,rfl,hbv,hbn,hp1⟩
  have hBf:GN 0 (cC S s).1:=by
   unfold cC
   simp only
   split
   .exact hB.le (by omega)
   .split
    .split
     .exact aAO (n:=0) (hB.le (by omega))
     .exact awZ (aAO hB)
    .split
     .exact awZ (n:=0) (hB.le (by omega))
     .exact hB.le (by omega)
  have hbl:(cC S s).2.1.length<=1000000:=by
   have hr:(bS S (aZ s.nm)).1.length<=1000000:=by
    unfold bS
    split
    .simp
    .cases hg:bF (aZ s.nm) S.seen with
     |none=>simp
     |some b=>exact hbp b hg
   unfold cC
   simp only
   split
   .simp
   .split
    .split<;>simp
    .split
     .exact hr
     .exact hr
  generalize cC S s=F at*
  obtain⟨S1,b,e⟩:=F
  simp only at hbv hp1 hE0 hBf hbl⊢
  by_cases he:e=0
  rotate_left
  .have n1':(e !=0)=true:=bne_iff_ne.2 he
   rw[if_pos he]at hE0
   rw[hE0]at hR
   simp(disch:=omega)only[SV,n1']
   exact hR _ _ ⟨rfl,_,hp1⟩
  have n1':(e !=0)=false:=bne_eq_false_iff_eq.2 he
  rw[if_neg (by rw[he];decide)]at hE0
  have hp1':=hp1
  obtain⟨X1,D1,Y1,lv1,hv1,h1,hX1,hD1,hY1,x1⟩:=hp1
  simp(disch:=omega)only[SV,n1']
  refine ahZ (by omega) (by omega) λw2 o2 x2 s2=> ?_
  rw[aJI]at o2⊢
  obtain⟨hb,hhb⟩:∃hb,hb=w1.heap.size:=⟨_,rfl⟩
  rw[<-hhb]at o2⊢
  have h2:=h1.new x2
  refine EL h2.own rfl (by simp) λw3 o3 x3 s3=> ?_
  have hrl:(List.replicate n1 false).length=n1:=aJ9
  have o2':bD w2 hb ((List.replicate n1 false).map Value.bool):=by rw[aLK];exact o2
  have h3:=h1.newHv (s':={s with hv:=List.replicate n1 false}) x2 (by omega) o2' (by omega) x3 (by rw[hrl];exact o3) rfl rfl rfl h1.ep h1.lg
  rw[hrl]at h3
  have x13:aL w1 w3 (λy=>y=q):=(x2.mono λ_ _ h=>h.elim).seq x3
  have hlt1:=λy hy=>eC.lt h1 y hy
  have hlt0:=λy hy=>eC.lt h y hy
  have z1:=x1.size
  have hq1:¬fK bv (λy=>y=q):=hbn q (.inr h.yq)
  refine(alB h3 (hbv.ext x13 hq1) hbl).mono ?_
  rintro r w4 ⟨ob,rfl,hob,oo,x4⟩
  obtain⟨W,hW⟩:∃W,W=bQ aX s.man b:=⟨_,rfl⟩
  have hWl:W.length=n1:=by rw[hW,hn];unfold bQ;simp
  have oo:bD w4 ob (W.map Value.bool):=by rw[hW];exact oo
  rw[<-hW]at hE0
  have h4:=h3.new x4
  have hcl1:Cl w1 2 o l.length (l.flatMap qD):=dS hcl x1 hno
  have hno1:¬fK o (λy=>X1 y∨Y1 y∨y=hb):=λhi=>by
   have hold:=Wn hcl (by decide)
   obtain⟨a,c,rfl,hl,hh⟩:=hcl
   unfold fK at hi hno hold
   split at hi
   .rename_i e'
    simp only[Value.slice.injEq]at e'
    obtain⟨rfl,e2,rfl⟩:=e'
    rw[e2]at hno hold
    rcases hi with hi|hi|hi
    .rcases hX1 _ hi with h|h
     .exact hno (.inl h)
     .exact hold h
    .rcases hY1 _ hi with h|h
     .exact hno (.inr h)
     .exact hold h
    .exact hold (show w.heap.size<=_ by omega)
   .exact hi
  have hcl4:Cl w4 2 o l.length (l.flatMap qD):=dS (dS hcl1 x13 λhi=>hno1 (bO hi λy hy=> .inr (.inl (hy▸h1.yq)))) x4 (bC _)
  obtain⟨oa,oc,hov,hol,hoh⟩:=id hcl4
  subst hov
  have z3:=x13.size
  have z4:=x4.size
  unfold Fy
  simp(disch:=omega)only[SV]
  have hobn:¬(X1 ob∨Y1 ob∨ob=hb):=λhx=>by
   rcases hx with hx|hx|hx
   .have:=hlt1 ob (.inl hx);omega
   .have:=hlt1 ob (.inr hx);omega
   .have:=o2.lt;have:=x3.size;omega
  refine bM.rule (λm (t:aL1) w'=>∃(j:Nat),m=l.length-j/\t= .int .i64 (j:Nat)/\j<=l.length/\eC n0 w' q p X1 (λb=>D1 b∨b=hb) (λb=>Y1 b∨b=hb) S1 {s with hv:=nH (l.take j) W n1} lv1 (.slice (some ⟨hb,0,none⟩) n1 n1)/\aL w4 w' (λy=>y=hb)) l.length
   ⟨0,rfl,rfl,by omega,by rw[aCn];exact h4,aL.refl _ _⟩ ?_
  rintro m t w5 ⟨j,rfl,rfl,hj,h5,x5⟩
  unfold LK Va
  by_cases hlt:j<l.length
  .have d1:decide ((j:Int)<(l.length:Int))=true:=by simp;omega
   obtain⟨lb,lo,rfl,hcell⟩:=hoh (by omega)
   have hlbn:¬(X1 lb∨Y1 lb∨lb=hb):=λhx=>hno1 (by
    obtain⟨l',hl'⟩:∃l',l.length=l'+1:=⟨l.length-1,by omega⟩
    rw[hl']
    exact hx)
   have rl:=RX l
   have lrec:∀{w':aL0},aL w4 w' (λy=>y=hb)->(aB 109 (.pointer (some ⟨lb,lo+j*2,none⟩))).run pg w'= .ok (.value (.agg (qD l[j]).toArray)) w':=λ{w'} x=>by
    refine WM rfl λk hk=> ?_
    have hk:k<2:=hk
    have hgc:=hcell (j*2+k) (by omega)
    have hrc:=congrArg (λq=>q[k]?) (ZF hlt)
    simp only[List.getElem?_take,aK7,if_pos hk]at hrc
    rw[hrc]at hgc
    obtain⟨v,hv⟩:∃v,(qD l[j])[k]?=some v:=⟨_,aJE hk⟩
    rw[hv]at hgc⊢
    rw[aKy]
    exact vW hgc x (λe=>hlbn (.inr (.inr e)))
   have l5:=lrec x5
   have hst:=aCm (W:=W) (n:=n1) hlt
   obtain⟨ho1,ho2⟩:=hok _ (aKp hlt)
   generalize l[j]'hlt=rec at*
   obtain⟨k,v⟩:=rec
   simp only at ho1 ho2 hst
   simp(disch:=omega)only[SV,d1,l5]
   refine Ed λw6 o6 x6 s6=> ?_
   refine DF o6 rfl (by simp[one]) (by simp) λw7 o7 x7 s7=> ?_
   have o7:bD w7 w5.heap.size (qD (k,v)):=o7
   have x57:aL w5 w7 aT:=x6.trans x7 λy hy h=>by omega
   have h7:=h5.new x57
   have k0:=o7.cell (off:=0)
   have k1:=o7.cell (off:=1)
   have k1d:=(dB o7).cell (off:=1)
   simp only[aJD,aJJ]at k0 k1 k1d
   have e1:IntKind.u64.wrap ((n1:Nat):Int)=((n1:Nat):Int):=gX (by omega) (by omega)
   have ej:(j:Int)+1=((j+1:Nat):Int):=by omega
   have skip:¬(k=2/\v<n1)->∃m,m<l.length-j/\∃(j':Nat),m=l.length-j'/\(Value.int .i64 ((j+1:Nat):Int))= .int .i64 (j':Nat)/\j'<=l.length/\eC n0 w7 q p X1 (λb=>D1 b∨b=hb) (λb=>Y1 b∨b=hb) S1 {s with hv:=nH (l.take j') W n1} lv1 (.slice (some ⟨hb,0,none⟩) n1 n1)/\aL w4 w7 (λy=>y=hb):=λhc=>by
    rw[if_neg hc]at hst
    exact⟨l.length-(j+1),by omega,j+1,rfl,rfl,by omega,by rw[hst];exact h7,x5.seq (x57.mono λ_ _ h=>h.elim)⟩
   unfold LJ
   by_cases hk2:k=2
   rotate_left
   .have q1:(((k:Nat):Int)==2)=false:=by rw[beq_eq_false_iff_ne];omega
    simp(disch:=omega)only[SV,k0,q1,ej]
    exact skip (λh=>hk2 h.1)
   have q1:(((k:Nat):Int)==2)=true:=by rw[beq_iff_eq];omega
   by_cases hvn:v<n1
   rotate_left
   .have q2:decide (((v:Nat):Int)<((n1:Nat):Int))=false:=by simp only[decide_eq_false_iff_not];omega
    simp(disch:=omega)only[SV,k0,k1,q1,e1,q2,ej]
    exact skip (λh=>hvn h.2)
   have q2:decide (((v:Nat):Int)<((n1:Nat):Int))=true:=by simp only[decide_eq_true_eq];omega
   rw[if_pos ⟨hk2,hvn⟩]at hst
   have h7d:=h7.new (aL.dr w7 aT)
   obtain⟨f0,f1,f2,f3,f4,f5,f6,f7,f8,f9⟩:=h7d.cells
   have ow:bD (dr w7) ob (W.map Value.bool):=((oo.ext x5 (λe=>hobn (.inr (.inr e)))).ext x57 (λh=>h)).ext (aL.dr _ aT) (λh=>h)
   have hWv:W.getD v false=W[v]'(by omega):=by rw[aJL,aJE (by omega)]<;>rfl
   have cw:(dr w7).cell? ⟨ob,v,none⟩=some (.bool (W.getD v false)):=by
    rw[ow.cell,aJ4,aJE (by omega),hWv]<;>rfl
   clear hWv
   obtain⟨hb',c',rest,hhv,hbY,hbq,oh,hset⟩:=h7d.setHv (i:=v) (by show v<(nH (l.take j) W n1).length;rw[Gg];omega)
   simp only[Value.slice.injEq,aKc]at hhv
   obtain⟨hbe,hlen',_⟩:=hhv
   have hbe:hb'=hb:=by have:=congrArg Addr.block hbe;exact this.symm
   subst hbe
   have hWn:s.man.leaves.length=n1:=hn.symm
   simp(disch:=omega)only[SV,k0,k1,q1,e1,q2,f6,k1d,cw,hWn]
   refine vD oh rfl (by rw[aJF,aJC];show v<(nH (l.take j) W n1).length+_;rw[Gg];omega) λw8 o8 x8 s8=> ?_
   have h8:=hset o8 x8
   simp(disch:=omega)only[SV,ej]
   refine⟨l.length-(j+1),by omega,j+1,rfl,rfl,by omega, ?_,(x5.seq (x57.mono λ_ _ h=>h.elim)).seq ((aL.dr w7 _).seq x8)⟩
   rw[hst]
   exact h8
  .have d1:decide ((j:Int)<(l.length:Int))=false:=by simp;omega
   obtain rfl:j=l.length:=by omega
   rw[aJH (aJO _)]at h5
   simp(disch:=omega)only[SV,d1]
   refine fin (bY.step x1 hX1 hD1 hY1 ⟨X1,_,_,_,_,h5,λ_ h=> .inl h,λ_ h=> .inl h,λb hb'=>hb'.imp id λe=>by omega, ?_⟩) hBf (by rw[hE0,hn])
   have xx:aL w1 w4 (λb=>X1 b∨Y1 b):=(x13.seq (x4.mono λ_ _ h=>h.elim)).mono λy _ hy=> .inr (hy▸h1.yq)
   exact xx.trans x5 λy hy h=>by omega
theorem aGr(n:ByteArray):aZ n≠cZ n:=λh=>by
 have:=congrArg ByteArray.size h
 unfold aZ cZ at this
 rw[ByteArray.size_append,ByteArray.size_append]at this
 have h5:(⟨#[46,112,97,114,116]⟩:ByteArray).size=5:=rfl
 have h4:(⟨#[46,108,111,103]⟩:ByteArray).size=4:=rfl
 omega
theorem aBv{S:cG}{o:LP}:(yL S o).1.seen=S.seen∨(yL S o).1.seen=TS o S.seen:=by
 unfold yL
 split
 .exact .inl rfl
 .exact .inr rfl
theorem aF4 {S:cG}{k:ByteArray}{a:Int}{l:List UInt8}:(zU S k a l).1.seen=S.seen∨∃v,(zU S k a l).1.seen=nR k v S.seen:=by
 unfold zU
 split
 .rcases aBv (S:=S) (o:=⟨0,k,⟨#[]⟩,a.toNat,l⟩)with h|h
  .exact .inl h
  .exact .inr ⟨_,h⟩
 .exact .inl rfl
theorem avB{S:cG}{s:eT}{k v:Nat}:(bZ aY S s k v).1.seen=S.seen∨∃u,(bZ aY S s k v).1.seen=nR (cZ s.nm) u S.seen:=by
 have:=aF4 (S:=S) (k:=cZ s.nm) (a:=s.log) (l:=pA aY k v)
 unfold bZ
 simp only
 split<;>exact this
theorem Ni{S:cG}{s:eT}:(fU S s).2.1.man=s.man/\(fU S s).2.1.nm=s.nm/\bF (aZ s.nm) (fU S s).1.seen=bF (aZ s.nm) S.seen/\(∀r∈(fU S s).2.2.2,okR r)/\13*(fU S s).2.2.2.length<=(bS S (cZ s.nm)).1.length:=by
 unfold fU
 split
 .exact ⟨rfl,rfl,rfl,by simp,by simp⟩
 .split
  .exact ⟨rfl,rfl,rfl,by simp,by simp⟩
  .simp only
   refine⟨NK.2.1,NK.2.2.1, ?_,afR aY _ _,RC aY _ _⟩
   rcases avB (S:=S) (s:={s with epoch:=dU 1 (gB aY (bS S (cZ s.nm)).1)+1,log:=13*(gB aY (bS S (cZ s.nm)).1).length}) (k:=1) (v:=dU 1 (gB aY (bS S (cZ s.nm)).1)+1)with h|⟨u,h⟩
   .rw [h]
   .rw [h,Md,if_neg (aGr _)]
theorem aE0 {n:Nat}{S:cG}{s:eT}(h:GN (n+1) S):GN n (fU S s).1:=by
 unfold fU
 split
 .exact h.le (by omega)
 .split
  .exact h.le (by omega)
  .exact aD5 h
theorem aDL{n0 p:Nat}{X D:Nat->Prop}{S:cG}{nm:ByteArray}{m:Gh}{lv:aL1}{w:aL0}(hd:fS w p X D S)(hg:nQ w)(g0:0<n0/\1<n0)(hX:∀b,X b->n0<=b)(hn0:n0<=w.heap.size)(hB:GN 3 S)(hm:CM m)(hlv:Cl w 32 lv m.leaves.length (V6 m.leaves))
 (hnm:1<=nm.size/\nm.size<=27) (hb1:∀b,bF nm S.seen=some b->b.length<=1000000) (hb2:∀b,bF (cZ nm) S.seen=some b->b.length<=1000000) (hb3:∀b,bF (aZ nm) S.seen=some b->b.length<=1000000):
 aG pg tZ #[dP p,.string nm,.agg (xV m lv).toArray] w (arY n0 w p X D (sY aX aY S nm m)):=by
 refine afB ?_
 obtain⟨RR,hRR⟩:∃RR:aL1->aL0->Prop,RR=arY n0 w p X D (sY aX aY S nm m):=⟨_,rfl⟩
 rw[<-hRR]
 have hO:=Er S nm m
 have hm1:=hm.size
 have hm2:=hm.part
 have hm3:=hm.cnt
 have hm4:=hm.max
 unfold akT SX SW
 refine cA λw1 o1 x1 s1=> ?_
 have o1:bD w1 w.heap.size (xV m lv):=o1
 obtain⟨mb,hmb⟩:∃mb,mb=w.heap.size:=⟨_,rfl⟩
 rw[<-hmb]at o1⊢
 have c0:=o1.cell (off:=0)
 have c1:=o1.cell (off:=1)
 have c2:=o1.cell (off:=2)
 simp only[aJD,aJJ]at c0 c1 c2
 have d1:decide ((nm.size:Int)<1)=false:=by simp;omega
 have d2:decide ((27:Int)<(nm.size:Int))=false:=by simp;omega
 have e1:IntKind.i64.wrap ((m.part:Nat):Int)=((m.part:Nat):Int):=dG (by omega) (by omega)
 simp(disch:=omega)only[SV,d1,d2,c0,c1,e1]
 refine(apS (by omega) hm2.1 hm2.2).mono ?_
 rintro r w2 ⟨rfl,hw⟩
 rw[hw];clear hw w2
 rw[if_neg (by omega)]
 have n1:((0:Int) !=0)=false:=rfl
 obtain⟨la,lc,hlve,hln,-⟩:=id hlv
 subst hlve
 have q1:(((lD m.size m.part:Nat):Int) !=((m.leaves.length:Nat):Int))=false:=by rw[bne_eq_false_iff_eq];omega
 simp(disch:=omega)only[SV,n1,c2,q1]
 refine(asP (dS hlv x1 (bC _)) (aFu _) (by omega)).mono ?_
 rintro r w2 ⟨hcl,x2⟩
 have o2:=o1.ext x2 (λh=>h)
 obtain⟨ca,cc,rfl⟩:=hcl.len
 refine U9 o2 rfl (by simp) λw3 o3 x3 s3=> ?_
 simp only[aJV,aKi]at o3
 have z1:=x1.size
 have z2:=x2.size
 have hcl3:mP w3 w1.heap.size 32 (.slice ca m.leaves.length cc) m.leaves.length (V6 m.leaves):=hcl.ext x3 λb hb h=>by omega
 obtain⟨lv',hlv'⟩:∃lv',lv'=Value.slice ca m.leaves.length cc:=⟨_,rfl⟩
 rw[<-hlv']at hcl3 o3
 have x03:aL w w3 aT:=(x1.seq x2).trans x3 λy hy h=>by omega
 have lm:=gA (off:=0) o3 (by simp)
 have lm:(aB 30 (.pointer (some ⟨mb,0,none⟩))).run pg w3= .ok (.value (.agg (xV m lv').toArray)) w3:=lm
 have bd:=mG (some ⟨p,0,none⟩) nm (.int .u64 (m.size:Nat)) (.int .u32 (m.part:Nat)) lv' w3
 simp(disch:=omega)only[SV,lm,bd]
 refine cA λw4 o4 x4 s4=> ?_
 obtain⟨q,hq⟩:∃q,q=w3.heap.size:=⟨_,rfl⟩
 rw[<-hq]at o4⊢
 have x04:=x03.seq x4
 have z3:=x3.size
 have h4:eC n0 w4 q p X (λb=>D b∨b=q) (λb=>b=q) S ⟨nm,m,0,[],0,false,0⟩ lv' (.slice none 0 0):=by
  have hlt:=fS.lt hd
  have hxd:=fS.xd' hd
  refine⟨hg.ext x04,g0,λb hb=> ?_,by have:=x04.size;omega,hd.more x04 (by omega) o4.lt,rfl,λb hb=>⟨.inr hb,λhx=>by have:=hlt b (hxd b hx);omega⟩,o4,hm,⟨?_, ?_⟩,⟨rfl,.inl ⟨rfl,rfl⟩⟩,(by show 0<_;omega),(by show 0<=_;omega),(by show 0<=_;omega),hnm.2⟩
  .rcases hb with hb|hb
   .exact hX b hb
   .omega
  .exact dS (ayJ hcl3) x4 (bC _)
  .refine aAw (w':=w3) hcl3 λb hb hl hx=> ?_
   rcases hx with hx|hx
   .have:=hlt b (hxd b hx);omega
   .omega
 have o34:=o3.ext x4 (λh=>h)
 obtain⟨f0,f1,f2,f3,f4,f5,f6,f7,f8,f9⟩:=h4.cells
 refine(akP (n:=nm) h4.dsk (hB.le (by omega)) f0).mono ?_
 rintro r w5 ⟨v,rfl,ho,x5⟩
 have h5:=h4.new x5
 have z4:=x04.size
 have toPost:∀{w':aL0} {S':cG} {s':eT},bY n0 w4 q p X (λb=>D b∨b=q) (λb=>b=q) S' s' w'->CA w p X D S' w':=λ{w' S' s'} ⟨X',D',Y',_,_,h,h1,h2,h3,hx⟩=>by
  refine⟨X',D',h.dsk,λb hb=> ?_,λb hb=>h2 b (.inl hb),(x04.mono λ_ _ h=>h.elim).trans hx λy hy h=> ?_⟩
  .rcases h1 b hb with h|h
   .exact .inl h
   .exact .inr (by omega)
  .rcases h with h|h
   .exact h
   .omega
 have toOpen:∀{r:aL1} {w':aL0} {R:cG×Option eT×Int},sY aX aY S nm m=R->(match R.2.1 with
     |some s'=>R.2.2=0/\r= .tuple #[dP q,.int .i64 0]/\bY n0 w4 q p X (λb=>D b∨b=q) (λb=>b=q) R.1 s' w'
     |none=>r= .tuple #[.pointer none,.int .i64 R.2.2]/\∃s',bY n0 w4 q p X (λb=>D b∨b=q) (λb=>b=q) R.1 s' w')->RR r w':=λ{r w' R} hR hm=>by
  rw[hRR,hR]
  unfold arY
  obtain⟨S',so,e⟩:=R
  cases so with
  |none=>
   obtain⟨h1,s',h2⟩:=hm
   exact⟨h1,toPost h2⟩
  |some s'=>
   obtain⟨h0,h1,h2⟩:=hm
   have hp:=toPost h2
   obtain⟨X',D',Y',lv2,hv2,h,k1,k2,k3,hx⟩:=h2
   refine⟨h0,q,X',D',Y',lv2,hv2,h1,h,λb hb=> ?_,λb hb=>k2 b (.inl hb),λb hb=> ?_,(x04.mono λ_ _ h=>h.elim).trans hx λy hy h=> ?_⟩
   .rcases k1 b hb with h|h
    .exact .inl h
    .exact .inr (by omega)
   .rcases k3 b hb with h|h
    .omega
    .omega
   .rcases h with h|h
    .exact h
    .omega
 have hini:qA S nm m=⟨nm,m,0,bQ aX m (bS S nm).1,0,(bS S nm).2.1&&(bS S nm).1.length==m.size&&Ae (bQ aX m (bS S nm).1),0⟩:=rfl
 have hbl:(bS S nm).1.length<=1000000:=by
  unfold bS
  split
  .simp
  .cases hg:bF nm S.seen with
   |none=>simp
   |some b=>exact hb1 b hg
 generalize bS S nm=rb at*
 obtain⟨b,th,e⟩:=rb
 simp only at ho hO hini hbl⊢
 by_cases he:e=0
 rotate_left
 .have n2:(e !=0)=true:=bne_iff_ne.2 he
  rw[if_pos he]at hO
  simp(disch:=omega)only[SV,n2]
  exact toOpen hO ⟨rfl,_,bY.step (x5.mono λ_ _ h=>h.elim) (λ_ h=> .inl h) (λ_ h=>h) (λ_ h=> .inl h) (bY.refl h5)⟩
 have n2:(e !=0)=false:=bne_eq_false_iff_eq.2 he
 rw[if_neg (by rw[he];decide)]at hO
 have hbv:Bs w5 v b:=ho.sl
 obtain⟨va,vc,rfl,_⟩:=hbv.len
 rw[aJC]at hbv ho⊢
 simp(disch:=omega)only[SV,n2]
 refine(alB h5 hbv hbl).mono ?_
 rintro r w6 ⟨ob,rfl,hob,oo,x6⟩
 obtain⟨W,hW⟩:∃W,W=bQ aX m b:=⟨_,rfl⟩
 have hWl:W.length=m.leaves.length:=by rw[hW];unfold bQ;simp
 have oo:bD w6 ob (W.map Value.bool):=by rw[hW];exact oo
 rw[<-hW]at hini
 have hml:(⟨nm,m,0,[],0,false,0⟩:eT).man.leaves.length=W.length:=hWl.symm
 rw[hml]
 have h6:=h5.new x6
 refine EL h6.own rfl (by simp) λw7 o7 x7 s7=> ?_
 have h7:=h5.newHv (s':=⟨nm,m,0,W,0,false,0⟩) x6 hob oo (by omega) x7 o7 rfl rfl rfl (by show 0<_;omega) (by show 0<=_;omega)
 have x47:aL w4 w7 (λy=>X y∨y=q):=((x5.seq x6).mono λ_ _ h=>h.elim).seq (x7.mono λ_ _ h=> .inr h)
 have o37:=((o34.ext x5 (λh=>h)).ext x6 (λh=>h)).ext x7 (show¬mb=q by have:=x2.size;have:=x1.size;omega)
 have k0:=o37.cell (off:=0)
 simp only[aJD]at k0
 obtain⟨f0,f1,f2,f3,f4,f5,f6,f7,f8,f9⟩:=h7.cells
 have z5:=x5.size
 have hYn:∀y,(y=q∨y=ob)->y=q∨w4.heap.size<=y:=λy hy=>hy.imp id λh=>by omega
 have tail:∀{w8:aL0} {fn:Bool},fn=(th&&b.length==m.size&&Ae W)->aL w7 w8 aT→
     aA pg (aF 4 (.pointer (some ⟨q,8,none⟩)) (.bool fn)) w8 λ_u w=>aG pg mD #[dP q] w λt97 w=>aA pg (aQ t97 0) w λt98 w=>aA pg (aQ t97 1) w λt99 w=>aA pg (aE .neq 31 (.tmp 100) (.const (.int .i64 0)) t99 (.int .i64 0)) w λt101 w=>cS t101 (RR (.tuple #[.pointer none,t99]) w) (zN RR (dP p) (.int .i64 (lD m.size m.part:Nat)) (dP q) t98 w):=λ{w8 fn} hfn x8=>by
  have h8:=h7.new x8
  refine vD h8.own rfl (by simp) λw9 o9 x9 s9=> ?_
  obtain⟨s0,hs0⟩:∃s0:eT,s0=⟨nm,m,0,W,0,fn,0⟩:=⟨_,rfl⟩
  have hs0':s0=qA S nm m:=by rw[hini,hs0,hfn]
  have h9:=h8.set (s':=s0) x9 (by rw[hs0];exact o9) (by rw[hs0]) (by rw[hs0]) (by rw[hs0]) (by rw[hs0];show 0<_;omega) (by rw[hs0];show 0<=_;omega)
  have hnm0:s0.nm=nm:=by rw[hs0]
  have hman0:s0.man=m:=by rw[hs0]
  have x49:aL w4 w9 (λy=>X y∨y=q):=(x47.seq (x8.mono λ_ _ h=>h.elim)).seq (x9.mono λ_ _ h=> .inr h)
  refine(aCQ h9 (hB.le (by omega)) (by rw[hnm0];exact hb2)).mono ?_
  rintro r w10 ⟨o,X',D',Y',lv2,hv2,rfl,h10,hX',hD',hY',x10,hocl,hon⟩
  obtain⟨bf1,bf2,bf3,bf4,bf5⟩:=Ni (S:=S) (s:=s0)
  rw[hnm0]at bf2 bf3 bf5
  rw[hman0]at bf1
  have hBk:=aE0 (n:=2) (s:=s0) hB
  rw[<-hs0']at hO
  have hlogl:(bS S (cZ nm)).1.length<=1000000:=by
   unfold bS
   split
   .simp
   .cases hg:bF (cZ nm) S.seen with
    |none=>simp
    |some b=>exact hb2 b hg
  generalize fU S s0=B at*
  obtain⟨S2,s2',e2,L⟩:=B
  simp only at h10 hO bf1 bf2 bf3 bf4 bf5 hBk hocl⊢
  have pst:bY n0 w4 q p X (λb=>D b∨b=q) (λb=>b=q) S2 s2' w10:=bY.step x49 (λ_ h=> .inl h) (λ_ h=> .inl h) hYn ⟨X',D',Y',_,_,h10,hX',hD',hY',x10⟩
  by_cases he2:e2=0
  .subst he2
   rw[if_neg (by decide)]at hO
   have n3:((0:Int) !=0)=false:=rfl
   simp(disch:=omega)only[SV,n3]
   refine aBM h10 hBk (by rw[bf2,bf3];exact hb3) (by rw[bf1];exact hm3.symm) hocl hon (by omega) bf4 λr w' hm=>toOpen hO ?_
   generalize KS S2 s2' L=R at*
   obtain⟨S3,so,e3⟩:=R
   cases so with
   |none=>
    obtain⟨k1,s',k2⟩:=hm
    exact⟨k1,s',bY.step x49 (λ_ h=> .inl h) (λ_ h=> .inl h) hYn (bY.step x10 hX' hD' hY' k2)⟩
   |some s'=>
    obtain⟨k0,k1,k2⟩:=hm
    exact⟨k0,k1,bY.step x49 (λ_ h=> .inl h) (λ_ h=> .inl h) hYn (bY.step x10 hX' hD' hY' k2)⟩
  .have n3:(e2 !=0)=true:=bne_iff_ne.2 he2
   rw[if_pos he2]at hO
   simp(disch:=omega)only[SV,n3]
   exact toOpen hO ⟨rfl,_,pst⟩
 cases th with
 |false=>
  have:=tail (w8:=w7) (fn:=false) (by simp) (aL.refl _ _)
  simp(disch:=omega)only[SV]
  exact this
 |true=>
  have e3:IntKind.u64.wrap ((b.length:Nat):Int)=((b.length:Nat):Int):=gX (by omega) (by omega)
  by_cases hle:b.length=m.size
  .have q2:(((b.length:Nat):Int)==((m.size:Nat):Int))=true:=by rw[beq_iff_eq];omega
   simp(disch:=omega)only[SV,e3,k0,q2,f6]
   refine(akS (Vz h7.hv) (by show W.length<=_;omega)).mono ?_
   rintro r w8 ⟨rfl,hw⟩
   rw[hw];clear hw w8
   have:=tail (w8:=w7) (fn:=Ae W) (by have:(b.length==m.size)=true:=by rw[beq_iff_eq];exact hle
                                      rw[this];simp) (aL.refl _ _)
   simp(disch:=omega)only[SV]
   exact this
  .have q2:(((b.length:Nat):Int)==((m.size:Nat):Int))=false:=by rw[beq_eq_false_iff_ne];omega
   have:=tail (w8:=w7) (fn:=false) (by have:(b.length==m.size)=false:=by rw[beq_eq_false_iff_ne];exact hle
                                       rw[this];simp) (aL.refl _ _)
   simp(disch:=omega)only[SV,e3,k0,q2]
   exact this
def auA(f:List UInt8)(k i:Nat):List (List UInt8):=(List.range i).map λj=>aX (CB f.length k j f)
theorem aBI(f:List UInt8)(k i:Nat):auA f k (i+1)=auA f k i++[aX (CB f.length k i f)]:=by simp[auA,aLh]
theorem aDy(f:List UInt8)(k i:Nat):(auA f k i).length=i:=by simp[auA]
theorem aDz(f:List UInt8)(k:Nat):(kC aX f k).leaves=auA f k (lD f.length k):=rfl
theorem aDA{f:List UInt8}{k:Nat}(hk:1<=k/\k<=65536)(hf:f.length<=1000):CM (kC aX f k):=by
 have:=apP (L:=f.length) (show 0<k by omega)
 refine⟨by show f.length<=_;omega,hk,Tm aX f k,by show lD f.length k<=_;omega,λx hx=> ?_⟩
 obtain⟨j,-,rfl⟩:=aKq.1 hx
 exact vS _
theorem aDa{h:List UInt8}(hl:h.length=32):Go.Instr.fill (λj=>some (j*32,32)) ((Array.range (1*32)).map ((Tryz.t70.zero.get!).cells[·%(Tryz.t70.zero.get!).cells.size]!)) [(0,.agg (h.map gT).toArray)]=some (h.map gT).toArray:=
 match h,hl with
 |[a0,a1,a2,a3,a4,a5,a6,a7,a8,a9,a10,a11,a12,a13,a14,a15,a16,a17,a18,a19,a20,a21,a22,a23,a24,a25,a26,a27,a28,a29,a30,a31],_=>by kernel_rfl
theorem ahX{f:List UInt8}{bv:aL1}{k:Nat}{w:aL0}(hg:nQ w)(hb:Bs w bv f)(hf:f.length<=1000)(hk:1<=k/\k<=65536):
 aG pg Fz #[bv,.int .i64 (k:Nat)] w (λr w'=>∃lv,r= .tuple #[.agg (xV (kC aX f k) lv).toArray,.int .i64 0]/\mP w' w.heap.size 32 lv (kC aX f k).leaves.length (V6 (kC aX f k).leaves)/\aL w w' aT):=by
 refine ahY ?_
 obtain⟨RR,hRR⟩:∃RR:aL1->aL0->Prop,RR=λr w'=>∃lv,r= .tuple #[.agg (xV (kC aX f k) lv).toArray,.int .i64 0]/\mP w' w.heap.size 32 lv (kC aX f k).leaves.length (V6 (kC aX f k).leaves)/\aL w w' aT:=⟨_,rfl⟩
 rw[<-hRR]
 obtain⟨g0,g1⟩:=hg.lt
 have hcn:=apP (L:=f.length) (show 0<k by omega)
 unfold anS Xc Xb
 obtain⟨ba,bc,rfl,hbc⟩:=hb.len
 rw[aJC]at hb hbc⊢
 refine uB λw1 o1 x1 s1=> ?_
 have e1:IntKind.u64.wrap ((f.length:Nat):Int)=((f.length:Nat):Int):=gX (by omega) (by omega)
 have e2:IntKind.u32.wrap ((k:Nat):Int)=((k:Nat):Int):=JM (by omega) (by omega)
 have n1:((0:Int) !=0)=false:=rfl
 simp(disch:=omega)only[aA,mK,gZ,aI,A8,JM,iI,e1,jV]
 refine(apS (by omega) hk.1 hk.2).mono ?_
 rintro r w2 ⟨rfl,hw⟩
 rw[hw];clear hw w2
 rw[if_neg (by omega)]
 simp(disch:=omega)only[x20,x21,aI,Km,n1,bH]
 refine uB λw2 o2 x2 s2=> ?_
 obtain⟨p,hp⟩:∃p,p=w.heap.size:=⟨_,rfl⟩
 obtain⟨q,hq⟩:∃q,q=w1.heap.size:=⟨_,rfl⟩
 rw[<-hp]at o1⊢
 rw[<-hq]at o2⊢
 refine sG o2 rfl (by simp[one]) (by simp) λw3 o3 x3 s3=> ?_
 have o3:bD w3 q [.int .u64 (f.length:Nat),.int .u32 (k:Nat),.slice none 0 0]:=o3
 have o13:=(o1.ext x2 (λh=>h)).ext x3 (show¬p=q by omega)
 have x03:aL w w3 aT:=(x1.seq x2).trans x3 λy hy h=>by omega
 have z3:w3.heap.size=q+1:=by omega
 unfold NF ND Xa Hk
 try simp only[true_and]
 refine bM.rule (λm (t:aL1) w'=>∃(i:Nat) (lv:aL1),m=lD f.length k-i/\i<=lD f.length k/\t= .int .i64 (i:Nat)/\bD w' q [.int .u64 (f.length:Nat),.int .u32 (k:Nat),lv]/\mP w' (q+1) 32 lv i (V6 (auA f k i))/\aL w3 w' (λy=>y=q∨q<y)) (lD f.length k)
  ⟨0,_,rfl,by omega,rfl,o3,mP.nil _ _ _,aL.refl _ _⟩ ?_
 clear o3
 rintro m t w4 ⟨i,lv,rfl,hi,rfl,o4,hs,x4⟩
 unfold NC
 have x04:aL w w4 aT:=x03.trans x4 λy hy h=>by omega
 have z4:=x4.size
 by_cases hlt:i<lD f.length k
 .have d1:decide ((i:Int)<((lD f.length k:Nat):Int))=true:=by simp;omega
  have c0:=o4.cell (off:=0)
  simp only[aJD]at c0
  simp(disch:=omega)only[aA,eX,d1,gG,gZ,aI,fJ,aJG,aP,Result.ok.injEq,Next.value.injEq,and_true,fT,dG,true_and,vY,Ap,c0,bK,cN]
  refine(akN (by omega) hk.1 hk.2 (by omega) hlt).mono ?_
  rintro r w5 ⟨rfl,hw⟩
  rw[hw];clear hw w5
  have hki:=(Bn (show 0<k by omega)).1 hlt
  have hse:=Yz hki
  obtain⟨P,hP⟩:∃P,P=k*i:=⟨_,rfl⟩
  obtain⟨N,hN⟩:∃N,N=U7 f.length k i:=⟨_,rfl⟩
  rw[<-hP,<-hN]at hse⊢
  have e3:IntKind.u64.wrap ((N:Nat):Int)=((N:Nat):Int):=gX (by omega) (by omega)
  have e4:(P:Int)+(N:Int)=((P+N:Nat):Int):=by omega
  have od:=dB o4
  have c2:=od.cell (off:=2)
  simp only[aJD,aJJ]at c2
  have x04d:aL w (dr w4) aT:=x04.seq (aL.dr _ _)
  simp(disch:=omega)only[x30,x31,x32,aI,Km,n1,bH,iI,e3,true_and,c2,bK,fT,e4,gX,pB,aJI]
  have hbd:Bs (dr w4) (.slice (dD ba bc P 1) (P+N-P) (bc-P)) (CB f.length k i f):=by
   have:=Sl.mid (hb.ext x04d (bC _)) (i:=P) (j:=P+N) (by omega) (by omega)
   rw[<-aLj,<-aLD,aKG]at this
   rw[aKG]
   unfold CB
   rw[<-hP,<-hN]
   exact this
  refine(aDt (hg.ext x04d) hbd (by have:=VB f.length k i f;omega)).mono ?_
  rintro r w5 ⟨rfl,x5⟩
  have o5:=od.ext x5 (λh=>h)
  have c5:=o5.cell (off:=2)
  simp only[aJD,aJJ]at c5
  have hll:(aX (CB f.length k i f)).length=32:=vS _
  simp(disch:=omega)only[c5,bK,true_and]
  refine alL (cells:=((aX (CB f.length k i f)).map gT).toArray) (by decide) (by decide) ?_ λw6 o6 x6 s6=> ?_
  .exact aDa hll
  rw[aJZ]at o6
  have o65:=o5.ext x6 (λh=>h)
  have c6:=o65.cell (off:=2)
  simp only[aJD,aJJ]at c6
  simp(disch:=omega)only[c6,bK,true_and]
  have z5:=x5.size
  have z6:=x6.size
  have zd:(dr w4).heap.size=w4.heap.size:=rfl
  refine A5 ((hs.ext ((aL.dr w4 aT).seq x5) (λ_ _ h=>h)).ext x6 (λ_ _ h=>h)) (o6.cl (off:=0) (n:=1) (by rw[aJC,hll]) (λj hj=>by rw[aJG])) (Eg _) (by omega) (by omega) λv7 w7 o7 x7=> ?_
  have o75:=o65.ext x7 (by omega)
  refine U9 o75 (by rcases o7.2 with⟨rfl,_⟩|⟨_,_,_,rfl,_⟩<;>rfl) (by simp) λw8 o8 x8 s8=> ?_
  simp only[aJV,aKi]at o8
  have o78:=o7.ext x8 (λb hb h=>by omega)
  refine⟨lD f.length k-(i+1),by omega,i+1,v7,rfl,by omega,rfl,o8, ?_, ?_⟩
  .rw [aBI]
   show mP w8 (q+1) 32 v7 (i+1) (List.flatMap _ (auA f k i++[aX (CB f.length k i f)]))
   rw[List.flatMap_append,List.flatMap_singleton]
   exact o78
  .refine (((x4.seq (aL.dr _ _)).seq (x5.mono λ_ _ h=>h.elim)).seq (x6.mono λ_ _ h=>h.elim)).seq (x7.mono λy _ h=> .inr (by omega))|>.seq (x8.mono λy _ h=> .inl h)
 .have d1:decide ((i:Int)<((lD f.length k:Nat):Int))=false:=by simp;omega
  obtain rfl:i=lD f.length k:=by omega
  unfold NB
  have lm:=gA (off:=0) o4 (by simp)
  have lm:(aB 30 (.pointer (some ⟨q,0,none⟩))).run pg w4= .ok (.value (.agg #[.int .u64 (f.length:Nat),.int .u32 (k:Nat),lv])) w4:=lm
  simp(disch:=omega)only[aA,eX,d1,gG,gZ,aI,fJ,aJG,aP,Result.ok.injEq,Next.value.injEq,and_true,fT,dG,true_and,vY,Ap,lm,bH]
  have lv1:one lv=true:=by rcases hs.2 with⟨rfl,_⟩|⟨_,_,_,rfl,_⟩<;>rfl
  refine sG (o13.ext x4 (by omega)) rfl (by simp[one];exact lv1) (by simp) λw5 o5 x5 s5=> ?_
  refine TU o5 (by simp[eI]) ?_
  rw[hRR]
  refine⟨lv,rfl, ?_,x04.trans x5 λy hy h=>by omega⟩
  rw[aDz,aDy]
  have o':=hs.ext x5 (λb hb h=>by omega)
  refine⟨o'.1, ?_⟩
  rcases o'.2 with h|⟨b,c,rest,h1,h2,h3⟩
  .exact .inl h
  .exact .inr ⟨b,c,rest,h1,by omega,h3⟩
theorem anW{w:aL0}{S T:Nat->Prop}{sz n:Nat}{v:aL1}{l:List aL1}(h:DJ w S sz v n l)(hT:∀b,S b->b<w.heap.size->T b):DJ w T sz v n l:=by
 refine⟨h.1, ?_⟩
 rcases h.2 with h2|⟨b,c,rest,h1,h2,h3,h4,h5⟩
 .exact .inl h2
 .exact .inr ⟨b,c,rest,h1,hT b h2 h3.lt,h3,h4,h5⟩
theorem aqJ{w:aL0}{b:Nat}{l:List UInt8}(h:bD w b (l.map gT)):Bs w (.slice (some ⟨b,0,none⟩) l.length l.length) l:=
 h.bs (off:=0) (c:=l.length) (aJO _) (λi hi=>by rw[aJG,aJ4,aJE hi]<;>rfl)
theorem aI2 {S:Nat->Prop}{v x:aL1}{l m:List UInt8}{w:aL0}(h:DJ w S 1 v l.length (l.map gT))(hx:Bs w x m)(hb:∀b,w.heap.size<=b->S b)(hn:l.length+m.length<=100000000){K:aL1->aL0->Prop}
 (hk:∀v' w',DJ w' S 1 v' (l++m).length ((l++m).map gT)->aL w w' S->K v' w'):aA pg (eK .append #[22,22] 22 [v,x]) w K:=by
 have hcl:Cl w 1 x m.length (m.map gT):=by have:=hx.cl;rwa [aJC]at this
 refine zP (m:=m.length) (news:=m.map gT) (i:=Tryz.t5) Tryz.underlying22 Tryz.underlying22 Mh rfl rfl rfl h hcl (Eg _) hb (by omega) (by rw[show Tryz.t5.bytes=1 from rfl];omega) (by decide) λv3 w3 o3 x3=> ?_
 refine hk v3 w3 ?_ x3
 rw[aJF,aKb]
 exact o3
theorem ajI{x n:Nat}{w:aL0}(hx:x<2^64)(hn:n<=8):
 aG pg Cb #[.int .u64 (x:Nat),.int .i64 (n:Nat)] w (λr w'=>r= .string ⟨(vP x n).toArray⟩/\aL w w' aT):=by
 refine aiJ ?_
 unfold aoE Xo Xn
 have d1:decide ((n:Int)>8)=false:=decide_eq_false (by omega)
 have d2:decide ((8:Int)<(n:Int))=false:=decide_eq_false (by omega)
 obtain⟨RR,hRR⟩:∃RR:aL1->aL0->Prop,RR=λr w'=>r= .string ⟨(vP x n).toArray⟩/\aL w w' aT:=⟨_,rfl⟩
 rw[<-hRR]
 simp(disch:=omega)only[SV,d1,d2]
 unfold NN NM Xm Ho
 refine bM.rule (λm (t:aL1×aL1×aL1) w1=>∃i vo,m=n-i/\t=(.int .u64 (x/256^i:Nat),vo,.int .i64 (i:Nat))/\i<=n/\DJ w1 (λy=>w.heap.size<=y) 1 vo (vP x i).length ((vP x i).map gT)/\aL w w1 aT) n
  ⟨0,_,by omega,by rw[Nat.pow_zero,Nat.div_one]<;>rfl,by omega,⟨rfl,.inl ⟨rfl,rfl⟩⟩,aL.refl _ _⟩ ?_
 rintro m t w1 ⟨i,vo,rfl,rfl,hi,hS,x1⟩
 show Hn _ _ (.int .u64 (x/256^i:Nat)) (.int .i64 (n:Nat)) vo (.int .i64 (i:Nat)) w1
 unfold Hn
 by_cases hlt:i<n
 rotate_left
 .have d3:decide ((i:Int)<(n:Int))=false:=decide_eq_false (by omega)
  have hin:i=n:=by omega
  rw[hin]at hS
  have hcv:=eP (l:=vP x n) (Vz hS)
  simp(disch:=omega)only[SV,d3]
  unfold NL
  simp(disch:=omega)only[SV,hcv]
  rw[hRR]
  exact⟨rfl,x1⟩
 have d3:decide ((i:Int)<(n:Int))=true:=decide_eq_true (by omega)
 have hle:x/256^i<=x:=aLI _ _
 obtain⟨q,hq⟩:∃q,q=x/256^i:=⟨_,rfl⟩
 rw[<-hq]at hle⊢
 have e1:(q:Int).tmod 256=((q%256:Nat):Int):=rfl
 have e2:(q:Int).tdiv 256=((q/256:Nat):Int):=rfl
 have w2:IntKind.u64.wrap ((q%256:Nat):Int)=((q%256:Nat):Int):=gX (by omega) (by omega)
 have w3:IntKind.u64.wrap ((q/256:Nat):Int)=((q/256:Nat):Int):=gX (by omega) (by omega)
 have w4:IntKind.u8.wrap ((q%256:Nat):Int)=((q%256:Nat):Int):=azW (by omega) (by omega)
 have e7:(i:Int)+1=((i+1:Nat):Int):=by omega
 simp(disch:=omega)only[SV,d3,e1,w2,w4]
 refine mH (cells:= #[.int .u8 ((q%256:Nat):Int)]) (by decide) (by decide) (by kernel_rfl) λw2' o2 x2 s2=> ?_
 have ho:bD w2' w1.heap.size ([UInt8.ofNat (q%256)].map gT):=by
  have e:([UInt8.ofNat (q%256)].map gT)=[.int .u8 ((q%256:Nat):Int)]:=by
   simp only[aJU,aLU,gT]
   rw[aAC (by omega)]
  rw[e];exact o2
 have z1:=x1.size
 have z2:=x2.size
 have S2:DJ w2' (λy=>(w.heap.size<=y/\y<w1.heap.size)∨w2'.heap.size<=y) 1 vo _ _:=(anW hS λy hy h=> .inl ⟨hy,h⟩).ext x2 λ_ _ h=>h
 refine aI2 S2 (aqJ ho) (λy hy=> .inr hy) (by rw[dX];simp;omega) λv3 w3' o3 x3=> ?_
 simp(disch:=omega)only[SV,e2,w3,e7]
 have hs:vP x (i+1)=vP x i++[UInt8.ofNat (q%256)]:=by rw[Tp,<-hq]
 have hp:q/256=x/256^(i+1):=by rw[hq,Nat.div_div_eq_div_mul,aLr]
 refine⟨n-(i+1),by omega,i+1,v3,rfl,by rw[hp],by omega, ?_,(x1.seq x2).trans x3 λy hy h=>by omega⟩
 rw[hs]
 exact anW o3 λy hy _=>by omega
theorem agS{x:ByteArray}{l:List UInt8}(h:lst x=l):x=⟨l.toArray⟩:=by
 subst h
 cases x
 rfl
theorem aC8 {b:List UInt8}{n:Nat}:(⟨b.toArray⟩:ByteArray).extract 0 n=⟨(b.take n).toArray⟩:=by
 refine agS ?_
 rw[RL]
 rfl
theorem atE{b:List UInt8}{n:Nat}:(⟨b.toArray⟩:ByteArray).extract n b.length=⟨(b.drop n).toArray⟩:=by
 refine agS ?_
 rw[RL]
 have:lst (⟨b.toArray⟩:ByteArray)=b:=rfl
 rw[this,aJH (by rw[aJS];omega)]
theorem aB3 {b:List UInt8}{n:Nat}{w:aL0}(hn:n<=b.length):aG pg G9 #[.agg #[.string ⟨b.toArray⟩,.int .i64 0],.int .i64 (n:Nat)] w (λr w'=>r= .tuple #[.agg #[.string ⟨(b.drop n).toArray⟩,.int .i64 0],.string ⟨(b.take n).toArray⟩]/\aL w w' aT):=by
 refine adJ ?_
 obtain⟨RR,hRR⟩:∃RR:aL1->aL0->Prop,RR=λr w'=>r= .tuple #[.agg #[.string ⟨(b.drop n).toArray⟩,.int .i64 0],.string ⟨(b.take n).toArray⟩]/\aL w w' aT:=⟨_,rfl⟩
 rw[<-hRR]
 have hsz:(⟨b.toArray⟩:ByteArray).size=b.length:=by simp[ByteArray.size]
 unfold aiK UF
 refine cA λw1 o1 x1 s1=> ?_
 have o1:bD w1 w.heap.size [.string ⟨b.toArray⟩,.int .i64 0]:=o1
 obtain⟨db,hdb⟩:∃db,db=w.heap.size:=⟨_,rfl⟩
 rw[<-hdb]at o1⊢
 refine yD λw2 o2 x2 s2=> ?_
 obtain⟨rb,hrb⟩:∃rb,rb=w1.heap.size:=⟨_,rfl⟩
 rw[<-hrb]at o2⊢
 have oD:=o1.ext x2 (λh=>h)
 have c0:w2.cell? ⟨db,0,none⟩=some (.string ⟨b.toArray⟩):=oD.cell (off:=0)
 have c1:w2.cell? ⟨db,1,none⟩=some (.int .i64 0):=oD.cell (off:=1)
 have n1:((0:Int) !=0)=false:=rfl
 have d1:decide (((n:Nat):Int)<0)=false:=by simp
 have d2:decide (((b.length:Nat):Int)<((n:Nat):Int))=false:=by simp only[decide_eq_false_iff_not];omega
 have hnn:(n:Int).toNat=n:=aJI _
 have s1':=λw=>Dz (k:= .i64) (hi:=(n:Int)) ⟨b.toArray⟩ w (by omega) (by rw[hsz];omega)
 have s2':=λw=>Az (k:= .i64) (lo:=(n:Int)) ⟨b.toArray⟩ w (by omega) (by rw[hsz];omega)
 have t1:=aC8 (b:=b) (n:=n)
 have t2:=atE (b:=b) (n:=n)
 simp(disch:=omega)only[SV,c0,c1,n1,d1,hsz,d2,s1',s2',hnn,t1,t2,aJG]
 refine aaB (off:=0) oD rfl (by simp) λw3 o3 x3 s3=> ?_
 have o3:bD w3 db [.string ⟨(b.drop n).toArray⟩,.int .i64 0]:=o3
 have ld:(aB 158 (.pointer (some ⟨db,0,none⟩))).run pg w3= .ok (.value (.agg #[.string ⟨(b.drop n).toArray⟩,.int .i64 0])) w3:=wI (off:=0) o3 (by simp)
 simp(disch:=omega)only[SV,ld]
 refine pT (o2.ext x3 (λhh=>by omega)) rfl (by intro x hx;simp only[aJK,aJN,or_false]at hx;rcases hx with rfl|rfl<;>rfl) (by simp) λw4 o4 x4 s4=> ?_
 have o4:bD w4 rb [.string ⟨(b.drop n).toArray⟩,.int .i64 0]:=o4
 refine DP o4 (by simp) ?_
 rw[hRR]
 exact⟨rfl,((x1.seq x2).trans x3 λy hy hh=>by omega).trans x4 λy hy hh=>by omega⟩
end Go.Proofs.YteelnmpbnaohpaaGreatDoor
namespace Go.Proofs.YteelnmpbnaohpaaGreatDoor
open Go Go.En Go.Pu
set_option maxRecDepth 4000
set_option maxHeartbeats 1000000
theorem ayY(w:aL0):aG pg EU #[] w (λr w'=>r= .agg (kN.map u32).toArray/\aL w w' aT):=by
 refine ZI ?_
 unfold abK R5
 refine CQ λw1 o1 x1 s1=> ?_
 simp(disch:=omega)only[SV]
 refine Pq o1 rfl (by simp[one]) (by simp) λw2 o2 x2 s2=> ?_
 refine adB o2 (by simp[eI]) ?_
 exact⟨rfl,x1.trans x2 λy hy h=>by omega⟩
theorem aBl(P:List UInt8)(k:Nat):Hf (k+1) P=KG (Hf k P) ((P.drop (64*k)).take 64):=rfl
def Pt(i:Nat):List UInt8:=List.replicate i 0
theorem aAa(i:Nat):Pt (i+1)=Pt i++[0]:=aLW
theorem aD9 {L:List UInt8}{w:aL0}(hl:L.length<=900000):
 aG pg M9 #[.string ⟨L.toArray⟩] w (λr w'=>r= .agg ((Yw L).map gT).toArray/\aL w w' aT):=by
 refine amD ?_
 obtain⟨RR,hRR⟩:∃RR:aL1->aL0->Prop,RR=λr w'=>r= .agg ((Yw L).map gT).toArray/\aL w w' aT:=⟨_,rfl⟩
 rw[<-hRR]
 have hsz:(⟨L.toArray⟩:ByteArray).size=L.length:=by simp[ByteArray.size]
 unfold avD XB XA
 refine BI λw1 o1 x1 s1=> ?_
 have o1:bD w1 w.heap.size (List.replicate 32 (.int .u8 0)):=o1
 obtain⟨sb,hsb⟩:∃sb,sb=w.heap.size:=⟨_,rfl⟩
 rw[<-hsb]at o1⊢
 refine Ig λw2 c hsl x2 s2 ⟨rr,o2,hc⟩=> ?_
 obtain⟨bb,hbb⟩:∃bb,bb=w1.heap.size:=⟨_,rfl⟩
 rw[<-hbb]at o2 hsl⊢
 rw[hsz]at hc⊢
 have o2:bD w2 bb (L.map gT++List.replicate rr (.int .u8 0)):=o2
 have os2:mP w2 bb 1 (.slice (some ⟨bb,0,none⟩) L.length c) L.length (L.map gT):=⟨by simp,.inr ⟨bb,c,_,rfl,aJO _,o2,by simp;omega,by omega⟩⟩
 simp(disch:=omega)only[SV]
 refine mH (cells:= #[.int .u8 128]) (by decide) (by decide) (by kernel_rfl) λw3 o3 x3 s3=> ?_
 refine iY (m:=1) (news:=[.int .u8 128]) (os2.ext x3 (λ_ _ h=>h)) (o3.cl (off:=0) (l:=[.int .u8 128]) (n:=1) rfl (λi hi=>by rw[aJG])) (by simp[one]) (by omega) (by omega) λv4 w4 o4 x4=> ?_
 have x14:aL w1 w4 (λy=>bb<=y):=((x2.mono λ_ _ h=>h.elim).seq (x3.mono λ_ _ h=>h.elim)).seq x4
 have o4:mP w4 bb 1 v4 (L++[128]++Pt 0).length ((L++[128]++Pt 0).map gT):=by
  have e:(L++[128]++Pt 0)=L++[128]:=by simp[Pt]
  rw[e,aJF,aKb]
  exact o4
 unfold Ok Hu
 refine bM.rule (λm (t:aL1) W=>∃i:Nat,m=(119-L.length%64)%64-i/\i<=(119-L.length%64)%64/\mP W bb 1 t (L++[128]++Pt i).length ((L++[128]++Pt i).map gT)/\aL w1 W (λy=>bb<=y)) ((119-L.length%64)%64) ⟨0,rfl,by omega,o4,x14⟩ ?_
 clear o4 x14
 rintro m t w5 ⟨i,rfl,hi,o5,x5⟩
 obtain⟨ta,tc,rfl⟩:=o5.len
 have hlen:(L++[128]++Pt i).length=L.length+1+i:=by simp[Pt];omega
 have z5:=x5.size
 unfold Oj
 have q1:(((L++[128]++Pt i).length:Nat):Int)+8=((L.length+1+i+8:Nat):Int):=by omega
 have q2:((L.length+1+i+8:Nat):Int).tmod 64=(((L.length+1+i+8)%64:Nat):Int):=rfl
 by_cases hlt:i<(119-L.length%64)%64
 .have n1:((((L.length+1+i+8)%64:Nat):Int) !=0)=true:=by rw[bne_iff_ne];omega
  simp(disch:=omega)only[SV,q1,q2,n1]
  refine mH (cells:= #[.int .u8 0]) (by decide) (by decide) (by kernel_rfl) λw6 o6 x6 s6=> ?_
  refine iY (m:=1) (news:=[.int .u8 0]) (o5.ext x6 (λ_ _ h=>h)) (o6.cl (off:=0) (l:=[.int .u8 0]) (n:=1) rfl (λi hi=>by rw[aJG])) (by simp[one]) (by omega) (by omega) λv7 w7 o7 x7=> ?_
  refine⟨(119-L.length%64)%64-(i+1),by omega,i+1,rfl,by omega, ?_,(x5.seq (x6.mono λ_ _ h=>h.elim)).seq x7⟩
  rw[aAa,<-aJW,aJF,aKb]
  exact o7
 have n1:((((L.length+1+i+8)%64:Nat):Int) !=0)=false:=by
  have:(L.length+1+i+8)%64=0:=by omega
  rw[this]<;>rfl
 simp(disch:=omega)only[SV,q1,q2,n1]
 obtain rfl:i=(119-L.length%64)%64:=by omega
 unfold Oi Xz
 have e1:IntKind.u64.wrap ((L.length:Nat):Int)=((L.length:Nat):Int):=gX (by omega) (by omega)
 have e2:((L.length:Nat):Int)*8=((8*L.length:Nat):Int):=by omega
 simp(disch:=omega)only[SV,hsz,e1,e2]
 obtain⟨X,hX⟩:∃X,X=8*L.length:=⟨_,rfl⟩
 have hXb:X<=8000000:=by omega
 rw[<-hX]
 obtain⟨Q,hQ⟩:∃Q,Q=L++[128]++Pt ((119-L.length%64)%64):=⟨_,rfl⟩
 rw[<-hQ]at o5 hlen⊢
 clear n1 q1 q2 hlt hi e1 e2
 unfold Oh Og Xy Ht
 refine bM.rule (λm (t:aL1×aL1) W=>∃(i:Nat) (bv:aL1),m=8-i/\i<=8/\t=(bv,.int .i64 (i:Nat))/\mP W bb 1 bv (Q++beN X i).length ((Q++beN X i).map gT)/\aL w1 W (λy=>bb<=y)) 8 ⟨0,_,rfl,by omega,rfl,by rw[show beN X 0=[]from rfl,aKf];exact o5,x5⟩ ?_
 clear o5 x5
 rintro m t w6 ⟨i,bv,rfl,hi,rfl,o6,x6⟩
 obtain⟨ta,tc,rfl⟩:=o6.len
 have z6:=x6.size
 unfold Of
 by_cases hlt:i<8
 .have d1:decide ((i:Int)<8)=true:=by simp;omega
  have q1:(8:Int)*(i:Int)=((8*i:Nat):Int):=by omega
  have q2:(56:Int)-((8*i:Nat):Int)=((56-8*i:Nat):Int):=by omega
  have q3:IntKind.u64.wrap ((56-8*i:Nat):Int)=((56-8*i:Nat):Int):=gX (by omega) (by omega)
  have q4:=LG X (56-8*i)
  have q5:min (56-8*i) IntKind.u64.bits=56-8*i:=aJ5 (show 56-8*i<=64 from by omega)
  have q6:IntKind.u8.wrap ((X/2^(56-8*i):Nat):Int)=((X/2^(56-8*i)%256:Nat):Int):=by rw[wu8];omega
  have q7:(i:Int)+1=((i+1:Nat):Int):=by omega
  have hby:Value.int .u8 ((X/2^(56-8*i)%256:Nat):Int)=gT (UInt8.ofNat (X/2^(56-8*i)%256)):=by
   unfold gT
   rw[aKZ,Nat.mod_mod]
  have hsl:=asH X i
  generalize UInt8.ofNat (X/2^(56-8*i)%256)=u at*
  generalize X/2^(56-8*i)%256=y at*
  have hql:(Q++beN X i).length=Q.length+i:=by rw[aJF,afH]
  simp(disch:=omega)only[SV,d1,q1,q2,q3,q4,q5,q6,hby]
  refine mH (cells:= #[gT u]) (by decide) (by decide) (by kernel_rfl) λw7 o7 x7 s7=> ?_
  refine iY (m:=1) (news:=[gT u]) (o6.ext x7 (λ_ _ h=>h)) (o7.cl (off:=0) (l:=[gT u]) (n:=1) rfl (λi hi=>by rw[aJG])) (by simp[one,gT]) (by omega) (by omega) λv8 w8 o8 x8=> ?_
  simp(disch:=omega)only[SV,q7]
  refine⟨8-(i+1),by omega,i+1,_,rfl,by omega,rfl, ?_,(x6.seq (x7.mono λ_ _ h=>h.elim)).seq x8⟩
  rw[hsl,<-aJW,aJF,aKb]
  exact o8
 have d1:decide ((i:Int)<8)=false:=by simp;omega
 obtain rfl:i=8:=by omega
 simp(disch:=omega)only[SV,d1]
 obtain⟨P,hP⟩:∃P,P=Q++beN X 8:=⟨_,rfl⟩
 have hPp:ayK L=P:=by rw[hP,hQ,hX]<;>rfl
 have hPl:P.length=L.length+1+(119-L.length%64)%64+8:=by rw[hP,aJF,afH,hlen]
 rw[<-hP]at o6⊢
 have hbs:Bs w6 (.slice ta P.length tc) P:=o6.sl
 have aS:bD w6 sb (List.replicate 32 (.int .u8 0)):=o1.ext x6 (by omega)
 have x06:aL w w6 aT:=x1.trans x6 λy hy h=>by omega
 clear hX hlt hi d1
 unfold Oe Xx
 simp(disch:=omega)only[SV]
 refine KI λw7 o7 x7 s7=> ?_
 obtain⟨hb,hhb⟩:∃hb,hb=w6.heap.size:=⟨_,rfl⟩
 rw[<-hhb]at o7⊢
 refine DE o7 rfl (by simp[one]) (by simp) λw8 o8 x8 s8=> ?_
 have o8:bD w8 hb ((Hf 0 P).map u32):=o8
 refine(ayY w8).mono ?_
 rintro r w9 ⟨rfl,x9⟩
 refine CQ λwa oa xa sa=> ?_
 obtain⟨kb,hkb⟩:∃kb,kb=w9.heap.size:=⟨_,rfl⟩
 rw[<-hkb]at oa⊢
 refine Pq oa rfl (λy hy=>KF _ y (by simpa using hy)) (by simp) λwb ob xb sb'=> ?_
 have ob:bD wb kb (kN.map u32):=ob
 have hbl:=o8.lt
 have z9:=x9.size
 have x6b:aL w6 wb aT:=(((x7.trans x8 λy hy h=>by omega).seq x9).seq xa).trans xb λy hy h=>by have:=x7.size;omega
 have oH:bD wb hb ((Hf 0 P).map u32):=((o8.ext x9 (λh=>h)).ext xa (λh=>h)).ext xb (by omega)
 have hne:hb≠kb:=by omega
 have hbsb:=hbs.ext x6b (bC _)
 have hPo:¬fK (.slice ta P.length tc) (λy=>y=hb):=λh=>hbs.old (bO h λy hy=>by omega)
 unfold Od Oc Xw Hs
 refine bM.rule (λm (t:aL1) W=>∃k:Nat,m=P.length/64-k/\k<=P.length/64/\t= .int .i64 ((64*k:Nat):Int)/\bD W hb ((Hf k P).map u32)/\aL wb W (λy=>y=hb)) (P.length/64) ⟨0,rfl,by omega,rfl,oH,aL.refl _ _⟩ ?_
 rintro m t wc ⟨k,rfl,hk,rfl,oc,xc⟩
 unfold Ob Xv
 by_cases hlt:k<P.length/64
 .have d1:decide (((64*k:Nat):Int)<((P.length:Nat):Int))=true:=decide_eq_true (by omega)
  simp(disch:=omega)only[SV,d1]
  unfold Oa Di
  refine aD6 (s:=Hf k P) (hbsb.ext xc hPo) (by omega) (by omega) oc (AZ k P) (Wd k P) (ob.ext xc (λh=>hne h.symm)) hne hPo λwd od xd=> ?_
  unfold NO
  have q1:((64*k:Nat):Int)+64=((64*(k+1):Nat):Int):=by omega
  simp(disch:=omega)only[SV,q1]
  refine⟨P.length/64-(k+1),by omega,k+1,rfl,by omega,rfl, ?_,xc.seq xd⟩
  rw[aBl]
  exact od
 have d1:decide (((64*k:Nat):Int)<((P.length:Nat):Int))=false:=decide_eq_false (by omega)
 obtain rfl:k=P.length/64:=by omega
 simp(disch:=omega)only[SV,d1]
 obtain⟨H,hH⟩:∃H,H=Hf (P.length/64) P:=⟨_,rfl⟩
 have hHl:H.length=8:=by rw[hH];exact AZ _ _
 have hHt:CL H:=by rw[hH];exact Wd _ _
 have hsha:Yw L=Zz H 32:=by unfold Yw;rw[hPp,hH]
 rw[<-hH]at oc
 have x0c:aL w wc aT:=(x06.seq x6b).trans xc λy hy h=>by have:=x06.size;omega
 have aS:=(aS.ext x6b (λh=>h)).ext xc (show¬sb=hb by have:=aS.lt;omega)
 clear d1 hlt hk
 unfold R2 abH
 refine BI λwd od xd sd=> ?_
 have od:bD wd wc.heap.size (List.replicate 32 (.int .u8 0)):=od
 obtain⟨ob',hob'⟩:∃ob',ob'=wc.heap.size:=⟨_,rfl⟩
 rw[<-hob']at od⊢
 have oHd:=oc.ext xd (λh=>h)
 have oSd:=aS.ext xd (λh=>h)
 have hcl:=oc.lt
 have scl:=aS.lt
 unfold R1 R0 abG Kn
 refine bM.rule (λm (t:aL1) W=>∃i:Nat,m=32-i/\i<=32/\t= .int .i64 (i:Nat)/\bD W ob' ((Zz H i).map gT++List.replicate (32-i) (Value.int .u8 0))/\aL wd W (λy=>y=ob')) 32 ⟨0,rfl,by omega,rfl,by simpa[Zz]using od,aL.refl _ _⟩ ?_
 rintro m t we ⟨i,rfl,hi,rfl,oe,xe⟩
 unfold RZ
 by_cases hlt:i<32
 .have d1:decide ((i:Int)<32)=true:=by simp;omega
  have q0:(i:Int).tdiv 4=((i/4:Nat):Int):=by rw[aLC (by omega)];omega
  have q1:(i:Int).tmod 4=((i%4:Nat):Int):=by rw[Int.tmod_eq_emod_of_nonneg (by omega)];omega
  have q2:(8:Int)*((i%4:Nat):Int)=((i%4*8:Nat):Int):=by omega
  have q3:(24:Int)-((i%4*8:Nat):Int)=((24-i%4*8:Nat):Int):=by omega
  have q4:IntKind.u64.wrap ((24-i%4*8:Nat):Int)=((24-i%4*8:Nat):Int):=gX (by omega) (by omega)
  have q5:=LG (H.getD (i/4) 0) (24-i%4*8)
  have q6:min (24-i%4*8) IntKind.u32.bits=24-i%4*8:=aJ5 (show 24-i%4*8<=32 from by omega)
  have q7:IntKind.u8.wrap ((H.getD (i/4) 0/2^(24-i%4*8):Nat):Int)=((H.getD (i/4) 0/2^(24-i%4*8)%256:Nat):Int):=by rw[wu8];omega
  have q8:(i:Int)+1=((i+1:Nat):Int):=by omega
  have hin:(i:Int).toNat=i:=aJI _
  have hi4:((i/4:Nat):Int).toNat=i/4:=aJI _
  have c1:=(oHd.ext xe (show¬hb=ob' by omega)).cell (off:=i/4)
  rw[xS (by omega)]at c1
  have hby:Value.int .u8 ((H.getD (i/4) 0/2^(24-i%4*8)%256:Nat):Int)=gT (UInt8.ofNat (H.getD (i/4) 0/2^(24-i%4*8)%256)):=by
   unfold gT
   rw[aKZ,Nat.mod_mod]
  have hsl:=anX H i
  generalize UInt8.ofNat (H.getD (i/4) 0/2^(24-i%4*8)%256)=u at*
  generalize H.getD (i/4) 0/2^(24-i%4*8)%256=y at*
  simp(disch:=omega)only[SV,d1,q0,q1,q2,q3,q4,q5,q6,q7,hin,hi4,c1,hby,aJG]
  refine akQ oe rfl (by simp[IW];omega) λwf of_ xf sf=> ?_
  simp(disch:=omega)only[SV,q8]
  refine⟨32-(i+1),by omega,i+1,rfl,by omega,rfl, ?_,xe.seq xf⟩
  rw[hsl,aKb]
  obtain⟨m,hm⟩:∃m,32-i=m+1:=⟨32-i-1,by omega⟩
  rw[hm,aKj _ _ (by simp[IW]),aJC,IW,aKT,aLH,aJV]at of_
  rw[show 32-(i+1)=m from by omega,aJW]
  exact of_
 have d1:decide ((i:Int)<32)=false:=by simp;omega
 obtain rfl:i=32:=by omega
 rw[aKT,aLt,aKf,<-hsha]at oe
 have hl32:((Yw L).map gT).length=32:=by rw[aJC];exact vS _
 have lo:=aaW (off:=0) oe (by omega)
 rw[aJY,aJH (by omega)]at lo
 unfold RY
 simp(disch:=omega)only[SV,d1,lo]
 refine F9 (oSd.ext xe (show¬sb=ob' by omega)) (by rw[aKL];exact hl32) (λy hy=>Eg _ y (by simpa using hy)) (by simp) λwg og xg sg=> ?_
 rw[aJZ,uZ _ _ (by rw[hl32];simp)]at og
 refine FM og (by omega) ?_
 rw[aJY,aJH (by omega),hRR]
 exact⟨rfl,((x0c.seq xd).trans xe λy hy h=>by have:=x0c.size;omega).trans xg λy hy h=>by omega⟩
theorem aI3 (l:List UInt8):(⟨#[0]⟩:ByteArray)++(⟨l.toArray⟩:ByteArray)=⟨(0::l).toArray⟩:=by
 refine agS ?_
 rw[ahV]
 rfl
theorem aB1 {l:List UInt8}{w:aL0}(hl:l.length<=800000):
 aG pg Ha #[.string ⟨l.toArray⟩] w (λr w'=>r= .agg ((aX l).map gT).toArray/\aL w w' aT):=by
 refine aeA ?_
 unfold aiP UH
 refine BI λw1 o1 x1 s1=> ?_
 have o1:bD w1 w.heap.size (List.replicate 32 (.int .u8 0)):=o1
 have hcat:=λ(t:TypeId) (ox oy:Operand) (w:aL0)=>aqM (P:=pg) (w:=w) (t:=t) (ox:=ox) (oy:=oy) ⟨#[0]⟩ ⟨l.toArray⟩ (by show((1+l.toArray.size:Nat):Int)<=_;simp;omega)
 simp only[aI3]at hcat
 simp(disch:=omega)only[SV,hcat]
 refine(aD9 (L:=0::l) (by simp;omega)).mono ?_
 rintro r w2 ⟨rfl,x2⟩
 have hl32:((Yw (0::l)).map gT).length=32:=by rw[aJC];exact vS _
 refine F9 (o1.ext x2 (λh=>h)) (by rw[aKL];exact hl32) (λy hy=>Eg _ y (by simpa using hy)) (by simp) λw3 o3 x3 s3=> ?_
 rw[aJZ,uZ _ _ (by rw[hl32];simp)]at o3
 refine FM o3 (by omega) ?_
 rw[aJY,aJH (by omega)]
 exact⟨rfl,(x1.seq x2).trans x3 λy hy h=>by omega⟩
end Go.Proofs.YteelnmpbnaohpaaGreatDoor
namespace Go.Pu
open Go.En
def b1 (x:Nat):Nat:=if x%2=1 then x/2^^^2197175160 else x/2
def b1N:Nat->Nat->Nat
 |0,x=>x
 |k+1,x=>b1 (b1N k x)
theorem apM(x y:Nat):b1 (x^^^y)=b1 x^^^b1 y:=by
 unfold b1
 have h1:(x^^^y)%2=x%2^^^y%2:=Nat.xor_mod_two_pow (n:=1)
 have h2:(x^^^y)/2=x/2^^^y/2:=Nat.xor_div_two
 rw[h1,h2]
 rcases Nat.mod_two_eq_zero_or_one x with hx|hx<;>rcases Nat.mod_two_eq_zero_or_one y with hy|hy
 .rw [hx,hy];simp
 .rw [hx,hy];simp[aLE]
 .rw [hx,hy]
  rw[if_pos (by decide),if_pos rfl,if_neg (by decide),aLE,Nat.xor_comm (y/2),<-aLE]
 .rw [hx,hy]
  rw[if_neg (by decide),if_pos rfl,if_pos rfl,aLE,<-aLE 2197175160,Nat.xor_comm 2197175160,aLE,Nat.xor_self,Nat.xor_zero]
theorem apL(a:Nat):b1 (2*a)=a:=by
 unfold b1
 rw[if_neg (by omega)];omega
theorem aFZ(x:Nat):x=16*(x/16)^^^(x%16):=by
 apply Nat.eq_of_testBit_eq
 intro i
 have h1:16*(x/16)=2^4*(x/2^4):=rfl
 have h2:x%16=x%2^4:=rfl
 rw[Nat.testBit_xor,h1,h2,Nat.testBit_mod_two_pow,Nat.testBit_two_pow_mul]
 by_cases hi:i<4
 .rw [decide_eq_true hi,decide_eq_false (by omega)];simp
 .rw [decide_eq_false hi,decide_eq_true (by omega),Nat.testBit_div_two_pow]
  simp[show i-4+4=i from by omega]
theorem anO(x:Nat):b1 (b1 (b1 (b1 x)))=aaQ x:=by
 have hr:x%16<16:=aLo _ (by decide)
 have h16:∀r:Fin 16,b1 (b1 (b1 (b1 r.val)))=hN.getD r.val 0:=by decide
 have hq:b1 (b1 (b1 (b1 (16*(x/16)))))=x/16:=by
  rw[show 16*(x/16)=2*(8*(x/16))from by omega,apL,show 8*(x/16)=2*(4*(x/16))from by omega,apL,show 4*(x/16)=2*(2*(x/16))from by omega,apL,apL]
 have hand:x&&&15=x%16:=Nat.and_two_pow_sub_one_eq_mod x 4
 unfold aaQ
 rw[hand]
 conv=>lhs;rw[aFZ x]
 rw[apM,apM,apM,apM,hq,h16 ⟨x%16,hr⟩]
theorem aBo(x:Nat)(c:UInt8):b1N 8 (x^^^c.toNat)=aBr x c:=by
 unfold aBr
 rw[<-anO,<-anO]
 rfl
end Go.Pu
namespace Go.Proofs.YteelnmpbnaohpaaGreatDoor
open Go Go.En Go.Pu
set_option maxRecDepth 4000
theorem aHM{x:Nat}(h:x<iW):b1 x<iW:=by
 unfold b1
 split
 .exact AR (Nat.lt_of_le_of_lt (aLI _ _) h) (by decide)
 .exact Nat.lt_of_le_of_lt (aLI _ _) h
theorem aCM{x:Nat}(h:x<iW):∀k,b1N k x<iW
 |0=>h
 |k+1=>aHM (aCM h k)
theorem aD7 {s:List UInt8}{w:aL0}(hl:s.length<=1000000000):aG pg Na #[.string ⟨s.toArray⟩] w (λr w'=>r= .int .u32 (aY s:Nat)/\w'=w):=by
 refine amE ?_
 obtain⟨RR,hRR⟩:∃RR:aL1->aL0->Prop,RR=λr w'=>r= .int .u32 (aY s:Nat)/\w'=w:=⟨_,rfl⟩
 rw[<-hRR]
 have hM:iW=4294967296:=rfl
 have hsz:(⟨s.toArray⟩:ByteArray).size=s.length:=by simp[ByteArray.size]
 unfold avE XF XE Oo On XD Hv
 refine bM.rule (λm (t:aL1×aL1) w'=>∃i:Nat,m=s.length-i/\i<=s.length/\t=(.int .u32 (TM 4294967295 (s.take i):Nat),.int .i64 (i:Nat))/\w'=w) s.length ⟨0,rfl,by omega,rfl,rfl⟩ ?_
 rintro m t w1 ⟨i,rfl,hi,rfl,hw⟩
 rw[hw];clear hw w1
 have hg:=afL (x:=4294967295) (by decide) (s.take i)
 unfold Om XC
 by_cases hlt:i<s.length
 .have d1:decide ((i:Int)<(s.length:Int))=true:=by simp;omega
  have hin:(i:Int).toNat=i:=aJI _
  have hix:=λw=>Am (k:= .i64) (a:=(i:Int)) ⟨s.toArray⟩ w (by omega) (by rw[hin,hsz];exact hlt)
  have hel:((⟨s.toArray⟩:ByteArray)[(i:Int).toNat]'(by rw[hin];show i<ByteArray.size _;rw[hsz];exact hlt))=s[i]:=by
   simp only[hin];rfl
  have hel2:((⟨s.toArray⟩:ByteArray)[i]'(by show i<ByteArray.size _;rw[hsz];exact hlt))=s[i]:=rfl
  have hc:=(s[i]).toNat_lt
  have e1:IntKind.u32.wrap (((s[i]).toNat:Nat):Int)=(((s[i]).toNat:Nat):Int):=JM (by omega) (by omega)
  obtain⟨G,hG⟩:∃G,G=TM 4294967295 (s.take i):=⟨_,rfl⟩
  rw[<-hG]at hg⊢
  have e2:=fH hg (HN s[i])
  obtain⟨x0,hx0⟩:∃x0,x0=G^^^(s[i]).toNat:=⟨_,rfl⟩
  have hx0l:x0<iW:=by rw[hx0];exact AR hg (HN _)
  rw[<-hx0]at e2
  unfold Ol Sa abM
  simp(disch:=omega)only[SV,hsz,d1,hix,hin,hel2,e1,e2]
  unfold Ko
  refine bM.rule (λm (t:aL1×aL1) w'=>∃k:Nat,m=8-k/\k<=8/\t=(.int .u32 (b1N k x0:Nat),.int .i64 (k:Nat))/\w'=w) 8 ⟨0,rfl,by omega,rfl,rfl⟩ ?_
  rintro m t w1 ⟨k,rfl,hk,rfl,hw⟩
  rw[hw];clear hw w1
  have hb:=aCM hx0l k
  obtain⟨y,hy⟩:∃y,y=b1N k x0:=⟨_,rfl⟩
  have hs:b1N (k+1) x0=b1 y:=by rw[hy]<;>rfl
  rw[<-hy]at hb⊢
  unfold R9 abL
  by_cases hk8:k<8
  .have d2:decide ((k:Int)<8)=true:=by simp;omega
   have q1:(k:Int)+1=((k+1:Nat):Int):=by omega
   have m1:(y:Int).tmod 2=((y%2:Nat):Int):=rfl
   have m2:(y:Int).tdiv 2=((y/2:Nat):Int):=rfl
   have w1:IntKind.u32.wrap ((y%2:Nat):Int)=((y%2:Nat):Int):=JM (by omega) (by omega)
   have w2:IntKind.u32.wrap ((y/2:Nat):Int)=((y/2:Nat):Int):=JM (by omega) (by omega)
   unfold R8
   by_cases ho:y%2=1
   .have k1:(((y%2:Nat):Int)==1)=true:=by rw[ho]<;>rfl
    have e3:afF .u32 ((y/2:Nat):Int) 2197175160=((y/2^^^2197175160:Nat):Int):=fH (a:=y/2) (b:=2197175160) (by omega) (by decide)
    have hs2:b1 y=y/2^^^2197175160:=by unfold b1;rw[if_pos ho]
    simp(disch:=omega)only[SV,d2,m1,m2,w1,w2,k1,e3,q1]
    exact⟨8-(k+1),by omega,k+1,rfl,by omega,by rw[hs,hs2]⟩
   .have k1:(((y%2:Nat):Int)==1)=false:=by rw[beq_eq_false_iff_ne];omega
    have hs2:b1 y=y/2:=by unfold b1;rw[if_neg ho]
    simp(disch:=omega)only[SV,d2,m1,m2,w1,w2,k1,q1]
    exact⟨8-(k+1),by omega,k+1,rfl,by omega,by rw[hs,hs2]⟩
  .have d2:decide ((k:Int)<8)=false:=by simp;omega
   have q1:(i:Int)+1=((i+1:Nat):Int):=by omega
   have hk8':k=8:=by omega
   unfold R7
   simp(disch:=omega)only[SV,d2,q1]
   refine⟨s.length-(i+1),by omega,i+1,rfl,by omega, ?_⟩
   rw[hy,hk8',hx0,aBo,aJ3 hlt,anE,hG]
 .have d1:decide ((i:Int)<(s.length:Int))=false:=by simp;omega
  rw[aJH (by omega)]at hg⊢
  have e3:afF .u32 ((TM 4294967295 s:Nat):Int) 4294967295=((TM 4294967295 s^^^4294967295:Nat):Int):=fH (a:=TM 4294967295 s) (b:=4294967295) hg (by decide)
  unfold R6
  simp(disch:=omega)only[SV,hsz,d1,e3]
  rw[hRR]
  refine⟨?_,rfl⟩
  unfold aY
  rw[Nat.xor_comm]
theorem aB2 {b:List UInt8}{w:aL0}(hn:8<=b.length):aG pg CE #[.agg #[.string ⟨b.toArray⟩,.int .i64 0],.int .i64 8] w (λr w'=>r= .tuple #[.agg #[.string ⟨(b.drop 8).toArray⟩,.int .i64 0],.int .u64 (DL (b.take 8):Nat)]/\aL w w' aT):=by
 refine Xl ?_
 obtain⟨RR,hRR⟩:∃RR:aL1->aL0->Prop,RR=λr w'=>r= .tuple #[.agg #[.string ⟨(b.drop 8).toArray⟩,.int .i64 0],.int .u64 (DL (b.take 8):Nat)]/\aL w w' aT:=⟨_,rfl⟩
 rw[<-hRR]
 unfold Xk Mx Mw
 refine cA λw1 o1 x1 s1=> ?_
 have o1:bD w1 w.heap.size [.string ⟨b.toArray⟩,.int .i64 0]:=o1
 obtain⟨db,hdb⟩:∃db,db=w.heap.size:=⟨_,rfl⟩
 rw[<-hdb]at o1⊢
 refine yD λw2 o2 x2 s2=> ?_
 obtain⟨rb,hrb⟩:∃rb,rb=w1.heap.size:=⟨_,rfl⟩
 rw[<-hrb]at o2⊢
 have oD:=o1.ext x2 (λh=>h)
 have c1:w2.cell? ⟨db,1,none⟩=some (.int .i64 0):=oD.cell (off:=1)
 have k1:((0:Int)==0)=true:=rfl
 have d1:decide ((8:Int)<1)=false:=rfl
 have d2:decide ((8:Int)<8)=false:=rfl
 simp(disch:=omega)only[aA,jZ,aJG,aI,C4,c1,bK,O8,k1,uQ,jH,if_true,gI,eX,d1,qB,aJM,if_false,vQ,d2,bH]
 unfold Gz Pa
 have ld:(aB 158 (.pointer (some ⟨db,0,none⟩))).run pg w2= .ok (.value (.agg #[.string ⟨b.toArray⟩,.int .i64 0])) w2:=wI (off:=0) oD (by simp)
 simp(disch:=omega)only[aA,ld,aI]
 refine(aB3 (n:=8) hn).mono ?_
 rintro r w3 ⟨rfl,x3⟩
 simp(disch:=omega)only[x20,x21,aI]
 refine pT (oD.ext x3 (λh=>h)) rfl (by intro x hx;simp only[aJK,aJN,or_false]at hx;rcases hx with rfl|rfl<;>rfl) (by simp) λw4 o4 x4 s4=> ?_
 have o4:bD w4 db [.string ⟨(b.drop 8).toArray⟩,.int .i64 0]:=o4
 have oR:=(o2.ext x3 (λh=>h)).ext x4 (by omega)
 have x04:aL w w4 aT:=((x1.seq x2).seq x3).trans x4 λy hy hh=>by omega
 unfold Gy Gx O9 Bx
 obtain⟨s,hs⟩:∃s,s=b.take 8:=⟨_,rfl⟩
 have hsl:s.length=8:=by rw[hs,aJP];omega
 rw[<-hs]at hRR⊢
 have hsz:(⟨s.toArray⟩:ByteArray).size=8:=by simp[ByteArray.size,hsl]
 refine bM.rule (λm (t:aL1×aL1×aL1) W=>∃i:Nat,m=8-i/\i<=8/\t=(.int .u64 (DL (s.take i):Nat),.int .u64 (256^i%2^64:Nat),.int .i64 (i:Nat))/\W=w4) 8 ⟨0,rfl,by omega,rfl,rfl⟩ ?_
 rintro m t W ⟨i,rfl,hi,rfl,hW⟩
 rw[hW];clear hW W
 unfold Gw
 have z8:(⟨s.toArray⟩:ByteArray).size=8:=hsz
 by_cases hlt:i<8
 .have d3:decide ((i:Int)<((8:Nat):Int))=true:=by simp;omega
  have hin:(i:Int).toNat=i:=aJI _
  have hil:i<s.length:=by omega
  have hix:=λw=>Am (k:= .i64) (a:=(i:Int)) ⟨s.toArray⟩ w (by omega) (by rw[hin,hsz];exact hlt)
  have hel:((⟨s.toArray⟩:ByteArray)[(i:Int).toNat]'(by rw[hin];show i<ByteArray.size _;rw[hsz];exact hlt))=s[i]:=by
   simp only[hin];rfl
  have hel2:((⟨s.toArray⟩:ByteArray)[i]'(by show i<ByteArray.size _;rw[hsz];exact hlt))=s[i]:=rfl
  have hc:=(s[i]).toNat_lt
  have e1:IntKind.u64.wrap (((s[i]).toNat:Nat):Int)=(((s[i]).toNat:Nat):Int):=gX (by omega) (by omega)
  have hp:DL (s.take (i+1))=DL (s.take i)+256^i*(s[i]).toNat:=by
   rw[aJ3 hil,Zx,aJP,aJ5 (by omega)]
  have hpl:=Hl (s.take (i+1))
  rw[aJP,aJ5 (by omega)]at hpl
  have hpw:256^(i+1)<=2^64:=by
   have:256^(i+1)<=256^8:=aLb (by decide) (by omega)
   exact this
  have hpl:=aKe hpl hpw
  have hM:256^i%2^64=256^i:=aKl (by rw[aLr]at hpw;have:=Nat.pow_pos (n:=i) (show 0<256 by decide);omega)
  have hMs:256^(i+1)%2^64=256^i*256%2^64:=by rw[aLr]
  rw[hM]
  have h64:(2:Nat)^64=18446744073709551616:=rfl
  rw[h64]at hpw hMs
  rw[aLr]at hpw
  generalize 256^i=M at*
  obtain⟨c,e0⟩:∃c,(s[i]).toNat=c:=⟨_,rfl⟩
  rw[e0]at hc e1 hp
  obtain⟨P,hP⟩:∃P,P=DL (s.take i):=⟨_,rfl⟩
  rw[<-hP]at hp⊢
  obtain⟨Q,hQ⟩:∃Q,Q=M*c:=⟨_,rfl⟩
  rw[<-hQ]at hp
  have e2:(c:Int)*(M:Int)=(Q:Int):=by rw[hQ,aLL,Int.natCast_mul]
  have e3:IntKind.u64.wrap (Q:Int)=(Q:Int):=gX (by omega) (by omega)
  have e4:(P:Int)+(Q:Int)=((P+Q:Nat):Int):=by omega
  have e5:IntKind.u64.wrap ((P+Q:Nat):Int)=((P+Q:Nat):Int):=gX (by omega) (by omega)
  have e6:IntKind.u64.wrap ((M:Int)*256)=((M*256%18446744073709551616:Nat):Int):=by
   rw[show(M:Int)*256=((M*256:Nat):Int)by omega,aJi];omega
  have e7:(i:Int)+1=((i+1:Nat):Int):=by omega
  simp(disch:=omega)only[aA,nD,z8,hix,hin,hel2,e0,UC,e6,fT,e7,dG,aI,vM,e1,e2,e3,e4,e5,eX,d3,and_true,cN]
  refine⟨8-(i+1),by omega,i+1,rfl,by omega, ?_⟩
  rw[hp,h64,hMs]
 obtain rfl:i=8:=by omega
 have d3:decide (((8:Nat):Int)<((8:Nat):Int))=false:=rfl
 rw[aJH (by omega)]
 have ld4:(aB 158 (.pointer (some ⟨db,0,none⟩))).run pg w4= .ok (.value (.agg #[.string ⟨(b.drop 8).toArray⟩,.int .i64 0])) w4:=wI (off:=0) o4 (by simp)
 unfold Gv
 simp(disch:=omega)only[aA,nD,z8,UC,gX,fT,dG,aI,eX,d3,ld4,bH]
 refine pT oR rfl (by intro x hx;simp only[aJK,aJN,or_false]at hx;rcases hx with rfl|rfl<;>rfl) (by simp) λw5 o5 x5 s5=> ?_
 have o5:bD w5 rb [.string ⟨(b.drop 8).toArray⟩,.int .i64 0]:=o5
 refine DP o5 (by simp) ?_
 rw[hRR]
 exact⟨rfl,x04.trans x5 λy hy hh=>by omega⟩
theorem aHR{A B:List UInt8}{t:TypeId}{ox oy:Operand}{w:aL0}(hl:A.length+B.length<=1000000):(aE .add t ox oy (.string ⟨A.toArray⟩) (.string ⟨B.toArray⟩)).run pg w= .ok (.value (.string ⟨(A++B).toArray⟩)) w:=by
 have h1:=aqM (P:=pg) (t:=t) (ox:=ox) (oy:=oy) (w:=w) ⟨A.toArray⟩ ⟨B.toArray⟩ (by
  have e1:(⟨A.toArray⟩:ByteArray).size=A.length:=by simp[ByteArray.size]
  have e2:(⟨B.toArray⟩:ByteArray).size=B.length:=by simp[ByteArray.size]
  rw[e1,e2];omega)
 rw[h1]
 have:(⟨A.toArray⟩:ByteArray)++(⟨B.toArray⟩:ByteArray)=⟨(A++B).toArray⟩:=by
  refine agS ?_
  rw[ahV]
  rfl
 rw[this]
theorem aH7 {k:Nat}(hk:k<256):[UInt8.ofNat k]=vP k 1:=by
 rw[Tp,Nat.pow_zero,Nat.div_one,aKl hk]<;>rfl
def aqS(k v:Nat):List UInt8:=if k=1∨k=2 then pA aY k v else[]
theorem avG{k v:Nat}{w:aL0}(hk:k<256)(hv:v<2^64):
 aG pg Cc #[amC k v] w (λr w'=>r= .string ⟨(aqS k v).toArray⟩/\aL w w' aT):=by
 refine ajA ?_
 obtain⟨RR,hRR⟩:∃RR:aL1->aL0->Prop,RR=λr w'=>r= .string ⟨(aqS k v).toArray⟩/\aL w w' aT:=⟨_,rfl⟩
 rw[<-hRR]
 unfold aoH XT XS
 refine cA λw1 o1 x1 s1=> ?_
 have o1:bD w1 w.heap.size (qD (k,v)):=o1
 obtain⟨db,hdb⟩:∃db,db=w.heap.size:=⟨_,rfl⟩
 rw[<-hdb]at o1⊢
 have c0:w1.cell? ⟨db,0,none⟩=some (.int .u8 (k:Nat)):=o1.cell (off:=0)
 have c1:w1.cell? ⟨db,1,none⟩=some (.int .u64 (v:Nat)):=o1.cell (off:=1)
 by_cases hk12:k=1∨k=2
 rotate_left
 .have n1:(((k:Nat):Int) !=1)=true:=by rw[bne_iff_ne];omega
  have n2:(((k:Nat):Int) !=2)=true:=by rw[bne_iff_ne];omega
  simp(disch:=omega)only[aA,eA,aI,dT,aJG,aP,Result.ok.injEq,Next.value.injEq,and_true,true_and,Ap,yN,c0,bK,Km,n1,uQ,jH,if_true,gI,n2,cN]
  rw[hRR]
  refine⟨?_,x1⟩
  unfold aqS
  rw[if_neg hk12]
 have tail:∀w2,aL w1 w2 aT->Hy RR (.string ⟨(FQ k v).toArray⟩) w2:=by
  intro w2 x2
  unfold Hy
  have hH:(FQ k v).length=9:=by unfold FQ;rw[aJF,dX,dX]
  refine(aD7 (s:=FQ k v) (by omega)).mono ?_
  rintro r w3 ⟨rfl,hw⟩
  rw[hw];clear hw w3
  have hcr:=aAm (FQ k v)
  have hM:iW=4294967296:=rfl
  have e2:IntKind.u64.wrap ((aY (FQ k v):Nat):Int)=((aY (FQ k v):Nat):Int):=gX (by omega) (by omega)
  simp(disch:=omega)only[aA,sQ,e2,aI]
  refine(ajI (x:=aY (FQ k v)) (n:=4) (by omega) (by omega)).mono ?_
  rintro r w3 ⟨rfl,x3⟩
  have hcat:=λ(t:TypeId) (ox oy:Operand) (w:aL0)=>aHR (A:=FQ k v) (B:=vP (aY (FQ k v)) 4) (t:=t) (ox:=ox) (oy:=oy) (w:=w) (by rw[hH,dX];omega)
  simp(disch:=omega)only[hcat,aI]
  rw[hRR]
  refine⟨?_,(x1.seq x2).seq x3⟩
  unfold aqS
  rw[if_pos hk12]
  rfl
 have n1:k=1->(((k:Nat):Int) !=1)=false:=λh=>by rw[h]<;>rfl
 have hcat:=λ(t:TypeId) (ox oy:Operand) (w:aL0)=>aHR (A:=[UInt8.ofNat k]) (B:=vP v 8) (t:=t) (ox:=ox) (oy:=oy) (w:=w) (by rw[dX];simp)
 have hA:[UInt8.ofNat k]++vP v 8=FQ k v:=by rw[aH7 hk]<;>rfl
 rw[hA]at hcat
 have hb1:([UInt8.ofNat k].map gT)=[.int .u8 (k:Nat)]:=by
  simp only[aJU,aLU,gT]
  rw[aAC hk]
 have hn:(((k:Nat):Int) !=1)=true->(((k:Nat):Int) !=2)=false:=λh=>by
  rw[bne_iff_ne]at h
  rcases hk12 with rfl|rfl
  .exact absurd rfl h
  .rfl
 have od:=o1.ext (aL.dr w1 aT) (λh=>h)
 have cd0:(dr w1).cell? ⟨db,0,none⟩=some (.int .u8 (k:Nat)):=od.cell (off:=0)
 have cd1:(dr w1).cell? ⟨db,1,none⟩=some (.int .u64 (v:Nat)):=od.cell (off:=1)
 have own1:∀{w2 w3:aL0},bD w3 w2.heap.size #[Value.int .u8 (k:Nat)].toList->Bs w3 (.slice (some ⟨w2.heap.size,0,none⟩) 1 1) [UInt8.ofNat k]:=λ{w2 w3} h=>aqJ (l:=[UInt8.ofNat k]) (by rw[hb1];exact h)
 cases hk1:(((k:Nat):Int) !=1)
 case' true=>
  have hn:=hn hk1
  simp(disch:=omega)only[aA,eA,aI,dT,aJG,aP,Result.ok.injEq,Next.value.injEq,and_true,true_and,Ap,yN,c0,bK,Km,hk1,uQ,jH,if_true,gI,hn,bH]
 case' false=>simp(disch:=omega)only[aA,eA,aI,dT,aJG,aP,Result.ok.injEq,Next.value.injEq,and_true,true_and,Ap,yN,c0,bK,Km,hk1,wH,jH,aJM,if_false,bH,jQ]
 all_goals
  refine Qx ?_ ?_
  .simp (disch:=omega)only[cd0,bK,aI,true_and]
   refine mH (cells:= #[.int .u8 (k:Nat)]) (by decide) (by decide) (by kernel_rfl) λw2 o2 x2 s2=> ?_
   have hcv:=eP (own1 o2)
   have c2:w2.cell? ⟨db,1,none⟩=some (.int .u64 (v:Nat)):=(od.ext x2 (λh=>h)).cell (off:=1)
   simp(disch:=omega)only[hcv,c2,bK,cd1,Result.ok.injEq,Next.value.injEq,and_true,aI,true_and]
   refine(ajI (x:=v) (n:=8) (by omega) (by omega)).mono ?_
   rintro r w3 ⟨rfl,x3⟩
   have hcv3:=eP ((own1 o2).ext x3 (bC _))
   simp(disch:=omega)only[hcv3,hcat,aI,true_and]
   exact tail _ (((aL.dr w1 aT).seq x2).seq x3)
  .simp (disch:=omega)only[cd0,bK,cd1,aI,true_and]
   refine(ajI (x:=v) (n:=8) (by omega) (by omega)).mono ?_
   rintro r w3 ⟨rfl,x3⟩
   have c3:w3.cell? ⟨db,0,none⟩=some (.int .u8 (k:Nat)):=(od.ext x3 (λh=>h)).cell (off:=0)
   simp(disch:=omega)only[c3,bK,true_and]
   refine mH (cells:= #[.int .u8 (k:Nat)]) (by decide) (by decide) (by kernel_rfl) λw2 o2 x2 s2=> ?_
   have hcv:=eP (own1 o2)
   simp(disch:=omega)only[hcv,aI,hcat,true_and]
   exact tail _ (((aL.dr w1 aT).seq x3).seq x2)
theorem aAs{b:List UInt8}{i j:Nat}:(⟨b.toArray⟩:ByteArray).extract i j=⟨((b.drop i).take (j-i)).toArray⟩:=by
 refine agS ?_
 rw[RL]
 rfl
theorem aHm{a b:List UInt8}:((⟨a.toArray⟩:ByteArray).toList==(⟨b.toArray⟩:ByteArray).toList)=(a==b):=by
 rw[Tw]
 by_cases h:a=b
 .subst h;simp
 .have h2:(⟨a.toArray⟩:ByteArray)≠⟨b.toArray⟩:=λe=>h (by injection e with e;injection e)
  rw[decide_eq_false h2]
  simp[h]
theorem aB0 {p:List UInt8}(hp:p.length=13):(aqS (rdK p) (rdV p)==p)=Me aY p:=by
 unfold aqS Me
 by_cases h:rdK p=1∨rdK p=2
 .have:(rdK p==1||rdK p==2)=true:=by rw[aKu,beq_iff_eq,beq_iff_eq];exact h
  rw[if_pos h,this,aKM]
 .have:(rdK p==1||rdK p==2)=false:=by rw[aLm,beq_eq_false_iff_ne,beq_eq_false_iff_ne];omega
  rw[if_neg h,this,aKH,beq_eq_false_iff_ne]
  intro e
  rw[<-e]at hp
  cases hp
theorem aD8 {l:List UInt8}{w:aL0}(hl:l.length<=1000000000):
 aG pg Hc #[.string ⟨l.toArray⟩] w (λr w'=>∃o,r= .tuple #[o,.int .i64 ((13*(gB aY l).length:Nat):Int)]/\aoD w' w.heap.size o (gB aY l)/\aL w w' aT):=by
 refine aeK ?_
 obtain⟨RR,hRR⟩:∃RR:aL1->aL0->Prop,RR=λr w'=>∃o,r= .tuple #[o,.int .i64 ((13*(gB aY l).length:Nat):Int)]/\aoD w' w.heap.size o (gB aY l)/\aL w w' aT:=⟨_,rfl⟩
 rw[<-hRR]
 have hsz:(⟨l.toArray⟩:ByteArray).size=l.length:=by simp[ByteArray.size]
 unfold ajB UY UX Lw Fu
 refine bM.rule (λm (t:aL1×aL1) W=>∃(R:List (Nat×Nat)) (o:aL1),m=l.length-13*R.length/\13*R.length<=l.length/\t=(o,.int .i64 ((13*R.length:Nat):Int))/\gB aY l=R++gB aY (l.drop (13*R.length))/\aoD W w.heap.size o R/\aL w W aT) l.length
  ⟨[],_,rfl,by simp,rfl,rfl,⟨rfl,.inl ⟨rfl,rfl⟩⟩,aL.refl _ _⟩ ?_
 rintro m t w1 ⟨R,o,rfl,hR,rfl,hled,ho,x1⟩
 obtain⟨at',hat⟩:∃a,a=13*R.length:=⟨_,rfl⟩
 rw[<-hat]at hR hled⊢
 have fin:gB aY (l.drop at')=[]->∀w2,aL w1 w2 aT->RR (.tuple #[o,.int .i64 ((at':Nat):Int)]) w2:=by
  intro h w2 x2
  rw[h,aKf]at hled
  rw[hRR,hled,hat]
  exact⟨o,rfl,ho.ext x2 (λ_ _ h=>h),x1.seq x2⟩
 have q1:((at':Nat):Int)+13=((at'+13:Nat):Int):=by omega
 have q2:((at':Nat):Int)+1=((at'+1:Nat):Int):=by omega
 unfold Lv
 by_cases hlt:at'+13<=l.length
 rotate_left
 .have d1:decide (((at'+13:Nat):Int)<=((l.length:Nat):Int))=false:=decide_eq_false (by omega)
  unfold Lu
  simp(disch:=omega)only[SV,q1,hsz,d1]
  refine fin ?_ _ (aL.refl _ _)
  by_cases hne:l.drop at'=[]
  .rw [hne]<;>rfl
  .rw [Zq hne,if_neg]
   intro hg
   have:=Tk aY hg
   rw[aJP,aJS]at this
   omega
 have d1:decide (((at'+13:Nat):Int)<=((l.length:Nat):Int))=true:=decide_eq_true (by omega)
 obtain⟨p,hp⟩:∃p,p=(l.drop at').take 13:=⟨_,rfl⟩
 have hpl:p.length=13:=by rw[hp,aJP,aJS];omega
 have hne:l.drop at'≠[]:=λh=>by have:=congrArg List.length h;rw[aJS]at this;simp at this;omega
 have hstep:=Zq (cf:=aY) hne
 rw[<-hp,aLf]at hstep
 have hin:((at'+1:Nat):Int).toNat=at'+1:=aJI _
 have hia:((at':Nat):Int).toNat=at':=aJI _
 have hib:((at'+13:Nat):Int).toNat=at'+13:=aJI _
 have s1:=λw=>Az (k:= .i64) (lo:=((at'+1:Nat):Int)) ⟨l.toArray⟩ w (by omega) (by rw[hsz];omega)
 have t1:=atE (b:=l) (n:=at'+1)
 have s2:=λw=>tA (k:= .i64) (k':= .i64) (lo:=((at':Nat):Int)) (hi:=((at'+13:Nat):Int)) ⟨l.toArray⟩ w (by omega) (by omega) (by rw[hsz];omega)
 have t2:=aAs (b:=l) (i:=at') (j:=at'+13)
 rw[aKG,<-hp]at t2
 simp(disch:=omega)only[SV,q1,q2,hsz,d1,s1,s2,t1,t2,hin,hia,hib,jR]
 refine(aB2 (b:=l.drop (at'+1)) (by rw[aJS];omega)).mono ?_
 rintro r w2 ⟨rfl,x2⟩
 have hV:DL ((l.drop (at'+1)).take 8)=rdV p:=by
  unfold rdV
  rw[if_neg (by omega),hp,List.drop_take,List.take_take,aLf,aJ5 (by decide)]
 rw[hV]
 have hV64:rdV p<2^64:=by
  rw[<-hV]
  have:=Hl ((l.drop (at'+1)).take 8)
  rw[aJP,aJS,aJ5 (by omega)]at this
  omega
 have hatl:at'<l.length:=by omega
 have hK:(l[at']).toNat=rdK p:=by
  unfold rdK
  have e:p.take 1=[l[at']]:=by
   rw[hp,List.take_take,aJ5 (by decide),List.take_one,List.head?_drop,aJE hatl]
   rfl
  rw[e]
  show _=(l[at']).toNat+256*0
  omega
 have hK256:rdK p<256:=by rw[<-hK];exact(l[at']).toNat_lt
 have hgd:=aB0 hpl
 obtain⟨K,hKe⟩:∃K,K=rdK p:=⟨_,rfl⟩
 obtain⟨V,hVe⟩:∃V,V=rdV p:=⟨_,rfl⟩
 rw[<-hVe,<-hKe]at hstep hgd
 rw[<-hVe]at hV64⊢
 rw[<-hKe]at hK256 hK
 simp(disch:=omega)only[SV]
 refine yD λw3 o3 x3 z3=> ?_
 refine pT o3 rfl (by intro x hx;simp only[aJK,aJN,or_false]at hx;rcases hx with rfl|rfl<;>rfl) (by simp) λw4 o4 x4 z4=> ?_
 have hix:=λw=>Am (k:= .i64) (a:=((at':Nat):Int)) ⟨l.toArray⟩ w (by omega) (by rw[hia,hsz];exact hatl)
 have hel:((⟨l.toArray⟩:ByteArray)[((at':Nat):Int).toNat]'(by rw[hia];show at'<ByteArray.size _;rw[hsz];exact hatl))=l[at']:=by
  simp only[hia];rfl
 have hel2:((⟨l.toArray⟩:ByteArray)[(at')]'(by show at'<ByteArray.size _;rw[hsz];exact hatl))=l[at']:=rfl
 simp(disch:=omega)only[SV,hix,hia,hel2,hK]
 refine QB λw5 o5 x5 z5=> ?_
 refine Qp o5 rfl (by intro x hx;simp only[aJK,aJN,or_false]at hx;rcases hx with rfl|rfl<;>rfl) (by simp) λw6 o6 x6 z6=> ?_
 obtain⟨rb,hrb⟩:∃rb,rb=w4.heap.size:=⟨_,rfl⟩
 rw[<-hrb]at o6 x6⊢
 have o6:bD w6 rb (qD (K,V)):=o6
 have zz2:=x2.size
 have x16:aL w1 w6 aT:=(((x2.seq x3).trans x4 λy hy h=>by omega).seq x5).trans x6 λy hy h=>by omega
 have lr6:(aB 123 (.pointer (some ⟨rb,0,none⟩))).run pg (dr w6)= .ok (.value (amC K V)) (dr w6):=wK (off:=0) (o6.ext (aL.dr w6 aT) (λh=>h)) (by simp)
 simp(disch:=omega)only[SV,lr6]
 refine(avG hK256 hV64).mono ?_
 rintro r w7 ⟨rfl,x7⟩
 have k1:=aHm (a:=aqS K V) (b:=p)
 have x17:=(x16.seq (aL.dr w6 aT)).seq x7
 cases hg:Me aY p with
 |false=>
  rw[hgd,hg]at k1
  simp(disch:=omega)only[SV,q1,s2,t2,hia,hib,ZC,k1]
  refine fin ?_ _ (x17)
  rw[hstep,hg]<;>rfl
 |true=>
  rw[hgd,hg]at k1
  rw[hg,if_pos rfl]at hstep
  have o7:=o6.ext ((aL.dr w6 aT).seq x7) (λh=>h)
  have lr7:(aB 123 (.pointer (some ⟨rb,0,none⟩))).run pg w7= .ok (.value (amC K V)) w7:=wK (off:=0) o7 (by simp)
  simp(disch:=omega)only[SV,q1,s2,t2,hia,hib,ZC,k1,lr7]
  refine LW (cells:= #[.int .u8 (K:Nat),.int .u64 (V:Nat)]) (by decide) (by decide) (by kernel_rfl) λw8 o8 x8 z8=> ?_
  have o8:bD w8 w7.heap.size (qD (K,V)):=o8
  have x18:=x17.seq x8
  have S8:DJ w8 (λb=>w.heap.size<=b) 2 o _ _:=ho.ext x18 (λ_ _ h=>h)
  have zz1:=x1.size
  have zz8:=x18.size
  refine zP (m:=1) (news:=qD (K,V)) (i:=Tryz.t123) Tryz.underlying120 Tryz.underlying120 Zi rfl rfl rfl S8 (o8.cl (off:=0) (n:=1) rfl (λi hi=>by rw[aJG])) (by simp[one]) (λb hb=>by omega) (by omega) (by rw[show Tryz.t123.bytes=16 from rfl];omega) (by decide) λv' w9 o9 x9=> ?_
  refine⟨l.length-13*(R++[(K,V)]).length,by rw[aJF];simp;omega,R++[(K,V)],v',rfl,by rw[aJF];simp;omega,by rw[aJF,hat]<;>rfl, ?_, ?_,((x1.seq x18).trans x9 λy hy h=>by omega)⟩
  .rw [hled,hstep,aJW,aJF,hat]<;>rfl
  .unfold aoD
   rw[aJF,List.flatMap_append]
   simpa using(show DJ w9 (λb=>w.heap.size<=b) 2 v' (R.length+1) (R.flatMap qD++qD (K,V))from o9)
end Go.Proofs.YteelnmpbnaohpaaGreatDoor

/- Parts of the proof of StorePlays: merged and given short names by a program of ours. -/
import Derived.Test.YteelnmpbnaohpaaGreatDoorZpC
set_option linter.unusedVariables false
set_option linter.unusedSimpArgs false
open Array renaming getElem?_eq_none → aKj
open Bool renaming false_eq_true → aJI, and_eq_true → aJM, false_and → aKC, not_false → aKD, true_and → aKH, not_true → aKU, or_eq_true → aKq, and_eq_false_iff → aLN, false_or → aLe, or_eq_false_iff → aLi, or_false → aLx
open Int renaming toNat_natCast → aJE, tdiv_eq_ediv_of_nonneg → aLy
open List renaming getElem?_map → aJ0, mem_cons_self → aJ3, length_replicate → aJ5, map_append → aJ7, length_eq_zero_iff → aJ9, getElem?_eq_getElem → aJA, length_append → aJB, take_of_length_le → aJD, getElem?_cons_succ → aJF, mem_cons → aJG, getD_eq_getElem?_getD → aJH, mem_nil_iff → aJJ, length_take → aJL, length_drop → aJO, mem_cons_of_mem → aJP, map_cons → aJQ, set_cons_zero → aJR, append_assoc → aJS, length_cons → aJT, drop_zero → aJU, toList_toArray → aJV, getElem?_append_left → aJW, nil_append → aJX, getElem?_append_right → aJY, take_succ_eq_append_getElem → aJZ, length_map → aJy, getElem?_cons_zero → aJz, getElem?_drop → aK1, set_append_left → aK6, map_congr_left → aKF, size_toArray → aKG, take_append_drop → aKI, mem_of_getElem? → aKN, length_singleton → aKQ, map_set → aKR, length_range → aKX, append_nil → aKb, mem_append → aKc, set_cons_succ → aKe, set_append_right → aKf, mem_singleton → aKi, getElem_mem → aKl, mem_map → aKm, length_set → aKn, getElem?_eq_none → aKp, mem_range → aKr, drop_of_length_le → aKs, flatMap_cons → aKv, drop_eq_getElem_cons → aKx, length_nil → aKy, getElem?_take_of_lt → aKz, replicate_succ → aLD, map_replicate → aLG, getElem?_set → aLJ, length_filter_le → aLO, map_nil → aLQ, replicate_succ' → aLS, cons_append → aLa, drop_drop → aLb, range_succ → aLd, map_drop → aLf, mem_of_mem_take → aLj, getElem_map → aLm, getElem_of_mem → aLo, replicate_zero → aLp, ext_getElem → aLv, mem_flatMap → aLw, map_take → aLz
open Nat renaming min_eq_left → aJ1, zero_add → aJC, le_refl → aJK, pow_le_pow_right → aK7, add_sub_cancel_left → aKB, sub_self → aKO, le_trans → aKZ, lt_of_lt_of_le → aKa, mod_eq_of_lt → aKh, add_assoc → aKu, xor_assoc → aLA, div_le_self → aLE, mul_comm → aLH, add_zero → aLT, zero_mul → aLV, mod_lt → aLk, pow_succ → aLn, ne_of_lt → aLu
open Option renaming isNone_none → aK3, getD_some → aKA, isNone_some → aKL, isSome_none → aLI
open Option.some renaming injEq → aJ8
open Prod.mk renaming injEq → aLB
open UInt8 renaming toNat_ofNat' → aKT
namespace Go.Proofs.YteelnmpbnaohpaaGreatDoor
open Go Go.En Go.Pu
set_option maxRecDepth 4000
abbrev wA(m:FT)(lv:aLX):List aLX:=[.int .u64 (m.size:Nat),.int .u32 (m.part:Nat),lv]
abbrev stC(p:Nat)(s:eQ)(lv hv:aLX):List aLX:=
 [dP p,.string s.nm,.int .u64 (s.man.size:Nat),.int .u32 (s.man.part:Nat),lv,.int .u64 (s.epoch:Nat),hv,.int .i64 (s.log:Nat),.bool s.fin,.int .i64 s.err]
abbrev VZ(l:List (List UInt8)):List aLX:=l.flatMap λx=>x.map gO
structure Cg(m:FT):Prop where
 size:m.size<=1000000
 part:1<=m.part/\m.part<=65536
 cnt:m.leaves.length=jT m.size m.part
 max:jT m.size m.part<=1024
 len:∀x∈m.leaves,x.length=32
def aA8 (w:aLW)(T:Nat->Prop)(lv:aLX)(l:List (List UInt8)):Prop:=Cl w 32 lv l.length (VZ l)/\¬fI lv T
theorem dS{w w':aLW}{sz n:Nat}{v:aLX}{l:List aLX}{M:Nat->Prop}(h:Cl w sz v n l)(x:aL w w' M)(hM:¬fI v M):Cl w' sz v n l:=by
 obtain⟨a,c,rfl,hl,hh⟩:=h
 refine⟨a,c,rfl,hl,λh0=> ?_⟩
 obtain⟨b,off,rfl,h2⟩:=hh h0
 refine⟨b,off,rfl,λi hi=> ?_⟩
 have hb:¬M b:=λhm=>hM (by
  obtain⟨n',rfl⟩:∃n',n=n'+1:=⟨n-1,by omega⟩
  exact hm)
 obtain⟨y,hy⟩:∃y,l[i]?=some y:=⟨_,aJA hi⟩
 rw[<-h2 i hi]
 have h3:=h2 i hi
 rw[hy]at h3
 rw[uG h3 x hb,h3]
theorem Wd{w:aLW}{sz n:Nat}{v:aLX}{l:List aLX}(h:Cl w sz v n l)(hsz:0<sz):¬fI v (λb=>w.heap.size<=b):=by
 obtain⟨a,c,rfl,hl,hh⟩:=h
 intro hi
 cases n with
 |zero=>unfold fI at hi;split at hi<;>simp_all
 |succ n=>
  obtain⟨b,off,rfl,h2⟩:=hh (by omega)
  have hi:w.heap.size<=b:=hi
  have h3:=h2 0 (by rw[hl];exact Nat.mul_pos (by omega) hsz)
  have hlt:0<l.length:=by rw[hl];exact Nat.mul_pos (by omega) hsz
  rw[aJA hlt]at h3
  unfold World.cell? at h3
  rw[aKj hi]at h3
  cases h3
structure eA(n0:Nat)(w:aLW)(q p:Nat)(X D Y:Nat->Prop)(S:cF)(s:eQ)(lv hv:aLX):Prop where
 glob:lO w
 g0:0<n0/\1<n0
 lo:∀b,X b∨Y b->n0<=b
 hi:n0<=w.heap.size
 dsk:fQ w p X D S
 yq:Y q
 yd:∀b,Y b->D b/\¬X b
 own:bD w q (stC p s lv hv)
 man:Cg s.man
 lv:aA8 w (λb=>X b∨Y b) lv s.man.leaves
 hv:Di w (λb=>Y b/\b≠q) 1 hv s.hv.length (s.hv.map Value.bool)
 ep:s.epoch<18446744073709551616
 lg:s.log<=1000000000
 hl:s.hv.length<=1024
 nl:s.nm.size<=27
def bY(n0:Nat)(w:aLW)(q p:Nat)(X D Y:Nat->Prop)(S':cF)(s':eQ)(w':aLW):Prop:=
 ∃X' D' Y' lv hv,eA n0 w' q p X' D' Y' S' s' lv hv/\(∀b,X' b->X b∨w.heap.size<=b)/\(∀b,D b->D' b)/\(∀b,Y' b->Y b∨w.heap.size<=b)/\aL w w' (λb=>X b∨Y b)
theorem bY.refl {n0:Nat}{w:aLW}{q p:Nat}{X D Y:Nat->Prop}{S:cF}{s:eQ}{lv hv:aLX}(h:eA n0 w q p X D Y S s lv hv):bY n0 w q p X D Y S s w:=
 ⟨X,D,Y,lv,hv,h,λ_ h=> .inl h,λ_ h=>h,λ_ h=> .inl h,aL.refl _ _⟩
theorem bY.step {n0:Nat}{w w1 w2:aLW}{q p:Nat}{X D Y X1 D1 Y1:Nat->Prop}{S2:cF}{s2:eQ}(x:aL w w1 (λb=>X b∨Y b))(hX:∀b,X1 b->X b∨w.heap.size<=b)(hD:∀b,D b->D1 b)(hY:∀b,Y1 b->Y b∨w.heap.size<=b)
 (h:bY n0 w1 q p X1 D1 Y1 S2 s2 w2):bY n0 w q p X D Y S2 s2 w2:=by
 obtain⟨X2,D2,Y2,lv,hv,h1,h2,h3,h4,h5⟩:=h
 have z:=x.size
 refine⟨X2,D2,Y2,lv,hv,h1,λb hb=> ?_,λb hb=>h3 b (hD b hb),λb hb=> ?_,x.trans h5 λb hb hx=> ?_⟩
 .rcases h2 b hb with h|h
  .exact hX b h
  .exact .inr (by omega)
 .rcases h4 b hb with h|h
  .exact hY b h
  .exact .inr (by omega)
 .rcases hx with h|h
  .rcases hX b h with h|h
   .exact .inl h
   .omega
  .rcases hY b h with h|h
   .exact .inr h
   .omega
theorem fQ.xd' {w:aLW}{p:Nat}{X D:Nat->Prop}{S:cF}(h:fQ w p X D S):∀b,X b->D b:=by
 obtain⟨_,_,_,_,_,_,_,_,_,_,_,_,h7,_⟩:=h;exact h7
theorem aA8.keep {w w':aLW}{T:Nat->Prop}{lv:aLX}{l:List (List UInt8)}(h:aA8 w T lv l)(x:aL w w' T){T':Nat->Prop}(hT:∀b,T' b->T b∨w.heap.size<=b):aA8 w' T' lv l:=by
 refine⟨dS h.1 x h.2,λhi=> ?_⟩
 have h3:=Wd h.1 (by decide)
 obtain⟨a,c,rfl,hl,hh⟩:=h.1
 have h2:=h.2
 unfold fI at hi h2 h3
 split at hi
 .rename_i e
  simp only[Value.slice.injEq]at e
  obtain⟨rfl,e2,rfl⟩:=e
  rw[e2]at h2 h3
  rcases hT _ hi with h4|h4
  .exact h2 h4
  .exact h3 h4
 .exact hi
theorem eA.ext {n0:Nat}{w w':aLW}{q p:Nat}{X D Y M:Nat->Prop}{S:cF}{s:eQ}{lv hv:aLX}(h:eA n0 w q p X D Y S s lv hv)(x:aL w w' M)(hM:∀b,M b->D b/\¬X b/\¬Y b/\n0<=b)(hl:¬fI lv M):eA n0 w' q p X D Y S s lv hv:=by
 have hg:=h.g0
 refine⟨h.glob.extM x (λhm=>by have:=(hM _ hm).2.2.2;omega) (λhm=>by have:=(hM _ hm).2.2.2;omega),h.g0,h.lo,aKZ h.hi x.size,h.dsk.ext x λb hb=>⟨(hM b hb).1,(hM b hb).2.1⟩,h.yq,h.yd,h.own.ext x (λhm=>(hM _ hm).2.2.1 h.yq),h.man,⟨dS h.lv.1 x hl,h.lv.2⟩,h.hv.ext x λb hb hm=>(hM _ hm).2.2.1 hb.1,h.ep,h.lg,h.hl,h.nl⟩
theorem eA.new {n0:Nat}{w w':aLW}{q p:Nat}{X D Y:Nat->Prop}{S:cF}{s:eQ}{lv hv:aLX}(h:eA n0 w q p X D Y S s lv hv)(x:aL w w' aT):eA n0 w' q p X D Y S s lv hv:=
 h.ext x (λ_ h=>h.elim) (bC _)
theorem eA.lt {n0:Nat}{w:aLW}{q p:Nat}{X D Y:Nat->Prop}{S:cF}{s:eQ}{lv hv:aLX}(h:eA n0 w q p X D Y S s lv hv):∀b,X b∨Y b->b<w.heap.size:=λb hb=>by
 rcases hb with hb|hb
 .exact fQ.lt h.dsk b (fQ.xd' h.dsk b hb)
 .exact fQ.lt h.dsk b (h.yd b hb).1
theorem eA.disk {n0:Nat}{w w':aLW}{q p:Nat}{X D Y:Nat->Prop}{S S':cF}{s:eQ}{lv hv:aLX}(h:eA n0 w q p X D Y S s lv hv)(hp:B3 w p X D S' w'):
 ∃X' D',eA n0 w' q p X' D' Y S' s lv hv/\(∀b,X' b->X b∨w.heap.size<=b)/\(∀b,D b->D' b)/\aL w w' X:=by
 obtain⟨X',D',h1,h2,h3,x⟩:=hp
 have z:=x.size
 have hh:=h.hi
 have hn:∀b,Y b->¬X b:=λb hb=>(h.yd b hb).2
 refine⟨X',D',⟨h.glob.extM x (λhm=>by have:=h.lo _ (.inl hm);have:=h.g0;omega) (λhm=>by have:=h.lo _ (.inl hm);have:=h.g0;omega),h.g0,λb hb=> ?_,by omega,h1,h.yq,λb hb=>⟨h3 b (h.yd b hb).1,λhx=> ?_⟩,h.own.ext x (hn _ h.yq),h.man,h.lv.keep (x.mono λ_ _ h=> .inl h) λb hb=> ?_,h.hv.ext x λb hb=>hn b hb.1,h.ep,h.lg,h.hl,h.nl⟩,h2,h3,x⟩
 .rcases hb with hb|hb
  .rcases h2 b hb with h4|h4
   .exact h.lo b (.inl h4)
   .omega
  .exact h.lo b (.inr hb)
 .rcases h2 b hx with h4|h4
  .exact (h.yd b hb).2 h4
  .have:=eA.lt h b (.inr hb);omega
 .rcases hb with hb|hb
  .rcases h2 b hb with h4|h4
   .exact .inl (.inl h4)
   .exact .inr h4
  .exact .inl (.inr hb)
theorem eA.cells {n0:Nat}{w:aLW}{q p:Nat}{X D Y:Nat->Prop}{S:cF}{s:eQ}{lv hv:aLX}(h:eA n0 w q p X D Y S s lv hv):
 w.cell? ⟨q,0,none⟩=some (dP p)/\w.cell? ⟨q,1,none⟩=some (.string s.nm)/\w.cell? ⟨q,2,none⟩=some (.int .u64 (s.man.size:Nat))/\w.cell? ⟨q,3,none⟩=some (.int .u32 (s.man.part:Nat))/\w.cell? ⟨q,4,none⟩=some lv/\
 w.cell? ⟨q,5,none⟩=some (.int .u64 (s.epoch:Nat))/\w.cell? ⟨q,6,none⟩=some hv/\w.cell? ⟨q,7,none⟩=some (.int .i64 (s.log:Nat))/\w.cell? ⟨q,8,none⟩=some (.bool s.fin)/\w.cell? ⟨q,9,none⟩=some (.int .i64 s.err):=
 ⟨h.own.cell (off:=0),h.own.cell (off:=1),h.own.cell (off:=2),h.own.cell (off:=3),h.own.cell (off:=4),h.own.cell (off:=5),h.own.cell (off:=6),h.own.cell (off:=7),h.own.cell (off:=8),h.own.cell (off:=9)⟩
theorem eA.set {n0:Nat}{w w':aLW}{q p:Nat}{X D Y:Nat->Prop}{S:cF}{s s':eQ}{lv hv:aLX}(h:eA n0 w q p X D Y S s lv hv)(x:aL w w' (λy=>y=q))(o:bD w' q (stC p s' lv hv))(hm:s'.man=s.man)(hh:s'.hv=s.hv)(hn:s'.nm=s.nm)
 (he:s'.epoch<18446744073709551616) (hl:s'.log<=1000000000):eA n0 w' q p X D Y S s' lv hv:=by
 have hq:=h.yd q h.yq
 have hqn:=h.lo q (.inr h.yq)
 have hg:=h.g0
 refine⟨h.glob.extM x (by omega) (by omega),h.g0,h.lo,aKZ h.hi x.size,h.dsk.ext x λb hb=>hb▸hq,h.yq,h.yd,o,hm▸h.man, ?_, ?_,he,hl,hh▸h.hl,hn▸h.nl⟩
 .rw [hm]
  exact h.lv.keep (x.mono λb _ hb=> .inr (hb▸h.yq)) λb hb=> .inl hb
 .rw [hh]
  exact h.hv.ext x λb hb h=>hb.2 h
theorem Tp(x y:ByteArray):(x.toList==y.toList)=decide (x=y):=by
 rw[ByteArray.toList_eq,ByteArray.toList_eq]
 by_cases h:x=y
 .subst h;simp
 .rw [decide_eq_false h]
  refine beq_eq_false_iff_ne.2 λe=>h ?_
  cases x;cases y
  simp at e
  rw[e]
theorem ayO{P:Program}{w:aLW}{t:TypeId}{ox oy:Operand}(x y:ByteArray):(aE .lss t ox oy (.string x) (.string y)).run P w= .ok (.value (.bool (RG x y))) w:=by
 simp[aE,DY,iW,binOp,Op.stringOp,RG]
abbrev rfC(l:cI):List aLX:=l.flatMap λp=>[.string p.1,.string ⟨p.2.toArray⟩]
def Qp(Z:Nat->Prop)(w:aLW)(v:aLX)(l:cI):Prop:=Cl w 2 v l.length (rfC l)/\¬fI v Z/\∀b,Z b->b<w.heap.size
variable{Z:Nat->Prop}
theorem Tm(l:cI):(rfC l).length=l.length*2:=by
 induction l with
 |nil=>rfl
 |cons p r ih=>simp only[rfC,aKv,aJB,aJT,aKy]at ih⊢;omega
theorem aAG(l:cI):∀y∈rfC l,one y=true:=λy hy=>by
 obtain⟨p,-,hy⟩:=aLw.1 hy
 simp only[aJG,aJJ,or_false]at hy
 rcases hy with rfl|rfl<;>rfl
theorem aqN:∀{l:cI} {i:Nat} (hi:i<l.length),(rfC l)[i*2]?=some (.string l[i].1)/\(rfC l)[i*2+1]?=some (.string ⟨l[i].2.toArray⟩)
 |p::r,0,_=>⟨rfl,rfl⟩
 |p::r,i+1,hi=>by
  have h:=aqN (l:=r) (i:=i) (by simp at hi;omega)
  rw[show(i+1)*2=i*2+1+1 from by omega]
  exact h
theorem Qp.at {w:aLW}{v:aLX}{l:cI}(h:Qp Z w v l){i:Nat}(hi:i<l.length):∃a off c,v= .slice (some ⟨a,off,none⟩) l.length c/\w.cell? ⟨a,off+i*2,none⟩=some (.string l[i].1)/\w.cell? ⟨a,off+i*2+1,none⟩=some (.string ⟨l[i].2.toArray⟩):=by
 obtain⟨⟨a,c,rfl,hl,hh⟩,_⟩:=h
 obtain⟨b,off,rfl,h2⟩:=hh (by omega)
 obtain⟨h3,h4⟩:=aqN hi
 have hln:=Tm l
 refine⟨b,off,c,rfl, ?_, ?_⟩
 .rw [h2 _ (by omega),h3]
 .rw [aKu,h2 _ (by omega),h4]
theorem Qp.len {w:aLW}{v:aLX}{l:cI}(h:Qp Z w v l):∃a c,v= .slice a l.length c:=by
 obtain⟨⟨a,c,rfl,_⟩,_⟩:=h
 exact⟨a,c,rfl⟩
theorem Qp.new {w w':aLW}{v:aLX}{l:cI}(h:Qp Z w v l)(x:aL w w' aT):Qp Z w' v l:=⟨dS h.1 x (bC _),h.2.1,λb hb=>aKa (h.2.2 b hb) x.size⟩
theorem Zs{w:aLW}{base sz n:Nat}{v:aLX}{l:List aLX}(h:kW w base sz v n l)(hZ:∀b,Z b->b<base):¬fI v Z:=by
 intro hi
 rcases h.2 with⟨rfl,_⟩|⟨b,c,rest,rfl,hb,_⟩
 .exact hi
 .unfold fI at hi
  split at hi
  .rename_i e
   simp only[Value.slice.injEq,aJ8]at e
   obtain⟨rfl,_⟩:=e
   exact absurd (hZ _ hi) (by show¬b<base;omega)
  .exact hi
theorem Y8 {n:ByteArray}:∀{l:cI} {i:Nat},(∀j (hj:j<l.length),j<i->l[j].1≠n)->bF n l=bF n (l.drop i)
 |_,0,_=>rfl
 |[],i+1,_=>rfl
 |p::r,i+1,h=>by
  have h0:=h 0 (by simp) (by omega)
  simp only[bF]
  rw[if_neg (λe=>h0 e.symm),List.drop_succ_cons]
  exact Y8 λj hj hji=>by
   have:=h (j+1) (by simp;omega) (by omega)
   simpa using this
theorem Yc{v:aLX}{l:cI}{n:ByteArray}{w:aLW}(h:Qp Z w v l)(hl:l.length<=1000000):
 aG pg yS #[v,.string n] w (λr w'=>w'=w/\((bF n l=none/\r= .int .i64 (-1))∨∃i,∃hi:i<l.length,bF n l=some l[i].2/\l[i].1=n/\r= .int .i64 (i:Nat))):=by
 refine adX ?_
 obtain⟨RR,hRR⟩:∃RR:aLX->aLW->Prop,RR=λr w'=>w'=w/\((bF n l=none/\r= .int .i64 (-1))∨∃i,∃hi:i<l.length,bF n l=some l[i].2/\l[i].1=n/\r= .int .i64 (i:Nat)):=⟨_,rfl⟩
 rw[<-hRR]
 obtain⟨a,c,hv⟩:=h.len
 subst hv
 unfold aiN UB UA Lc Lb Uz EP
 refine bM.rule (λm (t:aLX) w'=>∃i:Nat,m=l.length-i/\i<=l.length/\t= .int .i64 (i:Nat)/\w'=w/\∀j (hj:j<l.length),j<i->l[j].1≠n) l.length
  ⟨0,rfl,by omega,rfl,rfl,λj _ h=>by omega⟩ ?_
 rintro m t w' ⟨i,rfl,hi,rfl,rfl,hne⟩
 unfold La
 by_cases hlt:i<l.length
 .have d1:decide ((i:Int)<(l.length:Int))=true:=by simp;omega
  obtain⟨b,off,c',he,h1,h2⟩:=h.at hlt
  simp only[Value.slice.injEq]at he
  obtain⟨rfl,-,rfl⟩:=he
  have hin:(i:Int).toNat=i:=aJE _
  have q1:(i:Int)+1=((i+1:Nat):Int):=by omega
  by_cases hn:l[i].1=n
  .have k1:(l[i].1.toList==n.toList)=true:=by rw[Tp,decide_eq_true hn]
   simp(disch:=omega)only[seval,d1,hin,h1,KY,k1]
   rw[hRR]
   refine⟨rfl,.inr ⟨i,hlt, ?_,hn,rfl⟩⟩
   rw[Y8 hne,aKx hlt]
   simp only[bF]
   rw[if_pos hn.symm]
  .have k1:(l[i].1.toList==n.toList)=false:=by rw[Tp,decide_eq_false hn]
   have hq:∀j (hj:j<l.length),j<i+1->l[j].1≠n:=λj hj hji=>by
    by_cases hj2:j=i
    .subst hj2;exact hn
    .exact hne j hj (by omega)
   have hqq:∃m,m<l.length-i/\∃i':Nat,m=l.length-i'/\i'<=l.length/\Value.int .i64 ((i+1:Nat):Int)= .int .i64 (i':Nat)/\w'=w'/\∀j (hj:j<l.length),j<i'->l[j].1≠n:=⟨l.length-(i+1),by omega,i+1,rfl,by omega,rfl,rfl,hq⟩
   simp(disch:=omega)only[seval,d1,hin,h1,KY,k1,q1]
   first|exact hqq|exact⟨l.length-(i+1),by omega,i+1,rfl,by omega,rfl,hq⟩
 .have d1:decide ((i:Int)<(l.length:Int))=false:=by simp;omega
  unfold KZ
  simp(disch:=omega)only[seval,d1]
  rw[hRR]
  refine⟨rfl,.inl ⟨?_,rfl⟩⟩
  rw[Y8 hne,aKs (by omega)]
  rfl
theorem aD5 {n:ByteArray}{l:cI}{i:Nat}(hi:i<l.length):MY n (l.take (i+1))=if l[i].1=n then MY n (l.take i)else MY n (l.take i)++[l[i]]:=by
 unfold MY
 rw[aJZ hi,List.filter_append]
 by_cases h:l[i].1=n
 .rw [if_pos h,List.filter_cons_of_neg (by simpa using h)];simp
 .rw [if_neg h,List.filter_cons_of_pos (by simpa using h)];simp
theorem afN(a b:cI):rfC (a++b)=rfC a++rfC b:=by simp[rfC]
theorem ajW{v:aLX}{l:cI}{n:ByteArray}{w:aLW}(h:Qp Z w v l)(hl:l.length<=1000000):
 aG pg tT #[v,.string n] w (λr w'=>kW w' w.heap.size 2 r (MY n l).length (rfC (MY n l))/\aL w w' aT):=by
 refine Vx ?_
 obtain⟨RR,hRR⟩:∃RR:aLX->aLW->Prop,RR=λr w'=>kW w' w.heap.size 2 r (MY n l).length (rfC (MY n l))/\aL w w' aT:=⟨_,rfl⟩
 rw[<-hRR]
 obtain⟨a,c,hv⟩:=h.len
 subst hv
 unfold UM J9 J8 Ee Ed Mr zB
 refine bM.rule (λm (t:aLX×aLX) w'=>∃i:Nat,m=l.length-i/\i<=l.length/\∃ov,t=(ov,.int .i64 (i:Nat))/\kW w' w.heap.size 2 ov (MY n (l.take i)).length (rfC (MY n (l.take i)))/\aL w w' aT) l.length
  ⟨0,rfl,by omega,_,rfl,kW.nil _ _ _,aL.refl _ _⟩ ?_
 rintro m t w' ⟨i,rfl,hi,ov,rfl,ho,x⟩
 unfold Ec Mq
 by_cases hlt:i<l.length
 .have d1:decide ((i:Int)<(l.length:Int))=true:=by simp;omega
  obtain⟨b,off,c',he,h1,h2⟩:=(h.new x).at hlt
  simp only[Value.slice.injEq]at he
  obtain⟨rfl,-,rfl⟩:=he
  have hin:(i:Int).toNat=i:=aJE _
  have q1:(i:Int)+1=((i+1:Nat):Int):=by omega
  have ht:=aD5 (n:=n) hlt
  unfold Eb
  by_cases hn:l[i].1=n
  .have k1:(l[i].1.toList==n.toList)=true:=by rw[Tp,decide_eq_true hn]
   rw[if_pos hn]at ht
   simp(disch:=omega)only[seval,d1,hin,h1,Zw,k1,q1]
   exact⟨l.length-(i+1),by omega,i+1,rfl,by omega,ov,rfl,by rw[ht];exact ho,x⟩
  .have k1:(l[i].1.toList==n.toList)=false:=by rw[Tp,decide_eq_false hn]
   rw[if_neg hn]at ht
   have ldF:(aB 85 (.pointer (some ⟨b,off+i*2,none⟩))).run pg w'= .ok (.value (.agg #[.string l[i].1,.string ⟨l[i].2.toArray⟩])) w':=PV (l:=[.string l[i].1,.string ⟨l[i].2.toArray⟩]) rfl λj hj=>by
    match j,hj with
    |0,_=>rw[aLT];exact h1
    |1,_=>exact h2
   simp(disch:=omega)only[seval,d1,hin,h1,Zw,k1,ldF]
   refine BK (cells:= #[.string l[i].1,.string ⟨l[i].2.toArray⟩]) (by decide) (by decide) (by kernel_rfl) λw1 o1 x1 s1=> ?_
   have z:=x.size
   have ho1:=ho.ext x1 (λb _ h=>h)
   refine dH ho1 (m:=1) (news:=[.string l[i].1,.string ⟨l[i].2.toArray⟩]) ?_ (λy hy=> ?_) (by have:=x1.size;omega) ?_ λv3 w3 o3 x3=> ?_
   .exact ⟨_,_,rfl,rfl,λ_=>⟨_,0,rfl,λj hj=>by rw[o1.cell,aJC]⟩⟩
   .simp only[aJG,aJJ,or_false]at hy
    rcases hy with rfl|rfl<;>rfl
   .have:(MY n (l.take i)).length<=l.length:=aKZ (aLO _ _) (by rw[aJL];omega)
    omega
   .simp (disch:=omega)only[seval,q1]
    refine⟨l.length-(i+1),by omega,i+1,rfl,by omega,v3,rfl, ?_,(x.seq x1).trans x3 λb hb h=>by omega⟩
    rw[ht,afN,aJB,aKQ]
    exact o3
 .have d1:decide ((i:Int)<(l.length:Int))=false:=by simp;omega
  unfold Ea
  simp(disch:=omega)only[seval,d1]
  rw[hRR]
  rw[aJD (by omega)]at ho
  exact⟨ho,x⟩
end Go.Proofs.YteelnmpbnaohpaaGreatDoor
namespace Go.Proofs.YteelnmpbnaohpaaGreatDoor
open Go Go.En Go.Pu
set_option maxRecDepth 4000
variable {Z : Nat -> Prop}
theorem Qp.part {w:aLW}{a:Option Addr}{c i j:Nat}{l:cI}(h:Qp Z w (.slice a l.length c) l)(hij:i<=j)(hj:j<=l.length)(hc:l.length<=c):Cl w 2 (.slice (dD a c i 2) (j-i) (c-i)) ((l.drop i).take (j-i)).length (rfC ((l.drop i).take (j-i))):=by
 have hln:((l.drop i).take (j-i)).length=j-i:=by rw[aJL,aJO];omega
 obtain⟨⟨a',c',he,hl,hh⟩,_⟩:=h
 simp only[Value.slice.injEq]at he
 obtain⟨rfl,-,rfl⟩:=he
 rw[hln]
 refine⟨_,_,rfl,by rw[Tm,hln],λh0=> ?_⟩
 obtain⟨b,off,rfl,h2⟩:=hh (by omega)
 have hs:dD (some ⟨b,off,none⟩) c i 2=some ⟨b,off+i*2,none⟩:=by
  unfold dD
  rw[if_neg (by omega)]
  simp[Addr.add]
 refine⟨b,off+i*2,hs,λx hx=> ?_⟩
 rw[Tm,hln]at hx
 have hd:rfC l=rfC (l.take i)++rfC ((l.drop i).take (j-i))++rfC ((l.drop i).drop (j-i)):=by
  rw[<-afN,<-afN,aJS,aKI,aKI]
 have h3:=h2 (i*2+x) (by rw[Tm];omega)
 have hti:(rfC (l.take i)).length=i*2:=by rw[Tm,aJL,aJ1 (by omega)]
 rw[hd,aJW (by rw[aJB,hti,Tm,hln];omega),aJY (by omega),hti,aKB]at h3
 rw[aKu]
 exact h3
theorem aAZ{α:Type}{p:α->Bool}:∀{l:List α} {i:Nat},i<=l.length->(∀j (hj:j<l.length),j<i->p l[j]=true)->(∀hi:i<l.length,p l[i]=false)->l.takeWhile p=l.take i/\l.dropWhile p=l.drop i
 |[],i,_,_,_=>by simp
 |a::l,0,_,_,h=>by
  have h0:p a=false:=h (by simp)
  rw[List.takeWhile_cons,List.dropWhile_cons,if_neg (by rw[h0];decide),if_neg (by rw[h0];decide)]
  exact⟨rfl,rfl⟩
 |a::l,i+1,hi,h1,h2=>by
  have h0:p a=true:=h1 0 (by simp) (by omega)
  obtain⟨h3,h4⟩:=aAZ (p:=p) (l:=l) (i:=i) (by simp at hi;omega) (λj hj hji=>by
   have:=h1 (j+1) (by simp;omega) (by omega)
   simpa using this) (λhh=>by
   have:=h2 (by simp;omega)
   simpa using this)
  rw[List.takeWhile_cons,List.dropWhile_cons,if_pos h0,if_pos h0,h3,h4]
  exact⟨rfl,rfl⟩
theorem Yo(n:ByteArray)(l:cI):(MY n l).length<=l.length:=aLO _ _
theorem aAO{v:aLX}{l:cI}{n:ByteArray}{b:List UInt8}{w:aLW}(h:Qp Z w v l)(hl:l.length<=100000):
 aG pg B9 #[v,.agg #[.string n,.string ⟨b.toArray⟩]] w (λr w'=>Qp Z w' r (rwi n b l)/\aL w w' aT):=by
 refine aeC ?_
 obtain⟨RR,hRR⟩:∃RR:aLX->aLW->Prop,RR=λr w'=>Qp Z w' r (rwi n b l)/\aL w w' aT:=⟨_,rfl⟩
 rw[<-hRR]
 unfold aiT UL UK
 refine cA λw1 o1 x1 s1=> ?_
 have o1:bD w1 w.heap.size [.string n,.string ⟨b.toArray⟩]:=o1
 obtain⟨fb,hfb⟩:∃fb,fb=w.heap.size:=⟨_,rfl⟩
 rw[<-hfb]at o1⊢
 have cf:∀{w'},aL w1 w' aT->w'.cell? ⟨fb,0,none⟩=some (.string n):=λx=>(o1.ext x (λh=>h)).cell (off:=0)
 have cf1:=cf (aL.refl w1 aT)
 simp(disch:=omega)only[seval,cf1]
 refine(ajW (h.new x1) (by omega)).mono ?_
 rintro r w2 ⟨ho,x2⟩
 have hlen:=Yo n l
 obtain⟨l1,hl1⟩:∃l1,l1=MY n l:=⟨_,rfl⟩
 rw[<-hl1]at ho hlen
 have hZ:=h.2.2
 have hcl:Qp Z w2 r l1:=⟨ho.cl,Zs ho λb hb=>aKa (hZ b hb) x1.size,λb hb=>aKa (hZ b hb) (x1.seq x2).size⟩
 obtain⟨a,c,hr,hcap⟩:∃a c,r= .slice a l1.length c/\l1.length<=c:=by
  rcases ho.2 with⟨h1,h2⟩|⟨bb,c,rest,h1,_,_,_,h5⟩
  .exact ⟨none,0,by rw[h1,h2],by omega⟩
  .exact ⟨_,c,h1,h5⟩
 subst hr
 clear ho
 unfold Ll EU
 refine bM.rule (λm (t:aLX) w'=>∃i:Nat,m=l1.length-i/\i<=l1.length/\t= .int .i64 (i:Nat)/\aL w2 w' aT/\∀j (hj:j<l1.length),j<i->RG l1[j].1 n=true) l1.length
  ⟨0,rfl,by omega,rfl,aL.refl _ _,λj _ h=>by omega⟩ ?_
 rintro m t w3 ⟨i,rfl,hi,rfl,x3,hlt⟩
 have x3d:aL w2 (dr w3) aT:=x3.seq (aL.dr _ _)
 have fin:(∀hi:i<l1.length,RG l1[i].1 n=false)->ET RR (.slice a l1.length c) (.pointer (some ⟨fb,0,none⟩)) (.int .i64 (i:Nat)) (dr w3):=λhge=>by
  obtain⟨ht,hd⟩:=aAZ (p:=λp:ByteArray×List UInt8=>RG p.1 n) hi hlt hge
  unfold ET
  have hc3:=hcl.new x3d
  have hin:(i:Int).toNat=i:=aJE _
  have hpre:=hc3.part (i:=0) (j:=i) (by omega) hi hcap
  rw[aJU]at hpre
  have z1:i-0=i:=rfl
  rw[z1]at hpre
  simp(disch:=omega)only[seval,hin]
  have hn0:kW (dr w3) (dr w3).heap.size 2 (.slice none 0 0) 0 []:=kW.nil _ _ _
  have htl:(l1.take i).length=i:=by rw[aJL,aJ1 hi]
  refine dH hn0 hpre (aAG _) (aJK _) (by omega) λv4 w4 o4 x4=> ?_
  rw[aJX,aJC,htl]at o4
  have x24:aL w2 w4 aT:=x3d.trans x4 λy hy hh=>by have:=x3d.size;omega
  have x14:aL w1 w4 aT:=x2.seq x24
  have ldF:(aB 85 (.pointer (some ⟨fb,0,none⟩))).run pg w4= .ok (.value (.agg #[.string n,.string ⟨b.toArray⟩])) w4:=PU (off:=0) (o1.ext x14 (λh=>h)) (by simp)
  simp(disch:=omega)only[seval,ldF]
  refine BK (cells:= #[.string n,.string ⟨b.toArray⟩]) (by decide) (by decide) (by kernel_rfl) λw5 o5 x5 s5=> ?_
  have z4:=x4.size
  refine dH (o4.ext x5 (λ_ _ h=>h)) (m:=1) (news:=[.string n,.string ⟨b.toArray⟩]) ?_ (λy hy=> ?_) (by have:=x5.size;omega) (by omega) λv6 w6 o6 x6=> ?_
  .exact ⟨_,_,rfl,rfl,λ_=>⟨_,0,rfl,λj hj=>by rw[o5.cell,aJC]⟩⟩
  .simp only[aJG,aJJ,or_false]at hy
   rcases hy with rfl|rfl<;>rfl
  have x26:aL w2 w6 aT:=(x24.seq x5).trans x6 λy hy hh=>by have:=x3d.size;omega
  have hsuf:=(hcl.new x26).part (i:=i) (j:=l1.length) hi (aJK _) hcap
  rw[<-aJO,aJD (aJK _),aJO]at hsuf
  try simp(disch:=omega)only[seval,hin]
  have hdl:(l1.drop i).length=l1.length-i:=aJO
  refine dH o6 hsuf (aAG _) (by have:=x5.size;have:=x6.size;omega) (by omega) λv7 w7 o7 x7=> ?_
  rw[hRR]
  have hfin:rwi n b l=l1.take i++(n,b)::l1.drop i:=by
   unfold rwi
   rw[<-hl1,ht,hd]
  have x07:aL w w7 aT:=(x1.seq x2).seq (x26.trans x7 λy hy hh=>by have:=x3d.size;omega)
  refine⟨⟨?_,Zs o7 λb hb=>by have:=hZ b hb;have:=x1.size;have:=x2.size;have:=x3d.size;omega,λb hb=>aKa (hZ b hb) x07.size⟩,x07⟩
  rw[hfin]
  have:=o7.cl
  rw[aJB,aJT,htl,afN,show rfC ((n,b)::l1.drop i)=[.string n,.string ⟨b.toArray⟩]++rfC (l1.drop i)from rfl,<-aJS,show i+((l1.drop i).length+1)=i+1+(l1.drop i).length from by omega]
  first
   |exact this
   |(rw[aJO];exact this)
 unfold Lk
 by_cases hil:i<l1.length
 .have d1:decide ((i:Int)<(l1.length:Int))=true:=by simp;omega
  obtain⟨bb,off,c',he,h1,h2⟩:=(hcl.new x3d).at hil
  simp only[Value.slice.injEq]at he
  obtain⟨rfl,-,rfl⟩:=he
  have hin:(i:Int).toNat=i:=aJE _
  have q1:(i:Int)+1=((i+1:Nat):Int):=by omega
  have cf3:=cf (x2.seq x3d)
  cases hb:RG l1[i].1 n with
  |true=>
   have hq:∀j (hj:j<l1.length),j<i+1->RG l1[j].1 n=true:=λj hj hji=>by
    by_cases hj2:j=i
    .subst hj2;exact hb
    .exact hlt j hj (by omega)
   simp(disch:=omega)only[seval,d1,hin,h1,cf3,ayO,hb,q1]
   exact⟨l1.length-(i+1),by omega,i+1,rfl,by omega,rfl,x3d,hq⟩
  |false=>
   have:=fin λ_=>hb
   simp(disch:=omega)only[seval,d1,hin,h1,cf3,ayO,hb]
   exact this
 .have d1:decide ((i:Int)<(l1.length:Int))=false:=by simp;omega
  have:=fin λhh=>absurd hh hil
  simp(disch:=omega)only[seval,d1]
  exact this
end Go.Proofs.YteelnmpbnaohpaaGreatDoor
namespace Go.Proofs.YteelnmpbnaohpaaGreatDoor
open Go Go.En Go.Pu
set_option maxRecDepth 4000
set_option maxHeartbeats 1000000
variable {Z : Nat -> Prop}
abbrev roC(o:LH):List aLX:=[.int .i64 (o.kind:Nat),.string o.name,.string o.other,.int .i64 (o.at':Nat),.string ⟨o.bytes.toArray⟩]
def ovr(Z:List UInt8)(a:Nat)(b:List UInt8)(i:Nat):List UInt8:=Z.take a++b.take i++Z.drop (a+i)
theorem aDI(Z:List UInt8)(a:Nat)(b:List UInt8):ovr Z a b 0=Z:=by
 unfold ovr
 rw[List.take_zero,aKb,aLT,aKI]
theorem aAA{Z:List UInt8}{a:Nat}{b:List UInt8}{i:Nat}(h:a+b.length<=Z.length)(hi:i<=b.length):(ovr Z a b i).length=Z.length:=by
 unfold ovr
 rw[aJB,aJB,aJL,aJL,aJO];omega
theorem aDH{Z:List UInt8}{a:Nat}{b:List UInt8}{i:Nat}(h:a+b.length<=Z.length)(hi:i<b.length):(ovr Z a b i).set (a+i) b[i]=ovr Z a b (i+1):=by
 unfold ovr
 have hl:(Z.take a++b.take i).length=a+i:=by rw[aJB,aJL,aJL];omega
 rw[aKf _ _ (by omega),hl,aKO,aKx (by omega),aJR,show b.take (i+1)=b.take i++[b[i]]from aJZ hi]
 simp only[aJS,aLa,aJX,aKu]
theorem aFA{old:List UInt8}{a:Nat}{b:List UInt8}:ovr (old++List.replicate (max old.length (a+b.length)-old.length) 0) a b b.length=over old a b:=by
 unfold ovr over
 rw[aJD (aJK _)]
theorem aDW{v:aLX}{l:cI}{o:LH}{w:aLW}(h:Qp Z w v l)(hl:l.length<=100000)(hk:o.kind<=2)(ha:o.at'<=1000000000)(hbl:o.bytes.length<=1000000000)(hf:∀b,bF o.name l=some b->b.length<=1000000000):
 aG pg AY #[v,.agg (roC o).toArray] w (λr w'=>Qp Z w' r (rdo o l)/\aL w w' aT):=by
 refine alZ ?_
 obtain⟨RR,hRR⟩:∃RR:aLX->aLW->Prop,RR=λr w'=>Qp Z w' r (rdo o l)/\aL w w' aT:=⟨_,rfl⟩
 rw[<-hRR]
 unfold avB XK XJ
 refine cA λw1 o1 x1 s1=> ?_
 have o1:bD w1 w.heap.size (roC o):=o1
 obtain⟨ob,hob⟩:∃ob,ob=w.heap.size:=⟨_,rfl⟩
 rw[<-hob]at o1⊢
 have co:∀{w'},aL w1 w' aT->w'.cell? ⟨ob,0,none⟩=some (.int .i64 (o.kind:Nat))/\w'.cell? ⟨ob,1,none⟩=some (.string o.name)/\w'.cell? ⟨ob,2,none⟩=some (.string o.other)/\w'.cell? ⟨ob,3,none⟩=some (.int .i64 (o.at':Nat))/\w'.cell? ⟨ob,4,none⟩=some (.string ⟨o.bytes.toArray⟩):=λx=>
  ⟨(o1.ext x (λh=>h)).cell (off:=0),(o1.ext x (λh=>h)).cell (off:=1),(o1.ext x (λh=>h)).cell (off:=2),(o1.ext x (λh=>h)).cell (off:=3),(o1.ext x (λh=>h)).cell (off:=4)⟩
 obtain⟨c0,c1,c2,c3,c4⟩:=co (aL.refl w1 aT)
 simp(disch:=omega)only[seval,c1,aJC]
 refine(Yc (h.new x1) (by omega)).mono ?_
 rintro r w2 ⟨hw,hr⟩
 rw[hw];clear hw w2
 have go:∀(i:Int) (ov:List UInt8),ov=(bF o.name l).getD []->(i<0↔bF o.name l=none)->(-1<=i/\i<=1000000)->Hg RR v (.pointer (some ⟨ob,0,none⟩)) (.int .i64 i) (.string ⟨ov.toArray⟩) w1:=by
  intro i ov hov hi hib
  unfold Hg Ok XI Oj
  by_cases hk0:o.kind=0
  .have d1:(((o.kind:Nat):Int)==0)=true:=by rw[hk0]<;>rfl
   unfold XG XF
   simp(disch:=omega)only[seval,c0,d1,aJC]
   refine HV λw3 cc hs x3 s3 hown=> ?_
   obtain⟨rr,hown,hcc⟩:=hown
   have hsz:(⟨ov.toArray⟩:ByteArray).size=ov.length:=by simp[ByteArray.size]
   have hdt:(⟨ov.toArray⟩:ByteArray).data.toList=ov:=by simp
   rw[hdt]at hown
   rw[hsz]at hcc⊢
   have hos:kW w3 w1.heap.size 1 (.slice (some ⟨w1.heap.size,0,none⟩) ov.length cc) (ov.length+0) ((ov++List.replicate 0 0).map gO):=by
    refine⟨by simp,.inr ⟨_,cc,List.replicate rr (.int .u8 0),rfl,aJK _, ?_, ?_,by omega⟩⟩
    .rw [aLp,aKb];exact hown
    .simp;omega
   have hovl:ov.length<=1000000000:=by
    rw[hov]
    cases hg:bF o.name l with
    |none=>simp
    |some b=>exact hf b hg
   obtain⟨N,hN⟩:∃N,N=max ov.length (o.at'+o.bytes.length):=⟨_,rfl⟩
   have hbsz:(⟨o.bytes.toArray⟩:ByteArray).size=o.bytes.length:=by simp[ByteArray.size]
   unfold Oi Hf
   refine bM.rule (λm (t:aLX) w'=>∃k:Nat,m=N-(ov.length+k)/\ov.length+k<=N/\kW w' w1.heap.size 1 t (ov.length+k) ((ov++List.replicate k 0).map gO)/\aL w1 w' aT) (N-(ov.length+0))
    ⟨0,rfl,by omega,hos,x3⟩ ?_
   rintro m t w4 ⟨kz,rfl,hkz,ho4,x4⟩
   obtain⟨ta,tc,htv⟩:=ho4.len
   subst htv
   obtain⟨f0,f1,f2,f3,f4⟩:=co x4
   have q1:((o.at':Nat):Int)+((o.bytes.length:Nat):Int)=((o.at'+o.bytes.length:Nat):Int):=by omega
   have z14:=x4.size
   unfold Oh
   by_cases hlt:ov.length+kz<o.at'+o.bytes.length
   .have d2:decide (((ov.length+kz:Nat):Int)<((o.at'+o.bytes.length:Nat):Int))=true:=by simp only[decide_eq_true_eq];omega
    simp(disch:=omega)only[seval,f3,f4,hbsz,q1,d2,aJC]
    refine kP (cells:= #[.int .u8 0]) (by decide) (by decide) (by kernel_rfl) λw5 o5 x5 s5=> ?_
    refine iQ (ho4.ext x5 (λ_ _ h=>h)) (m:=1) (news:=[.int .u8 0]) ?_ (λy hy=> ?_) (by have:=x5.size;omega) (by omega) λv6 w6 o6 x6=> ?_
    .exact ⟨_,_,rfl,rfl,λ_=>⟨_,0,rfl,λj hj=>by rw[o5.cell,aJC]⟩⟩
    .rw [aKi]at hy;rw[hy]<;>rfl
    refine⟨N-(ov.length+(kz+1)),by omega,kz+1,rfl,by omega, ?_,(x4.seq x5).trans x6 λy hy hh=>by omega⟩
    rw[aLS,<-aJS,aJ7,<-aKu]
    exact o6
   have d2:decide (((ov.length+kz:Nat):Int)<((o.at'+o.bytes.length:Nat):Int))=false:=by simp only[decide_eq_false_iff_not];omega
   have hNk:ov.length+kz=N:=by omega
   obtain⟨Z,hZ⟩:∃Z,Z=ov++List.replicate kz (0:UInt8):=⟨_,rfl⟩
   have hZl:Z.length=N:=by rw[hZ,aJB,aJ5];omega
   rw[<-hZ,hNk]at ho4
   rw[hNk]at d2⊢
   simp(disch:=omega)only[seval,f3,f4,hbsz,q1,d2,aJC]
   unfold Og Sg abI J7
   refine bM.rule (λm (t:aLX) w'=>∃k:Nat,m=o.bytes.length-k/\k<=o.bytes.length/\t= .int .i64 (k:Nat)/\kW w' w1.heap.size 1 (.slice ta N tc) N ((ovr Z o.at' o.bytes k).map gO)/\aL w1 w' aT) o.bytes.length
    ⟨0,rfl,by omega,rfl,by rw[aDI];exact ho4,x4⟩ ?_
   clear ho4 x4 f0 f1 f2 f3 f4 hos hown hs x3 s3 z14
   rintro m t w4 ⟨k,rfl,hkb,rfl,ho4,x4⟩
   obtain⟨f0,f1,f2,f3,f4⟩:=co x4
   have x4d:aL w1 (dr w4) aT:=x4.seq (aL.dr _ _)
   obtain⟨g0,g1,g2,g3,g4⟩:=co x4d
   unfold Sf
   by_cases hkl:k<o.bytes.length
   .have d3:decide ((k:Int)<((o.bytes.length:Nat):Int))=true:=by simp;omega
    have q2:((o.at':Nat):Int)+(k:Int)=((o.at'+k:Nat):Int):=by omega
    have q3:(k:Int)+1=((k+1:Nat):Int):=by omega
    have hkn:(k:Int).toNat=k:=aJE _
    have han:((o.at'+k:Nat):Int).toNat=o.at'+k:=aJE _
    have hix:=λw=>BR (k:= .i64) (a:=(k:Int)) ⟨o.bytes.toArray⟩ w (by omega) (by rw[hkn,hbsz];exact hkl)
    have hel:((⟨o.bytes.toArray⟩:ByteArray)[(k:Int).toNat]'(by rw[hkn];show k<ByteArray.size _;rw[hbsz];exact hkl))=o.bytes[k]:=by
     simp only[hkn];rfl
    obtain⟨hbl2,hcs⟩:=ho4
    rcases hcs with⟨_,hN0⟩|⟨bb,c',rest,he,hbb,hown,hcl,hnc⟩
    .omega
    simp only[Value.slice.injEq]at he
    obtain⟨rfl,-,rfl⟩:=he
    have hownd:=dB hown
    have hol:=aAA (Z:=Z) (a:=o.at') (b:=o.bytes) (i:=k) (by omega) hkb
    simp(disch:=omega)only[seval,f4,hbsz,d3,g3,g4,q2,hix,hel,han,aJC]
    refine akK hownd rfl (by rw[aJB,aJy];omega) λw5 o5 x5 s5=> ?_
    have hset:((ovr Z o.at' o.bytes k).map gO++rest).set (o.at'+k) (.int .u8 ((o.bytes[k]).toNat:Nat))=(ovr Z o.at' o.bytes (k+1)).map gO++rest:=by
     rw[aK6 _ _ (by rw[aJy];omega),<-aDH (by omega) hkl,aKR]
     rfl
    have o5:bD w5 bb (((ovr Z o.at' o.bytes k).map gO++rest).set (o.at'+k) (.int .u8 ((o.bytes[k]).toNat:Nat))):=o5
    rw[hset]at o5
    have hol2:=aAA (Z:=Z) (a:=o.at') (b:=o.bytes) (i:=k+1) (by omega) hkl
    simp(disch:=omega)only[seval,q3]
    refine⟨o.bytes.length-(k+1),by omega,k+1,rfl,by omega,rfl,⟨by rw[aJy];omega,.inr ⟨bb,_,rest,rfl,hbb,o5, ?_,hnc⟩⟩,x4d.trans x5 λy hy hh=>by omega⟩
    rw[<-hcl,aJB,aJB,aJy,aJy,hol,hol2]
   .have d3:decide ((k:Int)<((o.bytes.length:Nat):Int))=false:=by simp;omega
    have hkk:k=o.bytes.length:=by omega
    subst hkk
    have hfin:ovr Z o.at' o.bytes o.bytes.length=over ov o.at' o.bytes:=by
     rw[hZ,show kz=max ov.length (o.at'+o.bytes.length)-ov.length from by omega]
     exact aFA
    rw[hfin]at ho4
    have hbs:Bs w4 (.slice ta N tc) (over ov o.at' o.bytes):=ho4.sl
    have hcv:=eK hbs
    unfold Se
    simp(disch:=omega)only[seval,f4,hbsz,d3,f1,hcv,aJC]
    refine(aAO (h.new (x1.seq x4)) (by omega)).mono ?_
    rintro r w5 ⟨hr5,x5⟩
    rw[hRR]
    refine⟨?_,(x1.seq x4).seq x5⟩
    unfold rdo
    rw[if_pos hk0,<-hov]
    exact hr5
  .have d1:(((o.kind:Nat):Int)==0)=false:=by rw[beq_eq_false_iff_ne];omega
   unfold XH Sd abH
   cases hg:bF o.name l with
   |none=>
    have d2:decide (i<0)=true:=by simp[hi.2 hg]
    simp(disch:=omega)only[seval,c0,d1,aJC,d2]
    rw[hRR]
    refine⟨?_,x1⟩
    unfold rdo
    rw[if_neg hk0,hg]
    exact h.new x1
   |some old=>
    have d2:decide (i<0)=false:=by
     rw[decide_eq_false_iff_not]
     intro hh
     rw[hi.1 hh]at hg
     cases hg
    rw[hg,aKA]at hov
    subst hov
    simp(disch:=omega)only[seval,c0,d1,c1,aJC,d2]
    refine(ajW (h.new x1) (by omega)).mono ?_
    rintro r w3 ⟨ho,x3⟩
    have hfl:Qp Z w3 r (MY o.name l):=⟨ho.cl,Zs ho λb hb=>aKa (h.2.2 b hb) x1.size,λb hb=>aKa (h.2.2 b hb) (x1.seq x3).size⟩
    obtain⟨e0,e1,e2,e3,e4⟩:=co x3
    have hlen:=Yo o.name l
    unfold Sc
    by_cases hk1:o.kind=1
    .have d3:(((o.kind:Nat):Int)==1)=true:=by rw[hk1]<;>rfl
     simp(disch:=omega)only[seval,e0,d3,e2,aJC]
     refine(aAO hfl (by omega)).mono ?_
     rintro r w4 ⟨hr4,x4⟩
     rw[hRR]
     refine⟨?_,(x1.seq x3).seq x4⟩
     unfold rdo
     rw[if_neg hk0,hg]
     simp only[hk1,if_true]
     exact hr4
    .have d3:(((o.kind:Nat):Int)==1)=false:=by rw[beq_eq_false_iff_ne];omega
     simp(disch:=omega)only[seval,e0,d3,aJC]
     rw[hRR]
     refine⟨?_,x1.seq x3⟩
     unfold rdo
     rw[if_neg hk0,hg]
     simp only[hk1,if_false]
     exact hfl
 rcases hr with⟨hg,rfl⟩|⟨i,hi,hg,hn,rfl⟩
 .have d1:decide ((0:Int)<=(-1:Int))=false:=by decide
  have:=go (-1) [] (by rw[hg]<;>rfl) ⟨λ_=>hg,λ_=>by decide⟩ (by decide)
  simp(disch:=omega)only[seval,d1]
  exact this
 .have d1:decide ((0:Int)<=((i:Nat):Int))=true:=by simp
  obtain⟨bb,off,c',rfl,h1,h2⟩:=(h.new x1).at hi
  have hin:(i:Int).toNat=i:=aJE _
  have:=go i l[i].2 (by rw[hg]<;>rfl) ⟨λhh=>by omega,λhh=>by rw[hg]at hh;cases hh⟩ (by omega)
  simp(disch:=omega)only[seval,d1,hin,h2]
  exact this
structure Dh where
 room:Int
 sure:cI
 way:List LH
 left:Int
 down:Bool
def dX(D:Dh):cI:=D.way.foldl (λl o=>rdo o l) D.sure
abbrev aeW(l:List LH):List aLX:=l.flatMap roC
abbrev Aa(D:Dh)(sv wv:aLX):List aLX:=[.int .i64 D.room,sv,wv,.int .i64 D.left,.bool D.down]
structure LI(Z:Nat->Prop)(w:aLW)(D:Dh)(sv wv:aLX):Prop where
 sure:Qp Z w sv D.sure
 way:Cl w 5 wv D.way.length (aeW D.way)
 wz:¬fI wv Z
def FB(l:cI):Prop:=∀n b,bF n l=some b->b.length<=1000000000
structure RBd(D:Dh):Prop where
 fs:FB D.sure
 ops:∀o∈D.way,o.kind<=2/\o.at'+o.bytes.length<=1000000000
 len:D.sure.length+D.way.length<=50000
theorem LI.new {w w':aLW}{D:Dh}{sv wv:aLX}(h:LI Z w D sv wv)(x:aL w w' aT):LI Z w' D sv wv:=⟨h.sure.new x,dS h.way x (bC _),h.wz⟩
theorem aDX{o:LH}{l:cI}(h:FB l)(ho:o.at'+o.bytes.length<=1000000000):FB (rdo o l):=by
 intro n b hb
 unfold rdo at hb
 split at hb
 .rw [Wu]at hb
  split at hb
  .cases hb
   rw[xG]
   have:((bF o.name l).getD []).length<=1000000000:=by
    cases hg:bF o.name l with
    |none=>simp
    |some c=>exact h _ _ hg
   omega
  .exact h _ _ hb
 .split at hb
  .exact h _ _ hb
  .rename_i old hg
   split at hb
   .rw [Wu]at hb
    split at hb
    .cases hb;exact h _ _ hg
    .rw [Q9]at hb
     split at hb
     .cases hb
     .exact h _ _ hb
   .rw [Q9]at hb
    split at hb
    .cases hb
    .exact h _ _ hb
theorem aAM{n:ByteArray}{b:List UInt8}{l:cI}:(rwi n b l).length<=l.length+1:=by
 have h1:=Yo n l
 have h2:(MY n l).length=((MY n l).takeWhile (λp=>RG p.1 n)++(MY n l).dropWhile (λp=>RG p.1 n)).length:=by rw[List.takeWhile_append_dropWhile]
 rw[aJB]at h2
 unfold rwi
 rw[aJB,aJT];omega
theorem aqL{o:LH}{l:cI}:(rdo o l).length<=l.length+1:=by
 unfold rdo
 split
 .exact aAM
 .split
  .omega
  .split
   .have:=aAM (n:=o.other) (b:=‹List UInt8›) (l:=MY o.name l)
    have:=Yo o.name l
    omega
   .have:=Yo o.name l
    omega
theorem Tc:∀(ops:List LH) {l:cI},FB l->(∀o∈ops,o.kind<=2/\o.at'+o.bytes.length<=1000000000)->FB (ops.foldl (λl o=>rdo o l) l)/\(ops.foldl (λl o=>rdo o l) l).length<=l.length+ops.length
 |[],l,h,_=>⟨h,aJK _⟩
 |o::ops,l,h,ho=>by
  have h1:=aDX h (ho o aJ3).2
  obtain⟨h2,h3⟩:=Tc ops h1 λx hx=>ho x (aJP _ hx)
  refine⟨h2,aKZ h3 ?_⟩
  have:=aqL (o:=o) (l:=l)
  rw[aJT];omega
theorem aEA(l:List LH):(aeW l).length=l.length*5:=by
 induction l with
 |nil=>rfl
 |cons p r ih=>simp only[aeW,aKv,aJB,aJT,aKy]at ih⊢;omega
theorem afR:∀{l:List LH} {i j:Nat} (hi:i<l.length),j<5->(aeW l)[i*5+j]?=(roC l[i])[j]?
 |p::r,0,j,_,hj=>by
  show(roC p++aeW r)[0*5+j]?=_
  rw[aJW (by simpa using hj),aLV,aJC]
  rfl
 |p::r,i+1,j,hi,hj=>by
  have h:=afR (l:=r) (i:=i) (j:=j) (by simp at hi;omega) hj
  show(roC p++aeW r)[(i+1)*5+j]?=_
  rw[aJY (by simp;omega),show(i+1)*5+j-(roC p).length=i*5+j from by simp;omega]
  exact h
theorem LI.op {w:aLW}{D:Dh}{sv wv:aLX}(h:LI Z w D sv wv){i:Nat}(hi:i<D.way.length):∃a off c,wv= .slice (some ⟨a,off,none⟩) D.way.length c/\(aB 96 (.pointer (some ⟨a,off+i*5,none⟩))).run pg w= .ok (.value (.agg (roC D.way[i]).toArray)) w:=by
 obtain⟨a,c,hv,hl,hh⟩:=h.way
 obtain⟨b,off,rfl,h2⟩:=hh (by omega)
 refine⟨b,off,c,hv,PW (l:=roC D.way[i]) rfl λj hj=> ?_⟩
 have hj:j<5:=hj
 rw[aKu,h2 _ (by rw[aEA];omega),afR hi hj]
theorem To{D:Dh}{sv wv:aLX}{w:aLW}(h:LI Z w D sv wv)(hB:RBd D):
 aG pg sH #[.agg (Aa D sv wv).toArray] w (λr w'=>Qp Z w' r (dX D)/\aL w w' aT):=by
 refine adZ ?_
 obtain⟨RR,hRR⟩:∃RR:aLX->aLW->Prop,RR=λr w'=>Qp Z w' r (dX D)/\aL w w' aT:=⟨_,rfl⟩
 rw[<-hRR]
 unfold aiQ UF UE
 refine cA λw1 o1 x1 s1=> ?_
 obtain⟨db,hdb⟩:∃db,db=w.heap.size:=⟨_,rfl⟩
 obtain⟨sa,sc,hsv⟩:=h.sure.len
 obtain⟨wa,wc,hwv,_⟩:=h.way
 have o1:bD w1 w.heap.size (Aa D sv wv):=by
  have:(Value.agg (Aa D sv wv).toArray).cells.toList=Aa D sv wv:=by
   subst hsv;subst hwv;rfl
  rw[this]at o1
  exact o1
 rw[<-hdb]at o1⊢
 have cd:∀{w'},aL w1 w' aT->w'.cell? ⟨db,1,none⟩=some sv/\w'.cell? ⟨db,2,none⟩=some wv:=λx=>
  ⟨(o1.ext x (λh=>h)).cell (off:=1),(o1.ext x (λh=>h)).cell (off:=2)⟩
 obtain⟨c1,c2⟩:=cd (aL.refl w1 aT)
 have hn:=hB.len
 simp(disch:=omega)only[seval,c1,aJC]
 unfold Lg Lf UD ER
 refine bM.rule (λm (t:aLX×aLX) w'=>∃(i:Nat) (lv:aLX),m=D.way.length-i/\i<=D.way.length/\t=(lv,.int .i64 (i:Nat))/\Qp Z w' lv ((D.way.take i).foldl (λl o=>rdo o l) D.sure)/\aL w1 w' aT) D.way.length
  ⟨0,sv,rfl,by omega,rfl,h.sure.new x1,aL.refl _ _⟩ ?_
 rintro m t w2 ⟨i,lv,rfl,hi,rfl,hlv,x2⟩
 obtain⟨d1,d2⟩:=cd x2
 have d2':=d2
 rw[hwv]at d2'
 unfold Le
 by_cases hlt:i<D.way.length
 .have k1:decide ((i:Int)<(D.way.length:Int))=true:=by simp;omega
  obtain⟨a,off,c',he,hld⟩:=(h.new (x1.seq x2)).op hlt
  rw[he]at d2
  have hin:(i:Int).toNat=i:=aJE _
  have q1:(i:Int)+1=((i+1:Nat):Int):=by omega
  have hops:=hB.ops _ (aKl hlt)
  obtain⟨hfb,hfl⟩:=Tc (D.way.take i) hB.fs (λo ho=>hB.ops o (aLj ho))
  rw[aJL]at hfl
  simp(disch:=omega)only[seval,d2,k1,hin,hld,aJC]
  refine(aDW hlv (by omega) hops.1 (by omega) (by omega) (λb hb=>hfb _ _ hb)).mono ?_
  rintro r w3 ⟨hr,x3⟩
  simp(disch:=omega)only[seval,q1]
  refine⟨D.way.length-(i+1),by omega,i+1,r,rfl,by omega,rfl, ?_,x2.seq x3⟩
  rw[aJZ hlt,List.foldl_append]
  exact hr
 .have k1:decide ((i:Int)<(D.way.length:Int))=false:=by simp;omega
  unfold Ld
  simp(disch:=omega)only[seval,d2',k1,aJC]
  rw[hRR]
  rw[aJD (by omega)]at hlv
  exact⟨hlv,x1.seq x2⟩
theorem BU{w:aLW}{D:Dh}{sv wv:aLX}(h:LI Z w D sv wv):(Value.agg (Aa D sv wv).toArray).cells.toList=Aa D sv wv:=by
 obtain⟨sa,sc,hsv⟩:=h.sure.len
 obtain⟨wa,wc,hwv,_⟩:=h.way
 subst hsv;subst hwv;rfl
theorem G5 {w:aLW}{D:Dh}{sv wv:aLX}(h:LI Z w D sv wv):∀x∈Aa D sv wv,one x=true:=by
 obtain⟨sa,sc,hsv⟩:=h.sure.len
 obtain⟨wa,wc,hwv,_⟩:=h.way
 subst hsv;subst hwv
 intro x hx
 simp only[aJG,aJJ,or_false]at hx
 rcases hx with rfl|rfl|rfl|rfl|rfl<;>rfl
def Sx(D:Dh)(n:ByteArray):List UInt8×Int:=if D.down then([],20)else match bF n (dX D)with
 |none=>([],21)
 |some b=>(b,0)
theorem aAK{D:Dh}{sv wv:aLX}{n:ByteArray}{w:aLW}(h:LI Z w D sv wv)(hB:RBd D):
 aG pg yT #[.agg (Aa D sv wv).toArray,.string n] w (λr w'=>r= .tuple #[.string ⟨(Sx D n).1.toArray⟩,.int .i64 (Sx D n).2]/\aL w w' aT):=by
 refine adY ?_
 obtain⟨RR,hRR⟩:∃RR:aLX->aLW->Prop,RR=λr w'=>r= .tuple #[.string ⟨(Sx D n).1.toArray⟩,.int .i64 (Sx D n).2]/\aL w w' aT:=⟨_,rfl⟩
 rw[<-hRR]
 unfold aiP UC
 refine cA λw1 o1 x1 s1=> ?_
 rw[BU h]at o1
 obtain⟨db,hdb⟩:∃db,db=w.heap.size:=⟨_,rfl⟩
 rw[<-hdb]at o1⊢
 have c4:w1.cell? ⟨db,4,none⟩=some (.bool D.down):=o1.cell (off:=4)
 cases hd:D.down with
 |true=>
  rw[hd]at c4
  simp(disch:=omega)only[seval,c4,aJC]
  rw[hRR]
  refine⟨?_,x1⟩
  unfold Sx
  rw[if_pos hd]
 |false=>
  rw[hd]at c4
  have ld:(aB 40 (.pointer (some ⟨db,0,none⟩))).run pg w1= .ok (.value (.agg (Aa D sv wv).toArray)) w1:=bW (off:=0) o1 (by simp)
  simp(disch:=omega)only[seval,c4,ld,aJC]
  refine(To (h.new x1) hB).mono ?_
  rintro r w2 ⟨hr,x2⟩
  obtain⟨hfb,hfl⟩:=Tc D.way hB.fs hB.ops
  have hl:(dX D).length<=1000000:=by have:=hB.len;unfold dX;omega
  refine(Yc hr hl).mono ?_
  rintro r2 w3 ⟨hw,hr2⟩
  rw[hw];clear hw w3
  rcases hr2 with⟨hg,rfl⟩|⟨i,hi,hg,hn,rfl⟩
  .have d1:decide ((-1:Int)<0)=true:=by decide
   simp(disch:=omega)only[seval,d1]
   rw[hRR]
   refine⟨?_,x1.seq x2⟩
   unfold Sx
   rw[if_neg (by rw[hd];decide),hg]
  .have d1:decide (((i:Nat):Int)<0)=false:=by simp
   obtain⟨bb,off,c',rfl,h1,h2⟩:=hr.at hi
   have hin:(i:Int).toNat=i:=aJE _
   simp(disch:=omega)only[seval,d1,hin,h2]
   rw[hRR]
   refine⟨?_,x1.seq x2⟩
   unfold Sx
   rw[if_neg (by rw[hd];decide),hg]
def iV(D:Dh):Dh×Bool:=if D.left=0 then({D with down:=true},true)else({D with left:=BT D.left},false)
theorem avL{D:Dh}{sv wv:aLX}{w:aLW}(h:LI Z w D sv wv)(hl: -1<=D.left/\D.left<=9223372036854775807):
 aG pg Aj #[.agg (Aa D sv wv).toArray] w (λr w'=>r= .tuple #[.agg (Aa (iV D).1 sv wv).toArray,.bool (iV D).2]/\aL w w' aT):=by
 refine ZL ?_
 obtain⟨RR,hRR⟩:∃RR:aLX->aLW->Prop,RR=λr w'=>r= .tuple #[.agg (Aa (iV D).1 sv wv).toArray,.bool (iV D).2]/\aL w w' aT:=⟨_,rfl⟩
 rw[<-hRR]
 unfold abJ Si Sh
 refine cA λw1 o1 x1 s1=> ?_
 rw[BU h]at o1
 obtain⟨db,hdb⟩:∃db,db=w.heap.size:=⟨_,rfl⟩
 rw[<-hdb]at o1⊢
 refine aV λw2 o2 x2 s2=> ?_
 obtain⟨rb,hrb⟩:∃rb,rb=w1.heap.size:=⟨_,rfl⟩
 rw[<-hrb]at o2⊢
 have o1:=o1.ext x2 (λh=>h)
 have hne:db≠rb:=by omega
 have c3:w2.cell? ⟨db,3,none⟩=some (.int .i64 D.left):=o1.cell (off:=3)
 have h1:=G5 h
 have fin:∀(D':Dh) (w3:aLW) (K:aLX->aLW->Prop),bD w3 db (Aa D' sv wv)->bD w3 rb [.int .i64 0,.slice none 0 0,.slice none 0 0,.int .i64 0,.bool false]->aL w w3 aT->(∀w4,aL w w4 aT->K (.agg (Aa D' sv wv).toArray) w4)→
     aA pg (aB 40 (.pointer (some ⟨db,0,none⟩))) w3 λt w=>aA pg (aF 40 (.pointer (some ⟨rb,0,none⟩)) t) w λ_u w=>kD pg 40 (.pointer (some ⟨rb,0,none⟩)) w λr0=>K r0 w:=by
  intro D' w3 K oa ob x3 hK
  have ld:(aB 40 (.pointer (some ⟨db,0,none⟩))).run pg w3= .ok (.value (.agg (Aa D' sv wv).toArray)) w3:=bW (off:=0) oa (by simp)
  have h1':∀x∈Aa D' sv wv,one x=true:=by
   obtain⟨sa,sc,hsv⟩:=h.sure.len
   obtain⟨wa,wc,hwv,_⟩:=h.way
   subst hsv;subst hwv
   intro x hx
   simp only[aJG,aJJ,or_false]at hx
   rcases hx with rfl|rfl|rfl|rfl|rfl<;>rfl
  simp(disch:=omega)only[seval,ld]
  refine dJ ob rfl (by simpa using h1') (by simp) λw4 o4 x4 s4=> ?_
  refine dV o4 (by simp[eF]) ?_
  exact hK w4 (x3.trans x4 λy hy hh=>by have:=x1.size;omega)
 have x02:aL w w2 aT:=x1.seq x2
 by_cases h0:D.left=0
 .have d1:(D.left==0)=true:=by rw[h0]<;>rfl
  simp(disch:=omega)only[seval,c3,d1,aJC]
  refine tP o1 rfl (by simp) λw3 o3 x3 s3=> ?_
  have o3:bD w3 db (Aa {D with down:=true} sv wv):=o3
  refine fin _ w3 (λr0 w=>RR (.tuple #[r0,.bool true]) w) o3 (o2.ext x3 (λhh=>hne hh.symm)) (x02.trans x3 λy hy hh=>by omega) λw4 x4=> ?_
  rw[hRR]
  refine⟨?_,x4⟩
  unfold iV
  rw[if_pos h0]
 .have d1:(D.left==0)=false:=beq_eq_false_iff_ne.2 h0
  have hst:iV D=({D with left:=BT D.left},false):=by unfold iV;rw[if_neg h0]
  unfold IN
  by_cases hp:0<D.left
  .have d2:decide ((0:Int)<D.left)=true:=by simpa using hp
   have q1:D.left-1=BT D.left:=by unfold BT;rw[if_pos hp]
   simp(disch:=omega)only[seval,c3,d1,d2,q1,aJC]
   refine Db o1 rfl (by simp) λw3 o3 x3 s3=> ?_
   have o3:bD w3 db (Aa {D with left:=BT D.left} sv wv):=by
    first|exact o3|(rw[<-q1];exact o3)
   refine fin _ w3 (λr0 w=>RR (.tuple #[r0,.bool false]) w) o3 (o2.ext x3 (λhh=>hne hh.symm)) (x02.trans x3 λy hy hh=>by omega) λw4 x4=> ?_
   rw[hRR,hst]
   exact⟨rfl,x4⟩
  .have d2:decide ((0:Int)<D.left)=false:=by simpa using hp
   simp(disch:=omega)only[seval,c3,d1,d2,aJC]
   have q1:BT D.left=D.left:=by unfold BT;rw[if_neg hp]
   refine fin D w2 (λr0 w=>RR (.tuple #[r0,.bool false]) w) o1 o2 x02 λw4 x4=> ?_
   rw[hRR,hst,q1]
   exact⟨rfl,x4⟩
end Go.Proofs.YteelnmpbnaohpaaGreatDoor
namespace Go.Proofs.YteelnmpbnaohpaaGreatDoor
open Go Go.En Go.Pu
set_option maxRecDepth 4000
set_option maxHeartbeats 4000000
variable {Z : Nat -> Prop}
abbrev roI(k:Nat)(n m:ByteArray)(a:Int)(b:List UInt8):List aLX:=[.int .i64 (k:Nat),.string n,.string m,.int .i64 a,.string ⟨b.toArray⟩]
def tK(D:Dh)(k:Nat)(n m:ByteArray)(a:Int)(b:List UInt8):Int:=
 if D.down then 20 else if(k=1/\zA m=false)∨(k=0/\a<0)∨(k<2/\zA n=false)then 1
 else if 0<k then(if bF n (dX D)=none then 21 else 0)
 else if(((bF n (dX D)).getD []).length:Int)<a then 17
 else if D.room<(bN (rdo ⟨0,n,m,a.toNat,b⟩ (dX D)):Nat)then 22 else 0
theorem arC(n:ByteArray):(n.toList==(⟨#[]⟩:ByteArray).toList)=decide (n.size=0):=by
 rw[Tp]
 by_cases h:n.size=0
 .rw [decide_eq_true h]
  refine decide_eq_true ?_
  cases n with
  |mk d=>
   have:d.size=0:=h
   rw[Array.eq_empty_of_size_eq_zero this]
 .rw [decide_eq_false h]
  refine decide_eq_false λe=>h ?_
  rw[e]<;>rfl
theorem anM(n:ByteArray):zA n= !(decide (n.size=0)||decide ((32:Int)<(n.size:Int))):=by
 unfold zA
 by_cases h:n.size=0
 .rw [decide_eq_true h,decide_eq_false (by omega)]<;>rfl
 .by_cases h2:n.size<=32
  .rw [decide_eq_false h,decide_eq_true (by omega),decide_eq_false (by omega)]<;>rfl
  .rw [decide_eq_false h,decide_eq_false (by omega),decide_eq_true (by omega)]<;>rfl
theorem axV{l:cI}{i:Nat}(hi:i<l.length):bN (l.take (i+1))=bN (l.take i)+l[i].2.length:=by
 unfold bN
 rw[aJZ hi,aJ7,List.sum_append]
 simp
theorem Uj(l:cI)(i:Nat):bN (l.take i)<=bN l:=by
 have:bN l=bN (l.take i)+bN (l.drop i):=by
  unfold bN
  rw[<-List.sum_append,<-aJ7,aKI]
 omega
theorem aBV{D:Dh}{sv wv lv:aLX}{l:cI}{db:Nat}{w:aLW}{RR:K1}(o:bD w db (Aa D sv wv))(h:Qp Z w lv l)(hl:l.length<=100000)(hz:bN l<=1000000000000)
 (hR:RR (.int .i64 (if D.room<(bN l:Nat)then 22 else 0)) w):Au RR (.pointer (some ⟨db,0,none⟩)) lv (.int .i64 0) w:=by
 obtain⟨a,c,hv⟩:=h.len
 unfold Au Lj UH ES
 refine bM.rule (λm (t:aLX×aLX) w'=>∃i:Nat,m=l.length-i/\i<=l.length/\t=(.int .i64 (bN (l.take i):Nat),.int .i64 (i:Nat))/\w'=w) l.length
  ⟨0,rfl,by omega,rfl,rfl⟩ ?_
 rintro m t w' ⟨i,rfl,hi,rfl,rfl⟩
 subst hv
 have hsz:=Uj l i
 unfold Li
 by_cases hlt:i<l.length
 .have d1:decide ((i:Int)<(l.length:Int))=true:=by simp;omega
  obtain⟨b,off,c',he,h1,h2⟩:=h.at hlt
  simp only[Value.slice.injEq]at he
  obtain⟨rfl,-,rfl⟩:=he
  have hin:(i:Int).toNat=i:=aJE _
  have q1:(i:Int)+1=((i+1:Nat):Int):=by omega
  have hsb:(⟨l[i].2.toArray⟩:ByteArray).size=l[i].2.length:=by simp[ByteArray.size]
  have ht:=axV hlt
  have hle:=Uj l (i+1)
  have q2:((bN (l.take i):Nat):Int)+((l[i].2.length:Nat):Int)=((bN (l.take (i+1)):Nat):Int):=by omega
  simp(disch:=omega)only[seval,d1,hin,h2,hsb,q1,q2]
  first
   |exact⟨l.length-(i+1),by omega,i+1,rfl,by omega,rfl,rfl⟩
   |exact⟨l.length-(i+1),by omega,i+1,rfl,by omega,rfl⟩
 .have d1:decide ((i:Int)<(l.length:Int))=false:=by simp;omega
  have c0:w'.cell? ⟨db,0,none⟩=some (.int .i64 D.room):=o.cell (off:=0)
  unfold Lh
  rw[aJD (by omega)]
  by_cases hr:D.room<((bN l:Nat):Int)
  .have d2:decide (D.room<((bN l:Nat):Int))=true:=decide_eq_true hr
   rw[if_pos hr]at hR
   simp(disch:=omega)only[seval,d1,c0,d2,aJC]
   exact hR
  .have d2:decide (D.room<((bN l:Nat):Int))=false:=decide_eq_false hr
   rw[if_neg hr]at hR
   simp(disch:=omega)only[seval,d1,c0,d2,aJC]
   exact hR
end Go.Proofs.YteelnmpbnaohpaaGreatDoor
namespace Go.Proofs.YteelnmpbnaohpaaGreatDoor
open Go Go.En Go.Pu
set_option maxRecDepth 4000
set_option maxHeartbeats 8000000
variable {Z : Nat -> Prop}
theorem aFG{D:Dh}{sv wv:aLX}{k:Nat}{n m:ByteArray}{a:Int}{b:List UInt8}{w:aLW}(h:LI Z w D sv wv)(hB:RBd D)(hk:k<=2)(hb:b.length<=1000000000)
 (hz:k=0->0<=a->a<=(((bF n (dX D)).getD []).length:Int)->bN (rdo ⟨0,n,m,a.toNat,b⟩ (dX D))<=1000000000000):
 aG pg GR #[.agg (Aa D sv wv).toArray,.agg (roI k n m a b).toArray] w (λr w'=>r= .int .i64 (tK D k n m a b)/\aL w w' aT):=by
 refine aeB ?_
 obtain⟨RR,hRR⟩:∃RR:aLX->aLW->Prop,RR=λr w'=>r= .int .i64 (tK D k n m a b)/\aL w w' aT:=⟨_,rfl⟩
 rw[<-hRR]
 have hR:∀(e:Int) w',aL w w' aT->tK D k n m a b=e->RR (.int .i64 e) w':=λe w' x he=>by rw[hRR,he];exact⟨rfl,x⟩
 clear hRR
 unfold aiS UJ UI
 refine cA λw1 o1 x1 s1=> ?_
 rw[BU h]at o1
 obtain⟨db,hdb⟩:∃db,db=w.heap.size:=⟨_,rfl⟩
 rw[<-hdb]at o1⊢
 refine cA λw2 o2 x2 s2=> ?_
 have o2:bD w2 w1.heap.size (roI k n m a b):=o2
 obtain⟨ob,hob⟩:∃ob,ob=w1.heap.size:=⟨_,rfl⟩
 rw[<-hob]at o2⊢
 have x02:=x1.seq x2
 have oD:∀{w'},aL w2 w' aT->bD w' db (Aa D sv wv):=λx=>(o1.ext x2 (λh=>h)).ext x (λh=>h)
 have c4:w2.cell? ⟨db,4,none⟩=some (.bool D.down):=(oD (aL.refl _ _)).cell (off:=4)
 have co:∀{w'},aL w2 w' aT->w'.cell? ⟨ob,0,none⟩=some (.int .i64 (k:Nat))/\w'.cell? ⟨ob,1,none⟩=some (.string n)/\w'.cell? ⟨ob,2,none⟩=some (.string m)/\w'.cell? ⟨ob,3,none⟩=some (.int .i64 a)/\w'.cell? ⟨ob,4,none⟩=some (.string ⟨b.toArray⟩):=λx=>
  ⟨(o2.ext x (λh=>h)).cell (off:=0),(o2.ext x (λh=>h)).cell (off:=1),(o2.ext x (λh=>h)).cell (off:=2),(o2.ext x (λh=>h)).cell (off:=3),(o2.ext x (λh=>h)).cell (off:=4)⟩
 obtain⟨f0,f1,f2,f3,f4⟩:=co (aL.refl w2 aT)
 cases hd:D.down with
 |true=>
  rw[hd]at c4
  simp(maxSteps:=4000000) (disch:=omega)only[aA,cU,aJC,cX,aI,cV,cO,dA,true_and,uU,kZ,AO,c4,bL,cN]
  exact hR _ _ x02 (by unfold tK;rw[if_pos hd])
 |false=>
 rw[hd]at c4
 have hnd:¬D.down=true:=by rw[hd];decide
 have hmn:=anM n
 have hmm:=anM m
 have kn:=arC n
 have km:=arC m
 have ld:(aB 40 (.pointer (some ⟨db,0,none⟩))).run pg w2= .ok (.value (.agg (Aa D sv wv).toArray)) w2:=bW (off:=0) (oD (aL.refl _ _)) (by simp)
 obtain⟨hfb,hfl⟩:=Tc D.way hB.fs hB.ops
 have hl:(dX D).length<=50000:=by have:=hB.len;unfold dX;omega
 obtain⟨eN,hEN⟩:∃e,decide (n.size=0)=e:=⟨_,rfl⟩
 obtain⟨gN,hGN⟩:∃e,decide ((32:Int)<(n.size:Int))=e:=⟨_,rfl⟩
 obtain⟨eM,hEM⟩:∃e,decide (m.size=0)=e:=⟨_,rfl⟩
 obtain⟨gM,hGM⟩:∃e,decide ((32:Int)<(m.size:Int))=e:=⟨_,rfl⟩
 rw[hEN]at kn
 rw[hEM]at km
 rw[hEN,hGN]at hmn
 rw[hEM,hGM]at hmm
 clear hEN hEM
 have u1:bG undef false=false:=by kernel_rfl
 have u2:bG undef true=false:=by kernel_rfl
 have t00:(((0:Nat):Int)==0)=true:=rfl
 have t01:(((0:Nat):Int)==1)=false:=rfl
 have t10:(((1:Nat):Int)==0)=false:=rfl
 have t11:(((1:Nat):Int)==1)=true:=rfl
 have t20:(((2:Nat):Int)==0)=false:=rfl
 have t21:(((2:Nat):Int)==1)=false:=rfl
 have l0:decide (((0:Nat):Int)<2)=true:=rfl
 have l1:decide (((1:Nat):Int)<2)=true:=rfl
 have l2:decide (((2:Nat):Int)<2)=false:=rfl
 have p0:decide ((0:Int)<((0:Nat):Int))=false:=rfl
 have p1:decide ((0:Int)<((1:Nat):Int))=true:=rfl
 have p2:decide ((0:Int)<((2:Nat):Int))=true:=rfl
 have hk3:k=0∨k=1∨k=2:=by omega
 rcases hk3 with rfl|rfl|rfl
 .
  by_cases ha:a<0
  .have ka:decide (a<0)=true:=decide_eq_true ha
   have hf:tK D 0 n m a b=1:=by unfold tK;rw[if_neg hnd,if_pos (.inr (.inl ⟨rfl,ha⟩))]
   cases eN<;>cases gN<;>(simp(maxSteps:=4000000) (disch:=omega)only[aA,cU,aJC,cX,aI,cV,cO,dA,true_and,uU,kZ,AO,c4,bL,f1,KY,kn,pP,jH,aJI,if_false,gS,mM,vU,hGN,f0,RP,t01,wY,jS,u1,t00,uT,if_true,f3,fD,ka,Rc,cN,u2,bH];exact hR _ _ x02 hf)
  have ka:decide (a<0)=false:=decide_eq_false ha
  cases hN:zA n with
  |false=>
   have hf:tK D 0 n m a b=1:=by unfold tK;rw[if_neg hnd,if_pos (.inr (.inr ⟨by decide,hN⟩))]
   rw[hN]at hmn
   cases eN<;>cases gN<;>first|(cases hmn;done)|(simp(maxSteps:=4000000) (disch:=omega)only[aA,cU,aJC,cX,aI,cV,cO,dA,true_and,uU,kZ,AO,c4,bL,f1,KY,kn,pP,jH,aJI,if_false,gS,mM,vU,hGN,f0,RP,t01,wY,jS,u1,t00,uT,if_true,f3,fD,ka,l0,cN,bH,Rc];exact hR _ _ x02 hf)
  |true=>
   rw[hN]at hmn
   have hgood:¬((0=1/\zA m=false)∨(0=0/\a<0)∨(0<2/\zA n=false)):=by rw[hN];simp[ha]
   cases eN
   .cases gN
    .simp (maxSteps:=4000000) (disch:=omega)only[aA,cU,aJC,cX,aI,cV,cO,dA,true_and,uU,kZ,AO,c4,bL,f1,KY,kn,pP,jH,aJI,if_false,gS,mM,vU,hGN,f0,RP,t01,wY,jS,u1,t00,uT,if_true,f3,fD,ka,l0,ld,bH]
     refine(To (h.new x02) hB).mono ?_
     rintro r w3 ⟨hr,x3⟩
     obtain⟨e0,e1,e2,e3,e4⟩:=co x3
     obtain⟨g0,g1,g2,g3,g4⟩:=co (x3.seq (aL.dr w3 aT))
     simp(maxSteps:=4000000) (disch:=omega)only[e1,bL,aI]
     refine(Yc hr (by omega)).mono ?_
     rintro r2 w4 ⟨hw,hr2⟩
     rw[hw];clear hw w4
     have x0d:aL w (dr w3) aT:=(x02.seq x3).seq (aL.dr _ _)
     have fin:¬(((bF n (dX D)).getD []).length:Int)<a->aG pg AY #[r,.agg (roI 0 n m a b).toArray] (dr w3) (λt88 w=>Au RR (.pointer (some ⟨db,0,none⟩)) t88 (.int .i64 0) w):=λhle=>by
      obtain⟨an,rfl⟩:∃an:Nat,a=an:=⟨a.toNat,by omega⟩
      have hg1:((bF n (dX D)).getD []).length<=1000000000:=by
       cases hg:bF n (dX D)with
       |none=>simp
       |some c=>exact hfb _ _ hg
      have hz':=hz rfl (by omega) (by omega)
      rw[aJE]at hz'
      refine(aDW (o:=⟨0,n,m,an,b⟩) (hr.new (aL.dr _ _)) (by omega) (Nat.zero_le _) (by show an<=_;omega) hb (λc hc=>hfb _ _ hc)).mono ?_
      rintro r3 w5 ⟨hr3,x5⟩
      have x05:=x0d.seq x5
      refine aBV (D:=D) (sv:=sv) (wv:=wv) (oD ((x3.seq (aL.dr _ _)).seq x5)) hr3 ?_ hz' ?_
      .have:=aqL (o:=⟨0,n,m,an,b⟩) (l:=dX D);omega
      .refine hR _ _ x05 ?_
       unfold tK
       rw[if_neg hnd,if_neg hgood,if_neg (by decide),if_neg hle,aJE]
     have hf17:(((bF n (dX D)).getD []).length:Int)<a->tK D 0 n m a b=17:=λhlt=>by
      unfold tK
      rw[if_neg hnd,if_neg hgood,if_neg (by decide),if_pos hlt]
     have ldo:(aB 96 (.pointer (some ⟨ob,0,none⟩))).run pg (dr w3)= .ok (.value (.agg (roI 0 n m a b).toArray)) (dr w3):=uW (off:=0) (o2.ext (x3.seq (aL.dr _ _)) (λh=>h)) (by simp)
     rcases hr2 with⟨hg,rfl⟩|⟨i,hi,hg,hn,rfl⟩
     .have k1:decide ((-1:Int)<0)=true:=by decide
      have k2:decide ((0:Int)<= -1)=false:=by decide
      rw[hg]at hf17 fin
      by_cases ha0:0<a
      .have k3:decide ((0:Int)<a)=true:=decide_eq_true ha0
       simp(maxSteps:=4000000) (disch:=omega)only[e0,bL,fD,k1,aI,cN,uT,jH,if_true,true_and,gS,uU,vU,p0,g3,k3,Rc,jS,u2,bH]
       exact hR _ _ x0d (hf17 (by simpa using ha0))
      .have k3:decide ((0:Int)<a)=false:=decide_eq_false ha0
       have:=fin (by simpa using ha0)
       simp(maxSteps:=4000000) (disch:=omega)only[e0,bL,fD,k1,aI,cN,uT,jH,if_true,true_and,gS,uU,vU,p0,g3,ldo,k3,pP,aJI,if_false,Dr,k2,wY,bH,jS]
       exact this
     .have k1:decide (((i:Nat):Int)<0)=false:=by simp
      have k2:decide ((0:Int)<=((i:Nat):Int))=true:=by simp
      have hin:(i:Int).toNat=i:=aJE _
      obtain⟨bb,off,c',rfl,h1,h2⟩:=(hr.new (aL.dr w3 aT)).at hi
      have hsb:(⟨(dX D)[i].2.toArray⟩:ByteArray).size=(dX D)[i].2.length:=by simp[ByteArray.size]
      rw[hg,aKA]at hf17 fin
      by_cases hlt:(((dX D)[i].2.length:Nat):Int)<a
      .have k3:decide ((((dX D)[i].2.length:Nat):Int)<a)=true:=decide_eq_true hlt
       simp(maxSteps:=4000000) (disch:=omega)only[e0,bL,fD,k1,aI,bH,wY,jH,aJI,if_false,pP,true_and,gS,Dr,k2,uT,if_true,iS,hin,gE,kZ,uU,jS,vU,p0,g3,h2,mM,hsb,k3,cN]
       exact hR _ _ x0d (hf17 hlt)
      .have k3:decide ((((dX D)[i].2.length:Nat):Int)<a)=false:=decide_eq_false hlt
       have:=fin hlt
       simp(maxSteps:=4000000) (disch:=omega)only[e0,bL,fD,k1,aI,bH,wY,jH,aJI,if_false,pP,true_and,gS,Dr,k2,uT,if_true,iS,hin,gE,kZ,uU,jS,vU,p0,g3,h2,ldo,mM,hsb,k3]
       exact this
    .cases hmn
   .cases hmn
 .
  by_cases hbad:zA m=false∨zA n=false
  .have hf:tK D 1 n m a b=1:=by
    unfold tK
    rw[if_neg hnd,if_pos]
    rcases hbad with h|h
    .exact .inl ⟨rfl,h⟩
    .exact .inr (.inr ⟨by decide,h⟩)
   rw[hmn,hmm]at hbad
   cases eN<;>cases gN<;>cases eM<;>cases gM<;>first|(exfalso;revert hbad;decide)|(simp(maxSteps:=4000000) (disch:=omega)only[aA,cU,aJC,cX,aI,cV,cO,dA,true_and,uU,kZ,AO,c4,bL,f1,KY,kn,pP,jH,aJI,if_false,gS,mM,vU,hGN,f0,RP,t11,uT,if_true,f2,km,hGM,Rc,cN,jS,u2,bH,t10,wY,fD,l1];exact hR _ _ x02 hf)
  .have hm1:zA m=true:=by cases hq:zA m with|true=>rfl|false=>exact absurd (.inl hq) hbad
   have hn1:zA n=true:=by cases hq:zA n with|true=>rfl|false=>exact absurd (.inr hq) hbad
   have hgood:¬((1=1/\zA m=false)∨(1=0/\a<0)∨(1<2/\zA n=false)):=by rw[hm1,hn1];simp
   rw[hm1]at hmm
   rw[hn1]at hmn
   cases eN<;>cases gN<;>cases eM<;>cases gM<;>first|(cases hmn;done)|(cases hmm;done)|skip
   simp(maxSteps:=4000000) (disch:=omega)only[aA,cU,aJC,cX,aI,cV,cO,dA,true_and,uU,kZ,AO,c4,bL,f1,KY,kn,pP,jH,aJI,if_false,gS,mM,vU,hGN,f0,RP,t11,uT,if_true,f2,km,hGM,t10,wY,jS,fD,l1,ld,bH]
   refine(To (h.new x02) hB).mono ?_
   rintro r w3 ⟨hr,x3⟩
   obtain⟨e0,e1,e2,e3,e4⟩:=co x3
   have x03:=x02.seq x3
   simp(maxSteps:=4000000) (disch:=omega)only[e1,bL,aI]
   refine(Yc hr (by omega)).mono ?_
   rintro r2 w4 ⟨hw,hr2⟩
   rw[hw];clear hw w4
   rcases hr2 with⟨hg,rfl⟩|⟨i,hi,hg,hn,rfl⟩
   .have k1:decide ((-1:Int)<0)=true:=by decide
    simp(maxSteps:=4000000) (disch:=omega)only[e0,bL,fD,k1,aI,cN,uT,jH,if_true,true_and,gS,uU,vU,p1]
    refine hR _ _ x03 ?_
    unfold tK
    rw[if_neg hnd,if_neg hgood,if_pos (by decide),if_pos hg]
   .have k1:decide (((i:Nat):Int)<0)=false:=by simp
    simp(maxSteps:=4000000) (disch:=omega)only[e0,bL,fD,k1,aI,bH,wY,jH,aJI,if_false,pP,true_and,gS,Dr,jS,vU,p1,cN]
    refine hR _ _ x03 ?_
    unfold tK
    rw[if_neg hnd,if_neg hgood,if_pos (by decide),if_neg (by rw[hg];simp)]
 .
  have hgood:¬((2=1/\zA m=false)∨(2=0/\a<0)∨(2<2/\zA n=false)):=by simp
  cases eN<;>cases gN
  all_goals
   simp(maxSteps:=4000000) (disch:=omega)only[aA,cU,aJC,cX,aI,cV,cO,dA,true_and,uU,kZ,AO,c4,bL,f1,KY,kn,pP,jH,aJI,if_false,gS,mM,vU,hGN,f0,RP,t21,wY,jS,u1,t20,fD,l2,bH,ld,Rc,if_true]
   refine(To (h.new x02) hB).mono ?_
   rintro r w3 ⟨hr,x3⟩
   obtain⟨e0,e1,e2,e3,e4⟩:=co x3
   have x03:=x02.seq x3
   simp(maxSteps:=4000000) (disch:=omega)only[e1,bL,aI]
   refine(Yc hr (by omega)).mono ?_
   rintro r2 w4 ⟨hw,hr2⟩
   rw[hw];clear hw w4
   rcases hr2 with⟨hg,rfl⟩|⟨i,hi,hg,hn,rfl⟩
   .have k1:decide ((-1:Int)<0)=true:=by decide
    simp(maxSteps:=4000000) (disch:=omega)only[e0,bL,fD,k1,aI,cN,uT,jH,if_true,true_and,gS,uU,vU,p2]
    refine hR _ _ x03 ?_
    unfold tK
    rw[if_neg hnd,if_neg hgood,if_pos (by decide),if_pos hg]
   .have k1:decide (((i:Nat):Int)<0)=false:=by simp
    simp(maxSteps:=4000000) (disch:=omega)only[e0,bL,fD,k1,aI,bH,wY,jH,aJI,if_false,pP,true_and,gS,Dr,jS,vU,p2,cN]
    refine hR _ _ x03 ?_
    unfold tK
    rw[if_neg hnd,if_neg hgood,if_pos (by decide),if_neg (by rw[hg];simp)]
end Go.Proofs.YteelnmpbnaohpaaGreatDoor
namespace Go.Proofs.YteelnmpbnaohpaaGreatDoor
open Go Go.En Go.Pu
set_option maxRecDepth 4000
set_option maxHeartbeats 2000000
variable {Z : Nat -> Prop}
theorem ajE{w w3:aLW}{db rb:Nat}{D':Dh}{sv wv:aLX}{cs:List aLX}{K:aLX->aLW->Prop}(h1:∀x∈Aa D' sv wv,one x=true)(oa:bD w3 db (Aa D' sv wv))(ob:bD w3 rb cs)(hcs:cs.length=5)(hb:w.heap.size<=rb)(x3:aL w w3 aT)
 (hK:∀w4,aL w3 w4 (λy=>y=rb)->aL w w4 aT->K (.agg (Aa D' sv wv).toArray) w4):
 aA pg (aB 40 (.pointer (some ⟨db,0,none⟩))) w3 λt w=>aA pg (aF 40 (.pointer (some ⟨rb,0,none⟩)) t) w λ_u w=>kD pg 40 (.pointer (some ⟨rb,0,none⟩)) w λr0=>K r0 w:=by
 have ld:(aB 40 (.pointer (some ⟨db,0,none⟩))).run pg w3= .ok (.value (.agg (Aa D' sv wv).toArray)) w3:=bW (off:=0) oa (by simp)
 simp(disch:=omega)only[seval,ld]
 refine dJ ob rfl (by simpa using h1) (by omega) λw4 o4 x4 s4=> ?_
 have hset:eF cs 0 (Aa D' sv wv)=Aa D' sv wv:=by
  match cs,hcs with
  |[a,b,c,d,e],_=>rfl
 have o4:bD w4 rb (eF cs 0 (Aa D' sv wv)):=o4
 rw[hset]at o4
 refine dV o4 (by simp) ?_
 exact hK w4 x4 (x3.trans x4 λy hy hh=>by omega)
def CM(D:Dh)(k:Nat)(n m:ByteArray)(a:Int)(b:List UInt8):Dh×Int:=
 if tK D k n m a b≠0 then(D,tK D k n m a b)
 else if(iV D).2 then((iV D).1,20)
 else({(iV D).1 with way:=D.way++[⟨k,n,m,a.toNat,b⟩]},0)
theorem Fu(D:Dh):(iV D).1.sure=D.sure/\(iV D).1.way=D.way/\(iV D).1.room=D.room:=by
 unfold iV
 split<;>exact⟨rfl,rfl,rfl⟩
theorem LI.like {w:aLW}{D D':Dh}{sv wv:aLX}(h:LI Z w D sv wv)(h1:D'.sure=D.sure)(h2:D'.way=D.way):LI Z w D' sv wv:=⟨h1▸h.sure,h2▸h.way,h.wz⟩
theorem aAI(o:LH):∀x∈roC o,one x=true:=λx hx=>by
 simp only[aJG,aJJ,or_false]at hx
 rcases hx with rfl|rfl|rfl|rfl|rfl<;>rfl
theorem aEB(l:List LH):∀x∈aeW l,one x=true:=λx hx=>by
 obtain⟨o,-,hx⟩:=aLw.1 hx
 exact aAI o x hx
theorem ayP{D:Dh}{sv wv:aLX}{k:Nat}{n m:ByteArray}{a:Int}{b:List UInt8}{w:aLW}(h:LI Z w D sv wv)(hB:RBd D)(hk:k<=2)(hka:k≠0->a=0)(hb:b.length<=1000000000)(hl: -1<=D.left/\D.left<=9223372036854775807)
 (hz:k=0->0<=a->a<=(((bF n (dX D)).getD []).length:Int)->bN (rdo ⟨0,n,m,a.toNat,b⟩ (dX D))<=1000000000000):
 aG pg gX #[.agg (Aa D sv wv).toArray,.agg (roI k n m a b).toArray] w (λr w'=>∃sv' wv',r= .tuple #[.agg (Aa (CM D k n m a b).1 sv' wv').toArray,.int .i64 (CM D k n m a b).2]/\LI Z w' (CM D k n m a b).1 sv' wv'/\aL w w' aT):=by
 refine aiK ?_
 obtain⟨RR,hRR⟩:∃RR:aLX->aLW->Prop,RR=λr w'=>∃sv' wv',r= .tuple #[.agg (Aa (CM D k n m a b).1 sv' wv').toArray,.int .i64 (CM D k n m a b).2]/\LI Z w' (CM D k n m a b).1 sv' wv'/\aL w w' aT:=⟨_,rfl⟩
 rw[<-hRR]
 have hR:∀D' e sv' wv' w',CM D k n m a b=(D',e)->LI Z w' D' sv' wv'->aL w w' aT->RR (.tuple #[.agg (Aa D' sv' wv').toArray,.int .i64 e]) w':=λD' e sv' wv' w' he hv x=>by
  rw[hRR,he]
  exact⟨sv',wv',rfl,hv,x⟩
 clear hRR
 unfold anY XC
 refine cA λw1 o1 x1 s1=> ?_
 rw[BU h]at o1
 obtain⟨db,hdb⟩:∃db,db=w.heap.size:=⟨_,rfl⟩
 rw[<-hdb]at o1⊢
 refine cA λw2 o2 x2 s2=> ?_
 have o2:bD w2 w1.heap.size (roI k n m a b):=o2
 obtain⟨ob,hob⟩:∃ob,ob=w1.heap.size:=⟨_,rfl⟩
 rw[<-hob]at o2⊢
 refine aV λw3 o3 x3 s3=> ?_
 obtain⟨rb,hrb⟩:∃rb,rb=w2.heap.size:=⟨_,rfl⟩
 rw[<-hrb]at o3⊢
 have x03:aL w w3 aT:=(x1.seq x2).seq x3
 have oD:bD w3 db (Aa D sv wv):=(o1.ext x2 (λh=>h)).ext x3 (λh=>h)
 have oO:bD w3 ob (roI k n m a b):=o2.ext x3 (λh=>h)
 have ld:(aB 40 (.pointer (some ⟨db,0,none⟩))).run pg w3= .ok (.value (.agg (Aa D sv wv).toArray)) w3:=bW (off:=0) oD (by simp)
 have lo:(aB 96 (.pointer (some ⟨ob,0,none⟩))).run pg w3= .ok (.value (.agg (roI k n m a b).toArray)) w3:=uW (off:=0) oO (by simp)
 simp(disch:=omega)only[seval,ld,lo]
 refine(aFG (h.new x03) hB hk hb hz).mono ?_
 rintro r w4 ⟨rfl,x4⟩
 have x04:=x03.seq x4
 have h1:=G5 h
 have oD4:=oD.ext x4 (λh=>h)
 have oO4:=oO.ext x4 (λh=>h)
 have oR4:=o3.ext x4 (λh=>h)
 by_cases he:tK D k n m a b=0
 rotate_left
 .have d1:(tK D k n m a b !=0)=true:=bne_iff_ne.2 he
  have:=ajE (w:=w) (K:=λr0 w=>RR (.tuple #[r0,.int .i64 (tK D k n m a b)]) w) h1 oD4 oR4 rfl (by omega) x04 (λw5 x5 x05=>hR D (tK D k n m a b) sv wv w5 (by unfold CM;rw[if_pos he]) (h.new x05) x05)
  simp(disch:=omega)only[seval,d1]
  exact this
 have d1:(tK D k n m a b !=0)=false:=by rw[he]<;>rfl
 have ld4:(aB 40 (.pointer (some ⟨db,0,none⟩))).run pg w4= .ok (.value (.agg (Aa D sv wv).toArray)) w4:=bW (off:=0) oD4 (by simp)
 simp(disch:=omega)only[seval,d1,ld4]
 refine(avL (h.new x04) hl).mono ?_
 rintro r w5 ⟨rfl,x5⟩
 obtain⟨k1,k2,k3⟩:=Fu D
 obtain⟨E,hE⟩:∃E,E=(iV D).1:=⟨_,rfl⟩
 have hv5:LI Z w E sv wv:=by rw[hE];exact h.like k1 k2
 have h1E:=G5 hv5
 rw[<-hE]
 simp(disch:=omega)only[seval]
 refine dJ (oD4.ext x5 (λh=>h)) rfl (by simpa using h1E) (by simp) λw6 o6 x6 s6=> ?_
 have o6:bD w6 db (Aa E sv wv):=o6
 have x06:aL w w6 aT:=(x04.seq x5).trans x6 λy hy hh=>by omega
 have oR6:bD w6 rb [.int .i64 0,.slice none 0 0,.slice none 0 0,.int .i64 0,.bool false]:=(oR4.ext x5 (λh=>h)).ext x6 (λhh=>by omega)
 have oO6:bD w6 ob (roI k n m a b):=(oO4.ext x5 (λh=>h)).ext x6 (λhh=>by omega)
 cases hs:(iV D).2 with
 |true=>
  have:=ajE (w:=w) (K:=λr0 w=>RR (.tuple #[r0,.int .i64 20]) w) h1E o6 oR6 rfl (by omega) x06 (λw7 x7 x07=>hR E 20 sv wv w7 (by unfold CM;rw[if_neg (by rw[he];decide),if_pos hs,hE]) (hv5.new x07) x07)
  simp(disch:=omega)only[seval]
  exact this
 |false=>
  have c2:w6.cell? ⟨db,2,none⟩=some wv:=o6.cell (off:=2)
  have ha:0<=a:=by
   by_cases hk0:k=0
   .subst hk0
    unfold tK at he
    by_cases ha:a<0
    .exfalso
     split at he
     .cases he
     .rw [if_pos (.inr (.inl ⟨rfl,ha⟩))]at he
      cases he
    .omega
   .rw [hka hk0];exact Int.le_refl 0
  obtain⟨an,rfl⟩:∃an:Nat,a=an:=⟨a.toNat,by omega⟩
  obtain⟨wa,wc,hwv,hwl,_⟩:=h.way
  have hway:=(hv5.new x06).way
  have hel:E.way.length=D.way.length:=by rw[hE,k2]
  simp(disch:=omega)only[seval,c2,aJC]
  refine iP (kW.nil w6 w6.heap.size 5) hway (aEB _) (aJK _) (by have:=hB.len;omega) λv7 w7 o7 x7=> ?_
  rw[aJC,aJX]at o7
  have x67:aL w6 w7 (λy=>w6.heap.size<=y):=x7
  have x07:aL w w7 aT:=x06.trans x7 λy hy hh=>by have:=x06.size;omega
  have l6:∀{q:Nat} {cs:List aLX},bD w6 q cs->bD w7 q cs:=λo=>o.ext x7 (λhh=>by have:=o.lt;omega)
  have oO7:=l6 oO6
  have o7d:=l6 o6
  have oR7:=l6 oR6
  have lo7:(aB 96 (.pointer (some ⟨ob,0,none⟩))).run pg w7= .ok (.value (.agg (roI k n m an b).toArray)) w7:=uW (off:=0) oO7 (by simp)
  simp(disch:=omega)only[seval,lo7]
  refine LN (cells:=(roI k n m an b).toArray) (by decide) (by decide) (by kernel_rfl) λw8 o8 x8 s8=> ?_
  have l7:∀{q:Nat} {cs:List aLX},bD w7 q cs->bD w8 q cs:=λo=>o.ext x8 (λh=>h)
  refine iP (o7.ext x8 (λ_ _ h=>h)) (m:=1) (news:=roI k n m an b) ?_ (λy hy=>aAI ⟨k,n,m,an,b⟩ y hy) (by have:=x7.size;have:=x8.size;omega) (by have:=hB.len;omega) λv9 w9 o9 x9=> ?_
  .exact ⟨_,_,rfl,rfl,λ_=>⟨_,0,rfl,λj hj=>by rw[o8.cell,aJC]⟩⟩
  have l8:∀{q:Nat} {cs:List aLX},q<w6.heap.size->bD w8 q cs->bD w9 q cs:=λhq o=>o.ext x9 (λhh=>by omega)
  have ldb:=o6.lt
  have lrb:=oR6.lt
  have x09:aL w w9 aT:=(x07.seq x8).trans x9 λy hy hh=>by have:=x06.size;omega
  have o9d:=l8 ldb (l7 o7d)
  have oR9:=l8 lrb (l7 oR7)
  obtain⟨v9a,v9c,hv9⟩:=o9.len
  refine rM (off:=2) o9d (by rw[hv9]<;>rfl) (by simp) λwa' oa xa sa=> ?_
  obtain⟨F,hF⟩:∃F:Dh,F={E with way:=D.way++[⟨k,n,m,an,b⟩]}:=⟨_,rfl⟩
  have oa:bD wa' db (Aa F sv v9):=by rw[hF];exact oa
  have x0a:aL w wa' aT:=x09.trans xa λy hy hh=>by omega
  have hvF:∀{w'},aL wa' w' (λy=>y=rb)->aL w w' aT->LI Z w' F sv v9:=λ{w'} xx x0=>by
   refine⟨?_, ?_,Zs o9 λb hb=>by have:=h.sure.2.2 b hb;have:=x06.size;omega⟩
   .rw [hF]
    show Qp Z w' sv E.sure
    exact(hv5.new x0).sure
   .rw [hF]
    show Cl w' 5 v9 (D.way++[_]).length (aeW (D.way++[_]))
    have hq:=(o9.ext xa (λbq hbq hh=>by subst hh;omega)).ext xx (λbq hbq hh=>by subst hh;omega)
    have hq:=hq.cl
    rw[aJB,aKQ,show aeW (D.way++[⟨k,n,m,an,b⟩])=aeW D.way++roI k n m an b from by simp[aeW],<-hel,show E.way=D.way from by rw[hE,k2]]at*
    exact hq
  have h1F:∀x∈Aa F sv v9,one x=true:=by
   have hx:=G5 (hvF (w':=wa') (aL.refl _ _) x0a)
   exact hx
  have:=ajE (w:=w) (K:=λr0 w=>RR (.tuple #[r0,.int .i64 0]) w) h1F oa (oR9.ext xa (λhh=>by omega)) rfl (by omega) x0a (λw7 x7 x07=>hR F 0 sv v9 w7 (by unfold CM;rw[if_neg (by rw[he];decide),if_neg (by rw[hs];decide),<-hE,hF,aJE]) (hvF x7 x07) x07)
  try simp(disch:=omega)only[seval]
  exact this
def BQ:aLX->Bool| .string _=>true|_=>false
theorem Qp.notin {w:aLW}{v:aLX}{l:cI}{b:Nat}{cs:List aLX}(h:Qp Z w v l)(o:bD w b cs)(hs:∀c∈cs,BQ c=false):¬fI v (λy=>y=b):=by
 intro hi
 obtain⟨⟨a,c,rfl,hl,hh⟩,_⟩:=h
 unfold fI at hi
 split at hi
 .rename_i e
  simp only[Value.slice.injEq]at e
  obtain⟨rfl,e2,rfl⟩:=e
  obtain⟨b',off,he,h2⟩:=hh (by omega)
  cases he
  have hi:b'=b:=hi
  subst hi
  have h3:=h2 0 (by rw[hl];omega)
  have h4:=(aqN (l:=l) (i:=0) (by omega)).1
  rw[aLV]at h4
  rw[o.cell,h4]at h3
  have:=hs _ (aKN h3)
  cases this
 .exact hi
theorem Qp.keep {w w':aLW}{v:aLX}{l:cI}{b:Nat}{cs:List aLX}(h:Qp Z w v l)(o:bD w b cs)(hs:∀c∈cs,BQ c=false)(x:aL w w' (λy=>y=b)):Qp Z w' v l:=⟨dS h.1 x (h.notin o hs),h.2.1,λb hb=>aKa (h.2.2 b hb) x.size⟩
def GH(D:Dh):Dh×Int:=
 if D.down then(D,20)else if(iV D).2 then((iV D).1,20)else({(iV D).1 with sure:=dX D,way:=[]},0)
theorem D9 {w:aLW}{D:Dh}{sv wv:aLX}(h:LI Z w D sv wv):∀x∈Aa D sv wv,BQ x=false:=by
 obtain⟨sa,sc,hsv⟩:=h.sure.len
 obtain⟨wa,wc,hwv,_⟩:=h.way
 subst hsv;subst hwv
 intro x hx
 simp only[aJG,aJJ,or_false]at hx
 rcases hx with rfl|rfl|rfl|rfl|rfl<;>rfl
theorem afS(w:aLW):Cl w 5 (.slice none 0 0) ([]:List LH).length (aeW []):=⟨none,0,rfl,rfl,λh=>by simp at h⟩
theorem aFJ{D:Dh}{sv wv:aLX}{w:aLW}(h:LI Z w D sv wv)(hB:RBd D)(hl: -1<=D.left/\D.left<=9223372036854775807):
 aG pg oX #[.agg (Aa D sv wv).toArray] w (λr w'=>∃sv' wv',r= .tuple #[.agg (Aa (GH D).1 sv' wv').toArray,.int .i64 (GH D).2]/\LI Z w' (GH D).1 sv' wv'/\aL w w' aT):=by
 refine aeA ?_
 obtain⟨RR,hRR⟩:∃RR:aLX->aLW->Prop,RR=λr w'=>∃sv' wv',r= .tuple #[.agg (Aa (GH D).1 sv' wv').toArray,.int .i64 (GH D).2]/\LI Z w' (GH D).1 sv' wv'/\aL w w' aT:=⟨_,rfl⟩
 rw[<-hRR]
 have hR:∀D' e sv' wv' w',GH D=(D',e)->LI Z w' D' sv' wv'->aL w w' aT->RR (.tuple #[.agg (Aa D' sv' wv').toArray,.int .i64 e]) w':=λD' e sv' wv' w' he hv x=>by
  rw[hRR,he]
  exact⟨sv',wv',rfl,hv,x⟩
 clear hRR
 unfold aiR UG
 refine cA λw1 o1 x1 s1=> ?_
 rw[BU h]at o1
 obtain⟨db,hdb⟩:∃db,db=w.heap.size:=⟨_,rfl⟩
 rw[<-hdb]at o1⊢
 refine aV λw3 o3 x3 s3=> ?_
 obtain⟨rb,hrb⟩:∃rb,rb=w1.heap.size:=⟨_,rfl⟩
 rw[<-hrb]at o3⊢
 have x03:aL w w3 aT:=x1.seq x3
 have oD:bD w3 db (Aa D sv wv):=o1.ext x3 (λh=>h)
 have h1:=G5 h
 have c4:w3.cell? ⟨db,4,none⟩=some (.bool D.down):=oD.cell (off:=4)
 cases hd:D.down with
 |true=>
  rw[hd]at c4
  have:=ajE (w:=w) (K:=λr0 w=>RR (.tuple #[r0,.int .i64 20]) w) h1 oD o3 rfl (by omega) x03 (λw5 x5 x05=>hR D 20 sv wv w5 (by unfold GH;rw[if_pos hd]) (h.new x05) x05)
  simp(disch:=omega)only[seval,c4,aJC]
  exact this
 |false=>
 rw[hd]at c4
 have hnd:¬D.down=true:=by rw[hd];decide
 have ld:(aB 40 (.pointer (some ⟨db,0,none⟩))).run pg w3= .ok (.value (.agg (Aa D sv wv).toArray)) w3:=bW (off:=0) oD (by simp)
 simp(disch:=omega)only[seval,c4,ld,aJC]
 refine(avL (h.new x03) hl).mono ?_
 rintro r w5 ⟨rfl,x5⟩
 obtain⟨k1,k2,k3⟩:=Fu D
 obtain⟨E,hE⟩:∃E,E=(iV D).1:=⟨_,rfl⟩
 have hv5:LI Z w E sv wv:=by rw[hE];exact h.like k1 k2
 have h1E:=G5 hv5
 rw[<-hE]
 simp(disch:=omega)only[seval]
 refine dJ (oD.ext x5 (λh=>h)) rfl (by simpa using h1E) (by simp) λw6 o6 x6 s6=> ?_
 have o6:bD w6 db (Aa E sv wv):=o6
 have x06:aL w w6 aT:=(x03.seq x5).trans x6 λy hy hh=>by omega
 have oR6:bD w6 rb [.int .i64 0,.slice none 0 0,.slice none 0 0,.int .i64 0,.bool false]:=(o3.ext x5 (λh=>h)).ext x6 (λhh=>by omega)
 cases hs:(iV D).2 with
 |true=>
  have:=ajE (w:=w) (K:=λr0 w=>RR (.tuple #[r0,.int .i64 20]) w) h1E o6 oR6 rfl (by omega) x06 (λw7 x7 x07=>hR E 20 sv wv w7 (by unfold GH;rw[if_neg hnd,if_pos hs,hE]) (hv5.new x07) x07)
  try simp(disch:=omega)only[seval]
  exact this
 |false=>
  have ld6:(aB 40 (.pointer (some ⟨db,0,none⟩))).run pg w6= .ok (.value (.agg (Aa E sv wv).toArray)) w6:=bW (off:=0) o6 (by simp)
  have hBE:RBd E:=by
   rw[hE]
   exact⟨k1▸hB.fs,k2▸hB.ops,by rw[k1,k2];exact hB.len⟩
  have hse:dX E=dX D:=by unfold dX;rw[hE,k1,k2]
  simp(disch:=omega)only[seval,ld6]
  refine(To (hv5.new x06) hBE).mono ?_
  rintro r w7 ⟨hr,x7⟩
  rw[hse]at hr
  obtain⟨ra,rc,hrv⟩:=hr.len
  have o7:=o6.ext x7 (λh=>h)
  have oR7:=oR6.ext x7 (λh=>h)
  try simp(disch:=omega)only[seval,aJC]
  refine BY (off:=1) o7 (by rw[hrv]<;>rfl) (by simp) λw8 o8 x8 s8=> ?_
  have o8:bD w8 db (Aa {E with sure:=dX D} r wv):=o8
  have hr8:Qp Z w8 r (dX D):=hr.keep o7 (D9 hv5) x8
  have x08:aL w w8 aT:=(x06.seq x7).trans x8 λy hy hh=>by omega
  have h8:LI Z w8 {E with sure:=dX D} r wv:=⟨hr8,(hv5.new x08).way,h.wz⟩
  try simp(disch:=omega)only[seval,aJC]
  refine rM (off:=2) o8 rfl (by simp) λw9 o9 x9 s9=> ?_
  obtain⟨F,hF⟩:∃F:Dh,F={E with sure:=dX D,way:=[]}:=⟨_,rfl⟩
  have o9:bD w9 db (Aa F r (.slice none 0 0)):=by rw[hF];exact o9
  have hr9:Qp Z w9 r (dX D):=hr8.keep o8 (D9 h8) x9
  have x09:aL w w9 aT:=x08.trans x9 λy hy hh=>by omega
  have oR9:=(oR7.ext x8 (λhh=>by omega)).ext x9 (λhh=>by omega)
  have hvF:∀{w'},Qp Z w' r (dX D)->LI Z w' F r (.slice none 0 0):=λ{w'} hf=>by
   rw[hF]
   exact⟨hf,afS w',λh=>h⟩
  have hns:∀c∈([.int .i64 0,.slice none 0 0,.slice none 0 0,.int .i64 0,.bool false]:List aLX),BQ c=false:=by
   intro c hc
   simp only[aJG,aJJ,or_false]at hc
   rcases hc with rfl|rfl|rfl|rfl|rfl<;>rfl
  have:=ajE (w:=w) (K:=λr0 w=>RR (.tuple #[r0,.int .i64 0]) w) (G5 (hvF hr9)) o9 oR9 rfl (by omega) x09 (λw7 x7 x07=>hR F 0 r (.slice none 0 0) w7 (by unfold GH;rw[if_neg hnd,if_neg (by rw[hs];decide),<-hE,hF]) (hvF (hr9.keep oR9 hns x7)) x07)
  try simp(disch:=omega)only[seval]
  exact this
def TQ(os:List LH)(ks:List Bool)(l:cI):Nat->cI
 |0=>l
 |i+1=>match os[i]?,ks[i]? with
  |some o,some true=>rdo o (TQ os ks l i)
  |_,_=>TQ os ks l i
def Zx(D:Dh)(ks:List Bool):Dh:={D with sure:=TQ D.way ks D.sure D.way.length,way:=[],left:= -1,down:=false}
theorem auU{os:List LH}{ks:List Bool}{l:cI}{i:Nat}(h:ks.length<=i):∀d,TQ os ks l (i+d)=TQ os ks l i
 |0=>rfl
 |d+1=>by
  rw[<-aKu,TQ]
  split
  .rename_i o h1 h2
   rw[aKp (by omega)]at h2
   cases h2
  .exact auU h d
theorem ayQ{os:List LH}{ks:List Bool}{l:cI}(h:FB l)(ho:∀o∈os,o.kind<=2/\o.at'+o.bytes.length<=1000000000):∀i,FB (TQ os ks l i)/\(TQ os ks l i).length<=l.length+i
 |0=>⟨h,aJK _⟩
 |i+1=>by
  obtain⟨h1,h2⟩:=ayQ h ho i (ks:=ks)
  rw[TQ]
  split
  .rename_i o hq _
   refine⟨aDX h1 (ho o (aKN hq)).2, ?_⟩
   have:=aqL (o:=o) (l:=TQ os ks l i)
   omega
  .exact ⟨h1,by omega⟩
theorem aDV{D:Dh}{sv wv kv:aLX}{ks:List Bool}{w:aLW}(h:LI Z w D sv wv)(hB:RBd D)(hk:Sl w kv (ks.map Value.bool))(hkl:ks.length<=9223372036854775807):
 aG pg Ai #[.agg (Aa D sv wv).toArray,kv] w (λr w'=>∃sv' wv',r= .agg (Aa (Zx D ks) sv' wv').toArray/\LI Z w' (Zx D ks) sv' wv'/\aL w w' aT):=by
 refine ZE ?_
 obtain⟨RR,hRR⟩:∃RR:aLX->aLW->Prop,RR=λr w'=>∃sv' wv',r= .agg (Aa (Zx D ks) sv' wv').toArray/\LI Z w' (Zx D ks) sv' wv'/\aL w w' aT:=⟨_,rfl⟩
 rw[<-hRR]
 obtain⟨ka,kc,rfl,hkc⟩:=hk.len
 rw[aJy]at hk hkc⊢
 unfold abG O6 O5
 refine cA λw1 o1 x1 s1=> ?_
 rw[BU h]at o1
 obtain⟨db,hdb⟩:∃db,db=w.heap.size:=⟨_,rfl⟩
 rw[<-hdb]at o1⊢
 refine aV λw3 o3 x3 s3=> ?_
 obtain⟨rb,hrb⟩:∃rb,rb=w1.heap.size:=⟨_,rfl⟩
 rw[<-hrb]at o3⊢
 have x03:aL w w3 aT:=x1.seq x3
 have oD:bD w3 db (Aa D sv wv):=o1.ext x3 (λh=>h)
 obtain⟨wa,wc,hwv,_⟩:=h.way
 have hn:=hB.len
 unfold IM IL Sb CQ
 refine bM.rule (λm (t:aLX) w'=>∃(i:Nat) (lv:aLX),m=D.way.length-i/\i<=D.way.length/\t= .int .i64 (i:Nat)/\Qp Z w' lv (TQ D.way ks D.sure i)/\bD w' db (Aa {D with sure:=TQ D.way ks D.sure i} lv wv)/\bD w' rb [.int .i64 0,.slice none 0 0,.slice none 0 0,.int .i64 0,.bool false]/\aL w w' aT) D.way.length
  ⟨0,sv,rfl,by omega,rfl,h.sure.new x03,oD,o3,x03⟩ ?_
 clear oD o3 o1
 rintro m t w4 ⟨i,lv,rfl,hi,rfl,hlv,oD,oR,x4⟩
 have hv4:LI Z w4 {D with sure:=TQ D.way ks D.sure i} lv wv:=⟨hlv,(h.new x4).way,h.wz⟩
 have c1:w4.cell? ⟨db,1,none⟩=some lv:=oD.cell (off:=1)
 have c2:w4.cell? ⟨db,2,none⟩=some wv:=oD.cell (off:=2)
 have c2':=c2
 rw[hwv]at c2'
 obtain⟨hfb,hfl⟩:=ayQ (ks:=ks) hB.fs hB.ops i
 have fin:TQ D.way ks D.sure i=TQ D.way ks D.sure D.way.length->CP RR (.pointer (some ⟨db,0,none⟩)) (.pointer (some ⟨rb,0,none⟩)) w4:=λhe=>by
  unfold CP
  try simp(disch:=omega)only[seval,aJC]
  refine rM (off:=2) oD rfl (by simp) λw5 o5 x5 s5=> ?_
  have h5:=hlv.keep oD (D9 hv4) x5
  have o5:bD w5 db (Aa {D with sure:=TQ D.way ks D.sure i,way:=[]} lv (.slice none 0 0)):=o5
  have v5:LI Z w5 {D with sure:=TQ D.way ks D.sure i,way:=[]} lv (.slice none 0 0):=⟨h5,afS w5,λh=>h⟩
  try simp(disch:=omega)only[seval,aJC]
  refine tP (off:=4) o5 rfl (by simp) λw6 o6 x6 s6=> ?_
  have h6:=h5.keep o5 (D9 v5) x6
  have o6:bD w6 db (Aa {D with sure:=TQ D.way ks D.sure i,way:=[],down:=false} lv (.slice none 0 0)):=o6
  have v6:LI Z w6 {D with sure:=TQ D.way ks D.sure i,way:=[],down:=false} lv (.slice none 0 0):=⟨h6,afS w6,λh=>h⟩
  try simp(disch:=omega)only[seval,aJC]
  refine Db (off:=3) o6 rfl (by simp) λw7 o7 x7 s7=> ?_
  have h7:=h6.keep o6 (D9 v6) x7
  obtain⟨F,hF⟩:∃F:Dh,F=Zx D ks:=⟨_,rfl⟩
  have o7:bD w7 db (Aa F lv (.slice none 0 0)):=by rw[hF];exact o7
  have x07:aL w w7 aT:=((x4.trans x5 λy hy hh=>by omega).trans x6 λy hy hh=>by omega).trans x7 λy hy hh=>by omega
  have oR7:=((oR.ext x5 (λhh=>by omega)).ext x6 (λhh=>by omega)).ext x7 (λhh=>by omega)
  have hvF:∀{w'},Qp Z w' lv (TQ D.way ks D.sure i)->LI Z w' F lv (.slice none 0 0):=λ{w'} hf=>by
   rw[hF]
   exact⟨by show Qp Z w' lv (TQ D.way ks D.sure D.way.length);rw[<-he];exact hf,afS w',λh=>h⟩
  have hns:∀c∈([.int .i64 0,.slice none 0 0,.slice none 0 0,.int .i64 0,.bool false]:List aLX),BQ c=false:=by
   intro c hc
   simp only[aJG,aJJ,or_false]at hc
   rcases hc with rfl|rfl|rfl|rfl|rfl<;>rfl
  have:=ajE (w:=w) (K:=λr0 w=>RR r0 w) (G5 (hvF h7)) o7 oR7 rfl (by omega) x07 (λw8 x8 x08=>by
   rw[hRR]
   refine⟨lv,.slice none 0 0,by rw[hF], ?_,x08⟩
   have:=hvF (h7.keep oR7 hns x8)
   rw[hF]at this
   exact this)
  try simp(disch:=omega)only[seval]
  exact this
 unfold IK Sa
 by_cases hlt:i<D.way.length
 rotate_left
 .have k1:decide ((i:Int)<(D.way.length:Int))=false:=by simp;omega
  have:=fin (by rw[show i=D.way.length from by omega])
  simp(disch:=omega)only[seval,c2',k1,aJC]
  exact this
 have k1:decide ((i:Int)<(D.way.length:Int))=true:=by simp;omega
 by_cases hlk:i<ks.length
 rotate_left
 .have k2:decide ((i:Int)<(ks.length:Int))=false:=by simp;omega
  have:=fin (by
   have:=auU (os:=D.way) (l:=D.sure) (i:=i) (ks:=ks) (by omega) (D.way.length-i)
   rw[show i+(D.way.length-i)=D.way.length from by omega]at this
   exact this.symm)
  simp(disch:=omega)only[seval,c2',k1,k2,aJC]
  exact this
 have k2:decide ((i:Int)<(ks.length:Int))=true:=by simp;omega
 have hin:(i:Int).toNat=i:=aJE _
 have q1:(i:Int)+1=((i+1:Nat):Int):=by omega
 obtain⟨kb,koff,hka,hkcell⟩:∃kb koff,ka=some ⟨kb,koff,none⟩/\w4.cell? ⟨kb,koff+i,none⟩=some (.bool ks[i]):=by
  obtain⟨a',n',c',he',hn',hc',hh⟩:=hk.ext x4 (bC _)
  simp only[Value.slice.injEq]at he'
  obtain⟨rfl,rfl,rfl⟩:=he'
  obtain⟨kb,koff,rfl,h2⟩:=hh (by omega)
  refine⟨kb,koff,rfl, ?_⟩
  rw[h2 i (by omega),aJ0,aJA hlk]
  rfl
 subst hka
 have hstep:TQ D.way ks D.sure (i+1)=if ks[i]then rdo D.way[i] (TQ D.way ks D.sure i)else TQ D.way ks D.sure i:=by
  rw[TQ,aJA hlt,aJA hlk]
  cases ks[i]<;>rfl
 unfold IJ
 cases hki:ks[i]with
 |false=>
  rw[hki]at hkcell
  rw[hki,if_neg (by decide)]at hstep
  simp(disch:=omega)only[seval,c2',k1,k2,hin,hkcell,q1,aJC]
  exact⟨D.way.length-(i+1),by omega,i+1,lv,rfl,by omega,rfl,by rw[hstep];exact hlv,by rw[hstep];exact oD,oR,x4⟩
 |true=>
  rw[hki]at hkcell
  rw[hki,if_pos rfl]at hstep
  have x4d:aL w (dr w4) aT:=x4.seq (aL.dr _ _)
  have oDd:=dB oD
  have d1:(dr w4).cell? ⟨db,1,none⟩=some lv:=oDd.cell (off:=1)
  have d2:(dr w4).cell? ⟨db,2,none⟩=some wv:=oDd.cell (off:=2)
  obtain⟨a,off,c',he,hld⟩:=(h.new x4d).op hlt
  rw[he]at d2
  have hops:=hB.ops _ (aKl hlt)
  simp(disch:=omega)only[seval,c2',k1,k2,hin,hkcell,d1,d2,hld,aJC]
  refine(aDW (hlv.new (aL.dr _ _)) (by omega) hops.1 (by omega) (by omega) (λb hb=>hfb _ _ hb)).mono ?_
  rintro r w5 ⟨hr,x5⟩
  obtain⟨ra,rc,hrv⟩:=hr.len
  have oD5:=oDd.ext x5 (λh=>h)
  have oR5:=(dB oR).ext x5 (λh=>h)
  try simp(disch:=omega)only[seval,aJC]
  refine BY (off:=1) oD5 (by rw[hrv]<;>rfl) (by simp) λw6 o6 x6 s6=> ?_
  have v5:LI Z w5 {D with sure:=TQ D.way ks D.sure i} lv wv:=hv4.new ((aL.dr _ _).seq x5)
  have hr6:=hr.keep oD5 (D9 v5) x6
  rw[<-hstep]at hr6
  have o6:bD w6 db (Aa {D with sure:=TQ D.way ks D.sure (i+1)} r wv):=o6
  simp(disch:=omega)only[seval,q1]
  exact⟨D.way.length-(i+1),by omega,i+1,r,rfl,by omega,rfl,hr6,o6,oR5.ext x6 (λhh=>by omega),(x4d.seq x5).trans x6 λy hy hh=>by omega⟩
end Go.Proofs.YteelnmpbnaohpaaGreatDoor
namespace Go.Proofs.YteelnmpbnaohpaaGreatDoor
open Go Go.En Go.Pu
structure GV(S:cF)(D:Dh):Prop where
 rm:D.room=S.room
 lf:D.left=S.left
 dn:D.down=S.down
 wy:D.way=S.under
 su:Sim S.sure D.sure
 se:Sim S.seen (dX D)
 kd:∀o∈S.under,o.kind<=2
theorem aFP(r:Int):GV (WV r) ⟨r,[],[],-1,false⟩:=⟨rfl,rfl,rfl,rfl,Sim.nil,Sim.nil,λo h=>by cases h⟩
theorem avW{S:cF}{D:Dh}(h:GV S D)(n:ByteArray):Sx D n=if S.down then(([]:List UInt8),(20:Int))else match bF n S.seen with
 |none=>([],21)
 |some b=>(b,0):=by
 unfold Sx
 by_cases hd:S.down=true
 .rw [h.dn,if_pos hd,if_pos hd]
 .rw [h.dn,h.se.eq]<;>simp only[if_neg hd]<;>(cases bF n (dX D)<;>rfl)
theorem aEe{S:cF}{D:Dh}(h:GV S D)(a:Int):GV {S with left:=a} {D with left:=a}:=⟨h.rm,rfl,h.dn,h.wy,h.su,h.se,h.kd⟩
theorem aoL{S:cF}{D:Dh}(h:GV S D)(hd:S.down=false):(iV D).2=dnB S/\GV {S with left:=BT S.left,down:=dnB S} (iV D).1:=by
 unfold iV dnB
 rw[h.lf,hd,aLe]
 by_cases h0:S.left=0
 .rw [if_pos h0]
  refine⟨by rw[h0]<;>rfl,⟨h.rm, ?_,by show true=_;rw[h0]<;>rfl,h.wy,h.su,h.se,h.kd⟩⟩
  show S.left=BT S.left
  rw[h0]<;>rfl
 .rw [if_neg h0]
  have:(S.left==0)=false:=beq_eq_false_iff_ne.2 h0
  refine⟨this.symm,⟨h.rm,rfl,by show D.down=_;rw[h.dn,hd,this],h.wy,h.su,h.se,h.kd⟩⟩
theorem akD{S:cF}{D:Dh}(h:GV S D)(hd:S.down=false){k:Nat}{n m:ByteArray}{a:Int}{b:List UInt8}(hf:tK D k n m a b=0)(hk:k<=2):(CM D k n m a b).2=(wR S ⟨k,n,m,a.toNat,b⟩).2/\GV (wR S ⟨k,n,m,a.toNat,b⟩).1 (CM D k n m a b).1:=by
 obtain⟨h1,h2⟩:=aoL h hd
 unfold CM wR
 rw[if_neg (by rw[hf];decide),h1]
 cases hs:dnB S with
 |true=>
  rw[hs]at h2
  exact⟨rfl,h2⟩
 |false=>
  rw[hs]at h2
  refine⟨rfl,⟨h2.rm,h2.lf,h2.dn, ?_,h2.su, ?_,λo ho=> ?_⟩⟩
  .show D.way++[_]=S.under++[_]
   rw[h.wy]
  .have h3:=h.se.do (o:=⟨k,n,m,a.toNat,b⟩) hk
   have hr:dX {(iV D).1 with way:=D.way++[⟨k,n,m,a.toNat,b⟩]}=rdo ⟨k,n,m,a.toNat,b⟩ (dX D):=by
    unfold dX
    show(D.way++[_]).foldl _ (iV D).1.sure=_
    rw[List.foldl_append,(Fu D).1]
    rfl
   have h4:Sim (TL ⟨k,n,m,a.toNat,b⟩ S.seen) (dX {(iV D).1 with way:=D.way++[⟨k,n,m,a.toNat,b⟩]}):=by rw[hr];exact h3
   exact h4
  .rcases aKc.1 ho with ho|ho
   .exact h.kd o ho
   .rw [aKi]at ho
    rw[ho];exact hk
theorem Em{S:cF}{D:Dh}(h:GV S D){k:Nat}{n m:ByteArray}{a:Int}{b:List UInt8}{e:Int}(hf:tK D k n m a b=e)(he:e≠0):(CM D k n m a b).2=e/\GV S (CM D k n m a b).1:=by
 unfold CM
 rw[if_pos (by rw[hf];exact he)]
 exact⟨hf,h⟩
theorem aoM{S:cF}{D:Dh}(h:GV S D)(n:ByteArray)(a:Int)(b:List UInt8):(CM D 0 n ⟨#[]⟩ a b).2=(yL S n a b).2/\GV (yL S n a b).1 (CM D 0 n ⟨#[]⟩ a b).1:=by
 have hf:tK D 0 n ⟨#[]⟩ a b=wrE S n a b.length:=by
  unfold tK wrE
  rw[h.dn]
  by_cases hd:S.down=true
  .rw [if_pos hd,if_pos hd]
  rw[if_neg hd,if_neg hd]
  by_cases hb:zA n=false∨a<0
  .rw [if_pos hb,if_pos]
   rcases hb with hb|hb
   .exact .inr (.inr ⟨by decide,hb⟩)
   .exact .inr (.inl ⟨rfl,hb⟩)
  rw[if_neg hb,if_neg,if_neg (by decide),<-h.se.eq]
  .have hsb:lR S n=(bF n S.seen).getD []:=rfl
   rw[hsb]
   by_cases h17:(((bF n S.seen).getD []).length:Int)<a
   .rw [if_pos h17,if_pos h17]
   rw[if_neg h17,if_neg h17,h.rm,<-((h.se.do (o:=⟨0,n,⟨#[]⟩,a.toNat,b⟩) (Nat.zero_le _)).both).1]
   have hs:=qW n (over ((bF n S.seen).getD []) a.toNat b) S.seen
   rw[xG]at hs
   have hdo:TL ⟨0,n,⟨#[]⟩,a.toNat,b⟩ S.seen=lP n (over ((bF n S.seen).getD []) a.toNat b) S.seen:=rfl
   rw[hdo]
   have ha:0<=a:=by
    by_cases ha:a<0
    .exact absurd (.inr ha) hb
    .omega
   have heq:((bN (lP n (over ((bF n S.seen).getD []) a.toNat b) S.seen):Nat):Int)=(bN S.seen:Int)+max (a+(b.length:Int)-(((bF n S.seen).getD []).length:Int)) 0:=by
    generalize((bF n S.seen).getD []).length=q at*
    omega
   rw[heq]
  .rintro (hh|hh|hh)
   .exact absurd hh.1 (by decide)
   .exact hb (.inr hh.2)
   .exact hb (.inl hh.2)
 unfold yL
 by_cases he:wrE S n a b.length=0
 .rw [if_pos he]
  have hd:S.down=false:=by
   cases hd:S.down with
   |false=>rfl
   |true=>unfold wrE at he;rw[if_pos hd]at he;cases he
  exact akD h hd (by rw[hf,he]) (Nat.zero_le _)
 .rw [if_neg he]
  exact Em h hf he
theorem akE{S:cF}{D:Dh}(h:GV S D)(n:ByteArray):(CM D 2 n ⟨#[]⟩ 0 []).2=(Yd S n).2/\GV (Yd S n).1 (CM D 2 n ⟨#[]⟩ 0 []).1:=by
 unfold Yd
 by_cases hd:S.down=true
 .rw [if_pos hd]
  exact Em (e:=20) h (by unfold tK;rw[h.dn,if_pos hd]) (by decide)
 have hd':S.down=false:=by cases hq:S.down with|true=>exact absurd hq hd|false=>rfl
 have hf:tK D 2 n ⟨#[]⟩ 0 []=if bF n S.seen=none then 21 else 0:=by
  unfold tK
  rw[h.dn,if_neg hd,if_neg (by simp),if_pos (by decide),h.se.eq]
 rw[if_neg hd]
 cases hg:bF n S.seen with
 |none=>
  rw[hg,if_pos rfl]at hf
  exact Em (e:=21) h hf (by decide)
 |some b=>
  rw[hg,if_neg (by simp)]at hf
  exact akD h hd' hf (by decide)
theorem akF{S:cF}{D:Dh}(h:GV S D)(n m:ByteArray):(CM D 1 n m 0 []).2=(JG S n m).2/\GV (JG S n m).1 (CM D 1 n m 0 []).1:=by
 unfold JG
 by_cases hd:S.down=true
 .rw [if_pos hd]
  exact Em (e:=20) h (by unfold tK;rw[h.dn,if_pos hd]) (by decide)
 have hd':S.down=false:=by cases hq:S.down with|true=>exact absurd hq hd|false=>rfl
 rw[if_neg hd]
 by_cases hb:zA n=false∨zA m=false
 .rw [if_pos hb]
  refine Em (e:=1) h ?_ (by decide)
  unfold tK
  rw[h.dn,if_neg hd,if_pos]
  rcases hb with hb|hb
  .exact .inr (.inr ⟨by decide,hb⟩)
  .exact .inl ⟨rfl,hb⟩
 have hf:tK D 1 n m 0 []=if bF n S.seen=none then 21 else 0:=by
  unfold tK
  rw[h.dn,if_neg hd,if_neg,if_pos (by decide),h.se.eq]
  rintro(hh|hh|hh)
  .exact hb (.inr hh.2)
  .exact absurd hh.1 (by decide)
  .exact hb (.inl hh.2)
 rw[if_neg hb]
 cases hg:bF n S.seen with
 |none=>
  rw[hg,if_pos rfl]at hf
  exact Em (e:=21) h hf (by decide)
 |some b=>
  rw[hg,if_neg (by simp)]at hf
  exact akD h hd' hf (by decide)
theorem avX{S:cF}{D:Dh}(h:GV S D):(GH D).2=(Ad S).2/\GV (Ad S).1 (GH D).1:=by
 unfold GH Ad
 rw[h.dn]
 by_cases hd:S.down=true
 .rw [if_pos hd,if_pos hd]
  exact⟨rfl,h⟩
 have hd':S.down=false:=by cases hq:S.down with|true=>exact absurd hq hd|false=>rfl
 obtain⟨h1,h2⟩:=aoL h hd'
 rw[if_neg hd,if_neg hd,h1]
 cases hs:dnB S with
 |true=>
  rw[hs]at h2
  exact⟨rfl,h2⟩
 |false=>
  rw[hs]at h2
  refine⟨rfl,⟨h2.rm,h2.lf,h2.dn,rfl,h.se, ?_,λo ho=>by cases ho⟩⟩
  show Sim S.seen (dX {(iV D).1 with sure:=dX D,way:=[]})
  exact h.se
theorem aB2 {S:cF}{D:Dh}(h:GV S D)(ks:List Bool):GV (crS S ks) (Zx D ks):=by
 have hi:∀i,Sim (crN S.under ks S.sure i) (TQ D.way ks D.sure i):=by
  intro i
  induction i with
  |zero=>exact h.su
  |succ i ih=>
   rw[crN,TQ,h.wy]
   rw[h.wy]at ih
   cases ho:S.under[i]? with
   |none=>exact ih
   |some o=>
    cases hk:ks[i]? with
    |none=>exact ih
    |some z=>
     cases z with
     |false=>exact ih
     |true=>exact ih.do (h.kd o (aKN ho))
 have hh:=hi S.under.length
 refine⟨h.rm,rfl,rfl,rfl, ?_, ?_,λo ho=>by cases ho⟩
 .show Sim _ (TQ D.way ks D.sure D.way.length)
  rw[show D.way.length=S.under.length from by rw[h.wy]]
  exact hh
 .show Sim _ (TQ D.way ks D.sure D.way.length)
  rw[show D.way.length=S.under.length from by rw[h.wy]]
  exact hh
end Go.Proofs.YteelnmpbnaohpaaGreatDoor
namespace Go.Proofs.YteelnmpbnaohpaaGreatDoor
open Go Go.En Go.Pu
set_option maxRecDepth 4000
variable {Z : Nat -> Prop}
theorem ayT{S:cF}{D:Dh}{sv wv:aLX}{n:ByteArray}{w:aLW}(h:LI Z w D sv wv)(hB:RBd D)(hS:GV S D):
 aG pg sI #[.agg (Aa D sv wv).toArray,.string n] w (λr w'=>r= .tuple #[.string ⟨(bS S n).1.toArray⟩,.bool (bS S n).2.1,.int .i64 (bS S n).2.2]/\aL w w' aT):=by
 refine aeH ?_
 obtain⟨RR,hRR⟩:∃RR:aLX->aLW->Prop,RR=λr w'=>r= .tuple #[.string ⟨(bS S n).1.toArray⟩,.bool (bS S n).2.1,.int .i64 (bS S n).2.2]/\aL w w' aT:=⟨_,rfl⟩
 rw[<-hRR]
 unfold aiZ UQ
 refine cA λw1 o1 x1 s1=> ?_
 rw[BU h]at o1
 obtain⟨db,hdb⟩:∃db,db=w.heap.size:=⟨_,rfl⟩
 rw[<-hdb]at o1⊢
 have ld:(aB 40 (.pointer (some ⟨db,0,none⟩))).run pg w1= .ok (.value (.agg (Aa D sv wv).toArray)) w1:=bW (off:=0) o1 (by simp)
 simp(disch:=omega)only[seval,ld]
 refine(aAK (h.new x1) hB).mono ?_
 rintro r w2 ⟨rfl,x2⟩
 have x02:=x1.seq x2
 have hr:=avW hS n
 by_cases hd:S.down=true
 .rw [if_pos hd]at hr
  rw[hr]
  have k1:((20:Int)==21)=false:=rfl
  have k2:((20:Int)==0)=false:=rfl
  simp(disch:=omega)only[seval,k1,k2]
  rw[hRR]
  refine⟨?_,x02⟩
  unfold bS
  rw[if_pos hd]
 .rw [if_neg hd]at hr
  cases hg:bF n S.seen with
  |none=>
   rw[hg]at hr
   have hr:Sx D n=([],21):=hr
   rw[hr]
   have k1:((21:Int)==21)=true:=rfl
   simp(disch:=omega)only[seval,k1]
   rw[hRR]
   refine⟨?_,x02⟩
   unfold bS
   rw[if_neg hd,hg]
  |some b=>
   rw[hg]at hr
   have hr:Sx D n=(b,0):=hr
   rw[hr]
   have k1:((0:Int)==21)=false:=rfl
   have k2:((0:Int)==0)=true:=rfl
   simp(disch:=omega)only[seval,k1,k2]
   rw[hRR]
   refine⟨?_,x02⟩
   unfold bS
   rw[if_neg hd,hg]
structure RK(n:Nat)(S:cF)(D:Dh):Prop where
 sim:GV S D
 bk:Gt n S
 rb:RBd D
 len:D.sure.length+D.way.length+n<=50000
theorem RK.le {n m:Nat}{S:cF}{D:Dh}(h:RK n S D)(hm:m<=n):RK m S D:=⟨h.sim,h.bk.le hm,h.rb,by have:=h.len;omega⟩
theorem RK.left {n:Nat}{S:cF}{D:Dh}(h:RK n S D): -1<=D.left/\D.left<=9223372036854775807:=by
 rw[h.sim.lf];exact h.bk.bd.left
theorem RBd.like {D D':Dh}(h:RBd D)(h1:D'.sure=D.sure)(h2:D'.way=D.way):RBd D':=⟨h1▸h.fs,h2▸h.ops,by rw[h1,h2];exact h.len⟩
theorem aqK{D:Dh}{N k:Nat}{n m:ByteArray}{a:Int}{b:List UInt8}(h:RBd D)(hl:D.sure.length+D.way.length+(N+1)<=50000)(ho:tK D k n m a b=0->k<=2/\a.toNat+b.length<=1000000000):
 RBd (CM D k n m a b).1/\(CM D k n m a b).1.sure.length+(CM D k n m a b).1.way.length+N<=50000:=by
 obtain⟨k1,k2,_⟩:=Fu D
 unfold CM
 split
 .exact ⟨h,by show D.sure.length+D.way.length+N<=50000;omega⟩
 .rename_i h0
  have h0:tK D k n m a b=0:=Classical.not_not.1 h0
  split
  .exact ⟨h.like k1 k2,by rw[k1,k2];omega⟩
  .have hlen:((iV D).1.sure).length+(D.way++[(⟨k,n,m,a.toNat,b⟩:LH)]).length+N<=50000:=by rw[k1,aJB];simp;omega
   refine⟨⟨k1▸h.fs,λo hm=> ?_, ?_⟩,hlen⟩
   .rcases aKc.1 hm with hm|hm
    .exact h.ops o hm
    .rw [aKi]at hm
     subst hm
     exact ho h0
   .have:((iV D).1.sure).length+(D.way++[(⟨k,n,m,a.toNat,b⟩:LH)]).length<=50000:=by omega
    exact this
theorem aDY{D:Dh}{S:cF}(h:GV S D)(n m:ByteArray)(a:Nat)(b:List UInt8):bN (rdo ⟨0,n,m,a,b⟩ (dX D))+(lR S n).length=bN S.seen+max (lR S n).length (a+b.length):=by
 have h1:=(Sim.do (o:=⟨0,n,m,a,b⟩) h.se (show(0:Nat)<=2 by omega)).both.1
 rw[<-h1]
 have e:TL ⟨0,n,m,a,b⟩ S.seen=lP n (over (lR S n) a b) S.seen:=rfl
 rw[e]
 have hs:=qW n (over (lR S n) a b) S.seen
 rw[xG]at hs
 exact hs
theorem RK.write {n:Nat}{S:cF}{D:Dh}(h:RK (n+1) S D)(k:ByteArray)(a:Int)(l:List UInt8):RK n (yL S k a l).1 (CM D 0 k ⟨#[]⟩ a l).1:=by
 obtain⟨h1,h2⟩:=aqK (N:=n) (k:=0) (n:=k) (m:=⟨#[]⟩) (a:=a) (b:=l) h.rb (by have:=h.len;omega) (λhf=>by
  have hr:=h.bk.bd.room
  have hz:=h.bk.sz
  have hw:=aDY h.sim k ⟨#[]⟩ a.toNat l
  have hg:(lR S k).length<=bN S.seen:=qV
  unfold tK at hf
  rw[h.sim.rm]at hf
  split at hf
  .cases hf
  split at hf
  .cases hf
  rw[if_neg (by omega)]at hf
  split at hf
  .cases hf
  split at hf
  .cases hf
  rename_i h5
  refine⟨by omega, ?_⟩
  omega)
 exact⟨(aoM h.sim k a l).2,awV h.bk,h1,h2⟩
theorem RK.remove {n:Nat}{S:cF}{D:Dh}(h:RK (n+1) S D)(k:ByteArray):RK n (Yd S k).1 (CM D 2 k ⟨#[]⟩ 0 []).1:=by
 obtain⟨h1,h2⟩:=aqK (N:=n) (k:=2) (n:=k) (m:=⟨#[]⟩) (a:=0) (b:=[]) h.rb (by have:=h.len;omega) (λhf=>⟨by omega,by simp⟩)
 exact⟨(akE h.sim k).2,aAH h.bk,h1,h2⟩
theorem RK.rename {n:Nat}{S:cF}{D:Dh}(h:RK (n+1) S D)(k j:ByteArray):RK n (JG S k j).1 (CM D 1 k j 0 []).1:=by
 obtain⟨h1,h2⟩:=aqK (N:=n) (k:=1) (n:=k) (m:=j) (a:=0) (b:=[]) h.rb (by have:=h.len;omega) (λhf=>⟨by omega,by simp⟩)
 exact⟨(akF h.sim k j).2,aGn h.bk,h1,h2⟩
theorem RK.sync {n:Nat}{S:cF}{D:Dh}(h:RK n S D):RK n (Ad S).1 (GH D).1:=by
 obtain⟨k1,k2,_⟩:=Fu D
 have hl:=h.len
 refine⟨(avX h.sim).2,aGo h.bk, ?_, ?_⟩
 .unfold GH
  split
  .exact h.rb
  split
  .exact h.rb.like k1 k2
  .obtain ⟨f1,f2⟩:=Tc D.way h.rb.fs h.rb.ops
   exact⟨f1,λo ho=>(nomatch ho),by show(dX D).length+0<=50000;unfold dX;omega⟩
 .unfold GH
  split
  .exact hl
  split
  .rw [k1,k2];exact hl
  .obtain ⟨f1,f2⟩:=Tc D.way h.rb.fs h.rb.ops
   show(dX D).length+0+n<=50000
   unfold dX;omega
def sL(Z:Nat->Prop)(n:Nat)(w:aLW)(S:cF)(dv:aLX):Prop:=∃D sv wv,dv= .agg (Aa D sv wv).toArray/\LI Z w D sv wv/\RK n S D
theorem sL.new {n:Nat}{w w':aLW}{S:cF}{dv:aLX}(h:sL Z n w S dv)(x:aL w w' aT):sL Z n w' S dv:=by
 obtain⟨D,sv,wv,h1,h2,h3⟩:=h
 exact⟨D,sv,wv,h1,h2.new x,h3⟩
theorem sL.le {n m:Nat}{w:aLW}{S:cF}{dv:aLX}(h:sL Z n w S dv)(hm:m<=n):sL Z m w S dv:=by
 obtain⟨D,sv,wv,h1,h2,h3⟩:=h
 exact⟨D,sv,wv,h1,h2,h3.le hm⟩
def YH:List aLX->Bool
 |a::b::r=> !(BQ a&&BQ b)&&YH (b::r)
 |_=>true
theorem aDz:∀{cs:List aLX} {i:Nat} {x y:aLX},YH cs=true->cs[i]?=some x->cs[i+1]?=some y->BQ x=true->BQ y=true->False
 |a::b::r,0,x,y,h,h1,h2,hx,hy=>by
  simp only[aJz,aJF,aJ8]at h1 h2
  subst h1;subst h2
  rw[YH,hx,hy]at h
  cases h
 |a::b::r,i+1,x,y,h,h1,h2,hx,hy=>by
  rw[YH,aJM]at h
  exact aDz (i:=i) h.2 (by simpa using h1) (by simpa using h2) hx hy
 |[a],i,x,y,h,h1,h2,hx,hy=>by simp at h2
 |[],i,x,y,h,h1,h2,hx,hy=>by simp at h2
theorem Mh:∀{cs:List aLX},(∀c∈cs,BQ c=false)->YH cs=true
 |a::b::r,h=>by
  rw[YH,h a (by simp),aKC,aKD,aKH]
  exact Mh λc hc=>h c (by simp[hc])
 |[a],h=>rfl
 |[],h=>rfl
theorem aCK{w:aLW}{sz n o:Nat}{v:aLX}{l:List aLX}{b:Nat}{cs:List aLX}(h:Cl w sz v n l)(oo:bD w b cs)(hn:YH cs=true)(ho:o+1<sz)(hs:∀i,i<n->∃x y,l[i*sz+o]?=some x/\l[i*sz+(o+1)]?=some y/\BQ x=true/\BQ y=true):¬fI v (λy=>y=b):=by
 intro hi
 obtain⟨a,c,rfl,hl,hh⟩:=h
 unfold fI at hi
 split at hi
 .rename_i e
  simp only[Value.slice.injEq]at e
  obtain⟨rfl,e2,rfl⟩:=e
  obtain⟨b',off,he,h2⟩:=hh (by omega)
  cases he
  have hi:b'=b:=hi
  subst hi
  obtain⟨x,y,h3,h4,hx,hy⟩:=hs 0 (by omega)
  rw[aLV,aJC]at h3 h4
  have hsz:sz<=l.length:=by rw[hl,e2];exact Nat.le_mul_of_pos_left _ (by omega)
  have g3:=h2 o (by omega)
  have g4:=h2 (o+1) (by omega)
  rw[oo.cell,h3]at g3
  rw[oo.cell,h4]at g4
  exact aDz (i:=off+o) hn g3 (by rw[aKu];exact g4) hx hy
 .exact hi
theorem Zb{v:aLX}{M:Nat->Prop}(h:fI v M):∃b,M b/\fI v (λy=>y=b):=by
 unfold fI at h
 split at h
 .exact ⟨_,h,rfl⟩
 .exact h.elim
theorem LI.keep {w w':aLW}{D:Dh}{sv wv:aLX}{M:Nat->Prop}(h:LI Z w D sv wv)(x:aL w w' M)(hM:∀b,M b->(∃cs,bD w b cs/\YH cs=true)∨w.heap.size<=b):LI Z w' D sv wv:=by
 refine⟨⟨dS h.sure.1 x λhi=> ?_,h.sure.2.1,λb hb=>aKa (h.sure.2.2 b hb) x.size⟩,dS h.way x λhi=> ?_,h.wz⟩
 .obtain ⟨b,hb,hi⟩:=Zb hi
  rcases hM b hb with⟨cs,o,hn⟩|hn
  .refine aCK (o:=0) h.sure.1 o hn (by omega) (λi hi=> ?_) hi
   obtain⟨h3,h4⟩:=aqN hi
   exact⟨_,_,h3,h4,rfl,rfl⟩
  .exact Wd h.sure.1 (by omega) (bO hi λy hy=>by rw[hy];exact hn)
 .obtain ⟨b,hb,hi⟩:=Zb hi
  rcases hM b hb with⟨cs,o,hn⟩|hn
  .refine aCK (o:=1) h.way o hn (by omega) (λi hi=> ?_) hi
   exact⟨_,_,afR hi (by omega),afR hi (by omega),rfl,rfl⟩
  .exact Wd h.way (by omega) (bO hi λy hy=>by rw[hy];exact hn)
theorem sL.keep {n:Nat}{w w':aLW}{S:cF}{dv:aLX}{M:Nat->Prop}(h:sL Z n w S dv)(x:aL w w' M)(hM:∀b,M b->(∃cs,bD w b cs/\YH cs=true)∨w.heap.size<=b):sL Z n w' S dv:=by
 obtain⟨D,sv,wv,h1,h2,h3⟩:=h
 exact⟨D,sv,wv,h1,h2.keep x hM,h3⟩
theorem sL.cs {n:Nat}{w:aLW}{S:cF}{dv:aLX}(h:sL Z n w S dv):∃cs:List aLX,dv= .agg cs.toArray/\cs.length=5/\(Value.agg cs.toArray).cells.toList=cs/\(∀x∈cs,one x=true)/\∀x∈cs,BQ x=false:=by
 obtain⟨D,sv,wv,h1,h2,h3⟩:=h
 exact⟨_,h1,rfl,BU h2,G5 h2,D9 h2⟩
theorem ajH{N:Nat}{S:cF}{dv:aLX}{n:ByteArray}{w:aLW}(h:sL Z N w S dv):
 aG pg sI #[dv,.string n] w (λr w'=>r= .tuple #[.string ⟨(bS S n).1.toArray⟩,.bool (bS S n).2.1,.int .i64 (bS S n).2.2]/\aL w w' aT):=by
 obtain⟨D,sv,wv,rfl,h2,h3⟩:=h
 exact ayT h2 h3.rb h3.sim
theorem HA{N:Nat}{S:cF}{dv:aLX}{k:ByteArray}{a:Int}{l:List UInt8}{w:aLW}(h:sL Z (N+1) w S dv)(hl:l.length<=1000000000):
 aG pg gX #[dv,.agg (roI 0 k ⟨#[]⟩ a l).toArray] w (λr w'=>∃dv',r= .tuple #[dv',.int .i64 (yL S k a l).2]/\sL Z N w' (yL S k a l).1 dv'/\aL w w' aT):=by
 obtain⟨D,sv,wv,rfl,h2,h3⟩:=h
 have hz:=h3.bk.sz
 refine(ayP h2 h3.rb (by omega) (λh=>absurd rfl h) hl h3.left (λ_ h0 ha=> ?_)).mono ?_
 .have hw:=aDY h3.sim k ⟨#[]⟩ a.toNat l
  have hg:(lR S k).length<=bN S.seen:=qV
  have he:((bF k (dX D)).getD []).length=(lR S k).length:=by unfold lR;rw[h3.sim.se.eq]
  omega
 .rintro r w' ⟨sv',wv',rfl,hv,x⟩
  rw[(aoM h3.sim k a l).1]
  exact⟨_,rfl,⟨_,_,_,rfl,hv,h3.write k a l⟩,x⟩
theorem ayY{N:Nat}{S:cF}{dv:aLX}{k:ByteArray}{w:aLW}(h:sL Z (N+1) w S dv):
 aG pg gX #[dv,.agg (roI 2 k ⟨#[]⟩ 0 []).toArray] w (λr w'=>∃dv',r= .tuple #[dv',.int .i64 (Yd S k).2]/\sL Z N w' (Yd S k).1 dv'/\aL w w' aT):=by
 obtain⟨D,sv,wv,rfl,h2,h3⟩:=h
 refine(ayP h2 h3.rb (by omega) (λ_=>rfl) (by simp) h3.left (λh=>absurd h (by decide))).mono ?_
 rintro r w' ⟨sv',wv',rfl,hv,x⟩
 rw[(akE h3.sim k).1]
 exact⟨_,rfl,⟨_,_,_,rfl,hv,h3.remove k⟩,x⟩
theorem ayZ{N:Nat}{S:cF}{dv:aLX}{k j:ByteArray}{w:aLW}(h:sL Z (N+1) w S dv):
 aG pg gX #[dv,.agg (roI 1 k j 0 []).toArray] w (λr w'=>∃dv',r= .tuple #[dv',.int .i64 (JG S k j).2]/\sL Z N w' (JG S k j).1 dv'/\aL w w' aT):=by
 obtain⟨D,sv,wv,rfl,h2,h3⟩:=h
 refine(ayP h2 h3.rb (by omega) (λ_=>rfl) (by simp) h3.left (λh=>absurd h (by decide))).mono ?_
 rintro r w' ⟨sv',wv',rfl,hv,x⟩
 rw[(akF h3.sim k j).1]
 exact⟨_,rfl,⟨_,_,_,rfl,hv,h3.rename k j⟩,x⟩
theorem Ye{N:Nat}{S:cF}{dv:aLX}{w:aLW}(h:sL Z N w S dv):
 aG pg oX #[dv] w (λr w'=>∃dv',r= .tuple #[dv',.int .i64 (Ad S).2]/\sL Z N w' (Ad S).1 dv'/\aL w w' aT):=by
 obtain⟨D,sv,wv,rfl,h2,h3⟩:=h
 refine(aFJ h2 h3.rb h3.left).mono ?_
 rintro r w' ⟨sv',wv',rfl,hv,x⟩
 rw[(avX h3.sim).1]
 exact⟨_,rfl,⟨_,_,_,rfl,hv,h3.sync⟩,x⟩
end Go.Proofs.YteelnmpbnaohpaaGreatDoor
namespace Go.Proofs.YteelnmpbnaohpaaGreatDoor
open Go Go.En Go.Pu
def sF:ByteArray:=⟨#[102]⟩
theorem aFr:sF≠aZ sF:=by decide
theorem aGR:sF≠cY sF:=by decide
theorem aDv:aZ sF≠cY sF:=by decide
theorem aHX:zA sF=true:=by decide
theorem aDs:zA (aZ sF)=true:=by decide
theorem aHY:zA (cY sF)=true:=by decide
section
variable(lf:List UInt8->List UInt8)(cf:List UInt8->Nat)
theorem atB{α:Type}(n:Nat)(g:Nat->α)(d:α){i:Nat}(h:i<n):((List.range n).map g).getD i d=g i:=by
 rw[aJH,aJ0,List.getElem?_range h]<;>rfl
theorem Qw{l:List Bool}:yV l=true↔∀i,i<l.length->l.getD i false=true:=by
 unfold yV
 constructor
 .intro h i hi
  have h1:¬false∈l:=by simpa using h
  rw[aJH,aJA hi]
  have:=aKl hi
  cases hq:l[i]with
  |true=>rfl
  |false=>rw[hq]at this;exact absurd this h1
 .intro h
  have h1:¬false∈l:=λhm=>by
   obtain⟨i,hi,e⟩:=aLo hm
   have:=h i hi
   rw[aJH,aJA hi,e]at this
   cases this
  simpa using h1
theorem akW(m:FT)(b:List UInt8):(bQ lf m b).length=m.leaves.length:=by unfold bQ;simp
theorem Tf(f:List UInt8)(k:Nat):(jG lf f k).leaves.length=jT f.length k:=by unfold jG;simp
theorem atU{f:List UInt8}{k i:Nat}(h:i<jT f.length k):(jG lf f k).leaves.getD i []=lf (B4 f.length k i f):=by
 unfold jG
 exact atB _ _ _ h
theorem aoT{f:List UInt8}{k i:Nat}(h:i<jT f.length k):vH lf (jG lf f k) i (B4 f.length k i f)=true:=by
 unfold vH
 rw[atU lf h]
 show((B4 f.length k i f).length==UY f.length k i&&_)=true
 rw[Nx rfl]
 simp
theorem awT{f b:List UInt8}{k:Nat}(hk:0<k)(hb:b.length=f.length){i:Nat}(h:i<jT f.length k)(hp:B4 f.length k i b=B4 f.length k i f):(bQ lf (jG lf f k) b).getD i false=true:=by
 unfold bQ
 rw[Tf,atB _ _ _ h]
 unfold wholeAt
 show(decide (k*i+UY f.length k i<=b.length)&&vH lf (jG lf f k) i (B4 f.length k i b))=true
 rw[hp,aoT lf h,hb]
 have:=Yt ((AH hk).1 h)
 simpa using this
theorem arH{f:List UInt8}{k:Nat}(hk:0<k):yV (bQ lf (jG lf f k) f)=true:=by
 rw[Qw,akW,Tf]
 exactλi hi=>awT lf hk rfl hi rfl
theorem aaX{S:cF}{s:eQ}{recs:List (Nat×Nat)}{k v:Nat}(h:Calm S)(hnm:s.nm=sF)(hl:(bF (cY sF) S.seen).getD []=lQ cf recs)(hs:s.log=13*recs.length):
 bZ cf S s k v=if S.room<((bN S.seen+13:Nat):Int)then(S,s,22)else({S with under:=S.under++[⟨0,cY sF,⟨#[]⟩,13*recs.length,mN cf k v⟩],seen:=lP (cY sF) (lQ cf (recs++[(k,v)])) S.seen},{s with log:=s.log+13},0):=by
 have hlen:(lR S (cY sF)).length=13*recs.length:=by unfold lR;rw[hl,kE]
 have e:=arI (k:=cY sF) (a:=13*recs.length) (l:=mN cf k v) h aHY (by omega)
 rw[hlen,mJ,show bN S.seen+(13*recs.length+13-13*recs.length)=bN S.seen+13 from by omega]at e
 have eo:over (lR S (cY sF)) (13*recs.length) (mN cf k v)=lQ cf (recs++[(k,v)]):=by
  rw[ayR,<-hlen,aDF]
  unfold lR
  rw[hl]
 rw[eo]at e
 unfold bZ
 rw[hnm,hs,e]
 split
 .rfl
 .rfl
structure Got(f:List UInt8)(k:Nat)(F0:Option (List UInt8))(recs:List (Nat×Nat))(P:List UInt8)(S:cF)(s:eQ):Prop where
 calm:Calm S
 nm:s.nm=sF
 man:s.man=jG lf f k
 err:s.err=0
 fin:s.fin=false
 hvl:s.hv.length=jT f.length k
 log:s.log=13*recs.length
 gF:bF sF S.seen=F0
 gP:bF (aZ sF) S.seen=some P
 gL:bF (cY sF) S.seen=some (lQ cf recs)
 Pl:P.length=f.length
 ok:∀r∈recs,okR r
 part:∀i,i<jT f.length k->s.hv.getD i false=true->B4 f.length k i P=B4 f.length k i f
 told:∀i,i<jT f.length k->(s.hv.getD i false=true↔(2,i)∈recs)
 cnt:recs.length=1+s.hv.count true
 sz:bN S.seen=(F0.getD []).length+f.length+13*recs.length
 rm:(bN S.seen:Int)<=S.room
 nd:(S.seen.map (·.1)).Nodup
 un:S.under=[]
 rb:0<=S.room/\S.room<=16777216
variable{lf cf}
theorem kR{k j:ByteArray}{v:List UInt8}{l:cI}(h:j≠k):bF j (lP k v l)=bF j l:=by rw[L6,if_neg h]
theorem Fk{k:ByteArray}{v:List UInt8}{l:cI}:bF k (lP k v l)=some v:=by rw[L6,if_pos rfl]
theorem aqF{f:List UInt8}{k:Nat}{F0:Option (List UInt8)}{recs:List (Nat×Nat)}{P:List UInt8}{S:cF}{s:eQ}(h:Got lf cf f k F0 recs P S s)(hk:0<k)(hL:f.length<=1000000){i:Nat}(hi:i<jT f.length k)(hv:s.hv.getD i false=false):
 (¬S.room<((bN S.seen+13:Nat):Int)->∃S' s',xK lf cf S s i (B4 f.length k i f)=(S',s',0)/\Got lf cf f k F0 (recs++[(2,i)]) (over P (k*i) (B4 f.length k i f)) S' s'/\S'.room=S.room/\s'.epoch=s.epoch/\s'.hv=s.hv.set i true)/\
 (S.room<((bN S.seen+13:Nat):Int)->∃S' s',xK lf cf S s i (B4 f.length k i f)=(S',s',22)/\s'.err=22/\Calm S'/\bF sF S'.seen=F0):=by
 have hki:=(AH hk).1 hi
 have hpl:(B4 f.length k i f).length=UY f.length k i:=Nx rfl
 have hse:=Yt hki
 have hPB:lR S (aZ sF)=P:=by unfold lR;rw[h.gP]<;>rfl
 have e0:=arI (k:=aZ sF) (a:=k*i) (l:=B4 f.length k i f) h.calm aDs (by rw[hPB,h.Pl];omega)
 have hrm:=h.rm
 rw[hPB,h.Pl,hpl,show bN S.seen+(k*i+UY f.length k i-f.length)=bN S.seen from by omega,if_neg (by omega)]at e0
 obtain⟨P',hP'⟩:∃P',P'=over P (k*i) (B4 f.length k i f):=⟨_,rfl⟩
 have hP'l:P'.length=f.length:=by rw[hP',xG,h.Pl,hpl];omega
 rw[<-hP']at e0⊢
 obtain⟨S1,hS1⟩:∃S1:cF,S1={S with under:=S.under++[⟨0,aZ sF,⟨#[]⟩,k*i,B4 f.length k i f⟩],seen:=lP (aZ sF) P' S.seen}:=⟨_,rfl⟩
 rw[<-hS1]at e0
 have c1:Calm S1:=by rw[hS1];exact⟨h.calm.up,h.calm.left⟩
 have e1:=Yz c1
 obtain⟨S2,hS2⟩:∃S2:cF,S2={S1 with sure:=S1.seen,under:=[]}:=⟨_,rfl⟩
 rw[<-hS2]at e1
 have c2:Calm S2:=by rw[hS2];exact⟨c1.up,c1.left⟩
 have s2:S2.seen=lP (aZ sF) P' S.seen:=by rw[hS2,hS1]
 have r2:S2.room=S.room:=by rw[hS2,hS1]
 have g2L:bF (cY sF) S2.seen=some (lQ cf recs):=by rw[s2,kR (Ne.symm aDv),h.gL]
 have z2:bN S2.seen=bN S.seen:=by
  have:=qW (aZ sF) P' S.seen
  rw[h.gP,aKA,h.Pl,hP'l]at this
  rw[s2];omega
 have e2:=aaX cf (s:=s) (k:=2) (v:=i) c2 h.nm (recs:=recs) (by rw[g2L]<;>rfl) h.log
 have hput:xK lf cf S s i (B4 f.length k i f)=((fA cf S s i (B4 f.length k i f)).1,{(fA cf S s i (B4 f.length k i f)).2.1 with err:=(fA cf S s i (B4 f.length k i f)).2.2,hv:=(fA cf S s i (B4 f.length k i f)).2.1.hv.set i ((fA cf S s i (B4 f.length k i f)).2.2==0)},(fA cf S s i (B4 f.length k i f)).2.2):=by
  unfold xK
  rw[h.err,h.hvl,if_neg (by decide),if_neg (by omega),aJE,h.fin,hv,aLx,if_neg (by decide),h.man,aoT lf hi,if_neg (by decide)]
 have hpart:s.man.part=k:=by rw[h.man]<;>rfl
 refine⟨λhr=> ?_,λhr=> ?_⟩
 .rw [if_neg (by rw[z2,r2];exact hr)]at e2
  obtain⟨S3,hS3⟩:∃S3:cF,S3={S2 with under:=S2.under++[⟨0,cY sF,⟨#[]⟩,13*recs.length,mN cf 2 i⟩],seen:=lP (cY sF) (lQ cf (recs++[(2,i)])) S2.seen}:=⟨_,rfl⟩
  rw[<-hS3]at e2
  have c3:Calm S3:=by rw[hS3];exact⟨c2.up,c2.left⟩
  have e3:=Yz c3
  have hch:fA cf S s i (B4 f.length k i f)=({S3 with sure:=S3.seen,under:=[]},{s with log:=s.log+13},0):=by
   unfold fA
   simp only[hpart,h.nm,e0,ne_eq,not_true_eq_false,if_false,e1,e2,e3]
  rw[hch]at hput
  have s3:S3.seen=lP (cY sF) (lQ cf (recs++[(2,i)])) (lP (aZ sF) P' S.seen):=by rw[hS3,s2]
  have hset:∀j,(s.hv.set i true).getD j false=if j=i then true else s.hv.getD j false:=λj=>by
   rw[aJH,aLJ]
   by_cases hj:i=j
   .rw [if_pos hj,if_pos hj.symm,if_pos (by have:=h.hvl;omega)]<;>rfl
   .rw [if_neg hj,if_neg (λe=>hj e.symm),<-aJH]
  refine⟨_,_,hput,⟨⟨c3.up,c3.left⟩,h.nm,h.man,rfl,h.fin, ?_, ?_, ?_, ?_, ?_,hP'l, ?_, ?_, ?_, ?_, ?_, ?_, ?_,rfl, ?_⟩, ?_,rfl,rfl⟩
  .show (s.hv.set i true).length=_
   rw[aKn];exact h.hvl
  .show s.log+13=_
   rw[h.log,aJB];simp;omega
  .show bF sF S3.seen=F0
   rw[s3,kR aGR,kR aFr];exact h.gF
  .show bF (aZ sF) S3.seen=_
   rw[s3,kR aDv,Fk]
  .show bF (cY sF) S3.seen=_
   rw[s3,Fk]
  .intro r hr
   rcases aKc.1 hr with hr|hr
   .exact h.ok r hr
   .rw [aKi]at hr
    subst hr
    have:=apJ (L:=f.length) hk
    exact⟨.inr rfl,by show i<_;omega⟩
  .intro j hj hjv
   have hjv:(s.hv.set i true).getD j false=true:=hjv
   rw[hset]at hjv
   by_cases hji:j=i
   .rw [hji,hP']
    exact alT h.Pl rfl hki
   .rw [if_neg hji]at hjv
    rw[hP',ahX h.Pl rfl hki hji]
    exact h.part j hj hjv
  .intro j hj
   show(s.hv.set i true).getD j false=true↔_
   rw[hset,aKc,aKi]
   by_cases hji:j=i
   .rw [if_pos hji,hji];exact⟨λ_=> .inr rfl,λ_=>rfl⟩
   .rw [if_neg hji,h.told j hj]
    exact⟨.inl,λhh=>hh.elim id λe=>absurd (congrArg Prod.snd e) hji⟩
  .show _=1+(s.hv.set i true).count true
   have hlt:i<s.hv.length:=by rw[h.hvl];exact hi
   have hvi:s.hv[i]=false:=by
    rw[aJH,aJA hlt]at hv;exact hv
   rw[List.count_set hlt,hvi,aJB,h.cnt]
   simp;omega
  .have h1:=qW (cY sF) (lQ cf (recs++[(2,i)])) S2.seen
   rw[g2L,aKA,kE,kE,z2,h.sz,aJB]at h1
   show bN S3.seen=_
   rw[s3,<-s2,aJB]
   simp only[aKQ]at h1⊢
   omega
  .have h1:=qW (cY sF) (lQ cf (recs++[(2,i)])) S2.seen
   rw[g2L,aKA,kE,kE,z2,aJB]at h1
   show(bN S3.seen:Int)<=S3.room
   have r3:S3.room=S.room:=by rw[hS3];exact r2
   rw[s3,<-s2,r3]
   simp only[aKQ]at h1
   omega
  .show (S3.seen.map (·.1)).Nodup
   rw[s3];exact tD (tD h.nd)
  .show 0<=S3.room/\S3.room<=16777216
   rw[hS3]
   show 0<=S2.room/\S2.room<=16777216
   rw[r2];exact h.rb
  .show S3.room=S.room
   rw[hS3];exact r2
 .rw [if_pos (by rw[z2,r2];exact hr)]at e2
  have hch:fA cf S s i (B4 f.length k i f)=(S2,s,22):=by
   unfold fA
   simp only[hpart,h.nm,e0,ne_eq,not_true_eq_false,if_false,e1,e2]
   rfl
  rw[hch]at hput
  refine⟨_,_,hput,rfl,c2, ?_⟩
  show bF sF S2.seen=F0
  rw[s2,kR aFr];exact h.gF
theorem axM{f:List UInt8}{k:Nat}{F0:Option (List UInt8)}{recs:List (Nat×Nat)}{P:List UInt8}{S:cF}{s:eQ}(h:Got lf cf f k F0 recs P S s)(hk:0<k)(ha:∀i,i<jT f.length k->s.hv.getD i false=true):
 ∃S' s',dU lf S s=(S',s',0)/\s'.fin=true/\s'.err=0/\s'.epoch=s.epoch/\s'.nm=sF/\s'.man=s.man/\Calm S'/\S'.room=S.room/\bF sF S'.seen=some f/\bF (cY sF) S'.seen=some (lQ cf recs)/\bF (aZ sF) S'.seen=none/\bN S'.seen<=bN S.seen/\S'.under=[]/\s'.hv.length=jT f.length k/\s'.log=s.log:=by
 have hPf:P=f:=aBs hk h.Pl rfl λi hi=>h.part i hi (ha i hi)
 subst hPf
 have hall:yV s.hv=true:=Qw.2 λi hi=>ha i (by rw[<-h.hvl];exact hi)
 have hw:=arH lf (f:=P) hk
 have e1:JG S (aZ sF) sF=({S with under:=S.under++[⟨1,aZ sF,sF,0,[]⟩],seen:=lP sF P (wU (aZ sF) S.seen)},0):=by
  have e0:JG S (aZ sF) sF=wR S ⟨1,aZ sF,sF,0,[]⟩:=by
   unfold JG
   rw[if_neg (by rw[h.calm.up];decide),if_neg (by rw[aDs,aHX];decide),if_neg (by rw[h.gP];simp)]
  have e1:TL ⟨1,aZ sF,sF,0,[]⟩ S.seen=lP sF P (wU (aZ sF) S.seen):=by
   unfold TL
   rw[if_neg (show¬(1:Nat)=0 by decide),if_pos (show(1:Nat)=1 from rfl)]
   simp only[h.gP]
  rw[e0,anA h.calm,e1]
 obtain⟨S1,hS1⟩:∃S1:cF,S1={S with under:=S.under++[⟨1,aZ sF,sF,0,[]⟩],seen:=lP sF P (wU (aZ sF) S.seen)}:=⟨_,rfl⟩
 rw[<-hS1]at e1
 have c1:Calm S1:=by rw[hS1];exact⟨h.calm.up,h.calm.left⟩
 have hc:dU lf S s=({S1 with sure:=S1.seen,under:=[]},{s with hv:=bQ lf s.man P,err:=0,fin:=(0:Int)==0},0):=by
  unfold dU
  rw[h.err,if_neg (by decide),h.fin,if_neg (by decide),hall,if_neg (by decide),h.calm.up,if_neg (by decide),h.nm,h.gP]
  simp only[h.man,hw,if_neg (show¬true=false by decide),e1,ne_eq,not_true_eq_false,if_false,Yz c1]
 have hd:∀j,bF j (wU (aZ sF) S.seen)=if j=aZ sF then none else bF j S.seen:=λj=>Q7 h.nd
 have s1:S1.seen=lP sF P (wU (aZ sF) S.seen):=by rw[hS1]
 have hz1:=qW sF P (wU (aZ sF) S.seen)
 have hz2:=Hw (aZ sF) S.seen
 rw[h.gP,aKA]at hz2
 refine⟨_,_,hc,rfl,rfl,rfl,h.nm,rfl,⟨c1.up,c1.left⟩, ?_, ?_, ?_, ?_, ?_,rfl, ?_,rfl⟩
 .show S1.room=S.room
  rw[hS1]
 .show bF sF S1.seen=_
  rw[s1,Fk]
 .show bF (cY sF) S1.seen=_
  rw[s1,kR (Ne.symm aGR),hd,if_neg (Ne.symm aDv),h.gL]
 .show bF (aZ sF) S1.seen=_
  rw[s1,kR (Ne.symm aFr),hd,if_pos rfl]
 .show bN S1.seen<=_
  rw[s1];omega
 .show (bQ lf s.man P).length=_
  rw[akW,h.man,Tf]
end
section
variable(lf:List UInt8->List UInt8)(cf:List UInt8->Nat)
theorem Zy{S:cF}(h:Calm S)(n:ByteArray):bS S n=((bF n S.seen).getD [],(bF n S.seen).isSome,0):=by
 unfold bS
 rw[h.up,if_neg (by decide)]
 cases bF n S.seen<;>rfl
def apT(f:List UInt8)(k:Nat)(S:cF):Bool:=(bF sF S.seen).isSome&&((bF sF S.seen).getD []).length==f.length&&yV (bQ lf (jG lf f k) ((bF sF S.seen).getD []))
def opD(recs:List (Nat×Nat))(S:cF):cF:={S with under:=S.under++[⟨0,cY sF,⟨#[]⟩,13*recs.length,mN cf 1 (dT 1 recs+1)⟩],seen:=lP (cY sF) (lQ cf (recs++[(1,dT 1 recs+1)])) S.seen}
def opT(f:List UInt8)(k:Nat)(recs:List (Nat×Nat))(S:cF):eQ:=⟨sF,jG lf f k,dT 1 recs+1,bQ lf (jG lf f k) ((bF sF S.seen).getD []),13*recs.length+13,apT lf f k S,0⟩
variable{lf cf}
theorem aDD{f:List UInt8}{k:Nat}{S:cF}{recs:List (Nat×Nat)}(h:Calm S)(hL:(bF (cY sF) S.seen).getD []=lQ cf recs)(ok:∀r∈recs,okR r)(hlast:dT 1 recs<18446744073709551615):
 (S.room<((bN S.seen+13:Nat):Int)->rH lf cf S sF (jG lf f k)=(S,none,22))/\
 (¬S.room<((bN S.seen+13:Nat):Int)->rH lf cf S sF (jG lf f k)=
   if apT lf f k S then({opD cf recs S with sure:=(opD cf recs S).seen,under:=[]},some (opT lf f k recs S),0)
   else
    let q:=cC (opD cf recs S) (opT lf f k recs S)
    if q.2.2≠0 then(q.1,none,q.2.2)else
    let y:=Ad q.1
    if y.2≠0 then(y.1,none,y.2)else(y.1,some {opT lf f k recs S with hv:=lE recs (bQ lf (jG lf f k) q.2.1) (jG lf f k).leaves.length},0)):=by
 have e2:=aaX cf (s:=⟨sF,jG lf f k,dT 1 recs+1,bQ lf (jG lf f k) ((bF sF S.seen).getD []),13*recs.length,apT lf f k S,0⟩) (k:=1) (v:=dT 1 recs+1) h rfl hL rfl
 have hled:fY cf (lQ cf recs)=recs:=aBw cf ok
 have hfin:((bF sF S.seen).isSome&&((bF sF S.seen).getD []).length==(jG lf f k).size&&yV (bQ lf (jG lf f k) ((bF sF S.seen).getD [])))=apT lf f k S:=rfl
 refine⟨λhr=> ?_,λhr=> ?_⟩
 .rw [if_pos hr]at e2
  unfold rH
  simp only[Zy h,hL,hled,hfin,ne_eq,not_true_eq_false,if_false,if_neg (aLu hlast),e2]
  rfl
 .rw [if_neg hr]at e2
  have c1:Calm (opD cf recs S):=⟨h.up,h.left⟩
  have e3:=Yz c1
  unfold rH
  simp only[Zy h,hL,hled,hfin,ne_eq,not_true_eq_false,if_false,if_neg (aLu hlast),e2]
  have:({room:=S.room,sure:=S.sure,seen:=lP (cY sF) (lQ cf (recs++[(1,dT 1 recs+1)])) S.seen,under:=S.under++[⟨0,cY sF,⟨#[]⟩,13*recs.length,mN cf 1 (dT 1 recs+1)⟩],left:=S.left,down:=S.down}:cF)=opD cf recs S:=rfl
  rw[this]
  cases hf:apT lf f k S with
  |true=>
   simp only[if_true,e3,not_true_eq_false,if_false]
   unfold opT
   rw[hf]
  |false=>
   simp only[aJI,if_false]
   unfold opT
   rw[hf]
theorem ahU{recs:List (Nat×Nat)}{S:cF}:bF (aZ sF) (opD cf recs S).seen=bF (aZ sF) S.seen:=kR aDv
theorem auA{recs:List (Nat×Nat)}{S:cF}(hL:(bF (cY sF) S.seen).getD []=lQ cf recs):bN (opD cf recs S).seen=bN S.seen+13:=by
 have h1:=qW (cY sF) (lQ cf (recs++[(1,dT 1 recs+1)])) S.seen
 rw[hL,kE,kE,aJB]at h1
 show bN (lP _ _ _)=_
 simp only[aKQ]at h1
 omega
theorem aBG{f:List UInt8}{k:Nat}{S:cF}{recs:List (Nat×Nat)}(h:Calm S)(hL:(bF (cY sF) S.seen).getD []=lQ cf recs)(ok:∀r∈recs,okR r)(hlast:dT 1 recs<18446744073709551615)
 (hr:¬S.room<((bN S.seen+13:Nat):Int)) (hf:apT lf f k S=false) (hP:bF (aZ sF) S.seen=none):
 (S.room<((bN S.seen+13+f.length:Nat):Int)->rH lf cf S sF (jG lf f k)=(opD cf recs S,none,22))/\
 (¬S.room<((bN S.seen+13+f.length:Nat):Int)->∃S',rH lf cf S sF (jG lf f k)=({S' with sure:=S'.seen,under:=[]},some {opT lf f k recs S with hv:=lE recs (bQ lf (jG lf f k) []) (jT f.length k)},0)/\
   S'=({opD cf recs S with under:=(opD cf recs S).under++[⟨0,aZ sF,⟨#[]⟩,0,List.replicate f.length 0⟩],seen:=lP (aZ sF) (List.replicate f.length 0) (opD cf recs S).seen}:cF)):=by
 have c1:Calm (opD cf recs S):=⟨h.up,h.left⟩
 have e:aZ (opT lf f k recs S).nm=aZ sF:=rfl
 have e2:(opT lf f k recs S).man.size=f.length:=rfl
 have hsb:lR (opD cf recs S) (aZ sF)=[]:=by unfold lR;rw[ahU,hP]<;>rfl
 have hw:=arI (k:=aZ sF) (a:=0) (l:=List.replicate f.length 0) c1 aDs (by omega)
 rw[hsb,auA hL,aJ5,aDG]at hw
 have hrm:(opD cf recs S).room=S.room:=rfl
 have hz:bN S.seen+13+(0+f.length-([]:List UInt8).length)=bN S.seen+13+f.length:=by simp
 rw[hrm,hz]at hw
 have hw0:yL (opD cf recs S) (aZ sF) ((([]:List UInt8).length:Nat):Int) (List.replicate (f.length-([]:List UInt8).length) 0)=yL (opD cf recs S) (aZ sF) ((0:Nat):Int) (List.replicate f.length 0):=rfl
 have hq:cC (opD cf recs S) (opT lf f k recs S)=((yL (opD cf recs S) (aZ sF) ((0:Nat):Int) (List.replicate f.length 0)).1,[],(yL (opD cf recs S) (aZ sF) ((0:Nat):Int) (List.replicate f.length 0)).2):=by
  unfold cC
  simp only[e,e2,Zy c1,ahU,hP,Option.getD_none,aLI,ne_eq,not_true_eq_false,if_false,hw0,if_neg (show¬f.length<([]:List UInt8).length by simp),or_true,if_true]
 rw[(aDD h hL ok hlast).2 hr,hf]
 refine⟨λhr2=> ?_,λhr2=> ?_⟩
 .rw [if_pos hr2]at hw
  rw[hw]at hq
  simp only[aJI,if_false,hq]
  rfl
 .rw [if_neg hr2]at hw
  rw[hw]at hq
  refine⟨_, ?_,rfl⟩
  have c2:Calm ({opD cf recs S with room:=S.room,under:=(opD cf recs S).under++[⟨0,aZ sF,⟨#[]⟩,0,List.replicate f.length 0⟩],seen:=lP (aZ sF) (List.replicate f.length 0) (opD cf recs S).seen}:cF):=⟨h.up,h.left⟩
  simp only[aJI,if_false,hq,ne_eq,not_true_eq_false,Yz c2,Tf]
  rfl
end
section
variable{lf:List UInt8->List UInt8}{cf:List UInt8->Nat}
theorem Got.bk {f:List UInt8}{k:Nat}{F0:Option (List UInt8)}{recs:List (Nat×Nat)}{P:List UInt8}{S:cF}{s:eQ}(h:Got lf cf f k F0 recs P S s){n:Nat}(hn:n<=100):Gt n S:=by
 have h1:=h.rm
 have h2:=h.rb
 refine⟨⟨by rw[h.calm.left];omega,by omega,by rw[h.un];simp,h2⟩,by omega,by rw[h.un];simp;omega⟩
theorem Got.file {f:List UInt8}{k:Nat}{F0:Option (List UInt8)}{recs:List (Nat×Nat)}{P:List UInt8}{S:cF}{s:eQ}(h:Got lf cf f k F0 recs P S s){n:ByteArray}{b:List UInt8}(hb:bF n S.seen=some b)(hs:bN S.seen<=1000000):b.length<=1000000:=by
 have h1:=qV (k:=n) (c:=S.seen)
 rw[hb]at h1
 have h1:b.length<=bN S.seen:=h1
 omega
theorem YA(W:List Bool)(n i:Nat):(lE [] W n).getD i false=false:=by
 unfold lE
 rw[aJH,aJ0]
 by_cases h:i<n
 .rw [List.getElem?_range h]<;>rfl
 .rw [aKp (by simp;omega)]<;>rfl
theorem aC4 {f:List UInt8}{k:Nat}{F0:Option (List UInt8)}{S:cF}(h:Calm S)(hk:0<k)(gL:bF (cY sF) S.seen=none)(gP:bF (aZ sF) S.seen=none)(gF:bF sF S.seen=F0)(nd:(S.seen.map (·.1)).Nodup)(sz:bN S.seen=(F0.getD []).length)
 (rb:0<=S.room/\S.room<=16777216) (hf:apT lf f k S=false) (hr:¬S.room<((bN S.seen+13+f.length:Nat):Int)):
 ∃S' s',rH lf cf S sF (jG lf f k)=(S',some s',0)/\Got lf cf f k F0 [(1,1)] (List.replicate f.length 0) S' s'/\S'.room=S.room/\s'.epoch=1/\∀i,s'.hv.getD i false=false:=by
 have hL:(bF (cY sF) S.seen).getD []=lQ cf []:=by rw[gL]<;>rfl
 obtain⟨S1,he,hS1⟩:=(aBG (f:=f) (k:=k) h hL (by simp) (by show(0:Nat)<_;omega) (by omega) hf gP).2 hr
 have hsd:=auA (S:=S) hL
 have s1:S1.seen=lP (aZ sF) (List.replicate f.length 0) (opD cf [] S).seen:=by rw[hS1]
 have sD:(opD cf [] S).seen=lP (cY sF) (lQ cf [(1,1)]) S.seen:=rfl
 have r1:S1.room=S.room:=by rw[hS1]<;>rfl
 have hz:=qW (aZ sF) (List.replicate f.length (0:UInt8)) (opD cf [] S).seen
 rw[ahU,gP,Option.getD_none,aKy,aJ5,hsd]at hz
 refine⟨_,_,he,⟨⟨?_, ?_⟩,rfl,rfl,rfl,hf, ?_,rfl, ?_, ?_, ?_, ?_, ?_, ?_, ?_, ?_, ?_, ?_, ?_,rfl, ?_⟩,r1,rfl,λi=> ?_⟩
 .show S1.down=false
  rw[hS1];exact h.up
 .show S1.left= -1
  rw[hS1];exact h.left
 .show (lE [] _ _).length=_
  unfold lE;simp
 .show bF sF S1.seen=F0
  rw[s1,kR aFr,sD,kR aGR,gF]
 .show bF (aZ sF) S1.seen=_
  rw[s1,Fk]
 .show bF (cY sF) S1.seen=_
  rw[s1,kR (Ne.symm aDv),sD,Fk]
 .simp
 .intro r hr
  rw[aKi]at hr
  subst hr
  exact⟨.inl rfl,by show 1<_;omega⟩
 .intro i hi hv
  have hv:(lE [] _ _).getD i false=true:=hv
  rw[YA]at hv
  cases hv
 .intro i hi
  show(lE [] _ _).getD i false=true↔_
  rw[YA]
  constructor
  .intro h;cases h
  .intro h
   rw[aKi]at h
   exact absurd (congrArg Prod.fst h) (show¬(2:Nat)=1 by decide)
 .show [((1:Nat),(1:Nat))].length=1+(lE [] _ _).count true
  have:(lE [] (bQ lf (jG lf f k) []) (jT f.length k)).count true=0:=by
   rw[List.count_eq_zero]
   intro hm
   obtain⟨i,hi,e⟩:=aLo hm
   have:=YA (bQ lf (jG lf f k) []) (jT f.length k) i
   rw[aJH,aJA hi,e]at this
   cases this
  rw[this]<;>rfl
 .show bN S1.seen=_
  rw[s1]
  simp only[aKQ]
  omega
 .show (bN S1.seen:Int)<=S1.room
  rw[s1,r1]
  omega
 .show (S1.seen.map (·.1)).Nodup
  rw[s1,sD];exact tD (tD nd)
 .show 0<=S1.room/\_
  rw[r1];exact rb
 .exact YA _ _ i
end
end Go.Proofs.YteelnmpbnaohpaaGreatDoor
namespace Go.Proofs.YteelnmpbnaohpaaGreatDoor
open Go Go.En Go.Pu
set_option maxRecDepth 4000
theorem ajB{L k:Nat}{w:aLW}(hL:L<=1000000000000)(h1:1<=k)(h2:k<=65536)(hn:jT L k<=1024):
 aG pg Ah #[.int .u64 (L:Nat),.int .i64 (k:Nat)] w (λr w'=>r= .tuple #[.int .i64 (jT L k:Nat),.int .i64 0]/\w'=w):=by
 refine ZD ?_
 obtain⟨RR,hRR⟩:∃RR:aLX->aLW->Prop,RR=λr w'=>r= .tuple #[.int .i64 (jT L k:Nat),.int .i64 0]/\w'=w:=⟨_,rfl⟩
 rw[<-hRR]
 unfold abF R9 R8
 have d1:decide ((k:Int)<1)=false:=by simp;omega
 have d2:decide ((65536:Int)<(k:Int))=false:=by simp;omega
 simp(disch:=omega)only[seval,d1,d2]
 unfold II IH R7 CO
 refine bM.rule (λm (t:aLX) w'=>∃i:Nat,m=1024-i/\i<=jT L k/\t= .int .u64 (i:Nat)/\w'=w) 1024 ⟨0,rfl,by omega,rfl,rfl⟩ ?_
 rintro m t w' ⟨i,rfl,hi,rfl,rfl⟩
 have d3:decide (((i:Nat):Int)<=1024)=true:=by simp only[decide_eq_true_eq];omega
 have e1:IntKind.u64.wrap ((k:Nat):Int)=((k:Nat):Int):=hU (by omega) (by omega)
 have hik:i*k<=1024*65536:=Nat.mul_le_mul (by omega) h2
 have e2:((i:Nat):Int)*((k:Nat):Int)=((i*k:Nat):Int):=by rw[Int.natCast_mul]
 have e4:IntKind.i64.wrap ((i:Nat):Int)=((i:Nat):Int):=dI (by omega) (by omega)
 have e5:((i:Nat):Int)+1=((i+1:Nat):Int):=by omega
 obtain⟨T,hT⟩:∃T,T=i*k:=⟨_,rfl⟩
 rw[<-hT]at e2 hik
 have hlt:=AH (L:=L) (k:=k) (i:=i) (by omega)
 rw[aLH k i,<-hT]at hlt
 unfold IG
 by_cases hge:L<=T
 .have d4:decide (((L:Nat):Int)<=((T:Nat):Int))=true:=by simp only[decide_eq_true_eq];omega
  have hic:i=jT L k:=by
   by_cases h:i<jT L k
   .have:=hlt.1 h;omega
   .omega
  simp(disch:=omega)only[seval,d3,e1,e2,d4,e4]
  rw[hRR,<-hic]
  exact⟨rfl,rfl⟩
 .have d4:decide (((L:Nat):Int)<=((T:Nat):Int))=false:=by simp only[decide_eq_false_iff_not];omega
  have h3:=hlt.2 (by omega)
  simp(disch:=omega)only[seval,d3,e1,e2,d4,e5]
  first
   |exact⟨1024-(i+1),by omega,i+1,rfl,by omega,rfl,rfl⟩
   |exact⟨1024-(i+1),by omega,i+1,rfl,by omega,rfl⟩
theorem ZT{L k i:Nat}{w:aLW}(hL:L<=1000000000000)(h1:1<=k)(h2:k<=65536)(hn:jT L k<=1024)(hi:i<jT L k):
 aG pg yR #[.int .u64 (L:Nat),.int .i64 (k:Nat),.int .i64 (i:Nat)] w (λr w'=>r= .tuple #[.int .u64 ((k*i:Nat):Int),.int .i64 (UY L k i:Nat),.int .i64 0]/\w'=w):=by
 refine adS ?_
 unfold aiI Ux
 refine(ajB hL h1 h2 hn).mono ?_
 rintro r w1 ⟨rfl,hw⟩
 rw[hw];clear hw w1
 have hki:=(AH (L:=L) (k:=k) (i:=i) (by omega)).1 hi
 have n1:((0:Int) !=0)=false:=rfl
 have d1:decide (((i:Nat):Int)<0)=false:=by simp
 have d2:decide (((jT L k:Nat):Int)<=((i:Nat):Int))=false:=by simp only[decide_eq_false_iff_not];omega
 have e1:IntKind.u64.wrap ((k:Nat):Int)=((k:Nat):Int):=hU (by omega) (by omega)
 have e2:IntKind.u64.wrap ((i:Nat):Int)=((i:Nat):Int):=hU (by omega) (by omega)
 have e3:((k:Nat):Int)*((i:Nat):Int)=((k*i:Nat):Int):=by rw[Int.natCast_mul]
 obtain⟨T,hT⟩:∃T,T=k*i:=⟨_,rfl⟩
 have hsp:UY L k i=min (L-T) k:=by unfold UY;rw[hT]
 rw[hsp]
 rw[<-hT]at e3 hki⊢
 have e4:((L:Nat):Int)-((T:Nat):Int)=((L-T:Nat):Int):=by omega
 by_cases hs:L-T<k
 .have d3:decide (((L-T:Nat):Int)<((k:Nat):Int))=true:=by simp only[decide_eq_true_eq];omega
  have e5:IntKind.i64.wrap ((L-T:Nat):Int)=((L-T:Nat):Int):=dI (by omega) (by omega)
  rw[aJ1 (by omega)]
  simp(disch:=omega)only[seval,n1,d1,d2,e1,e2,e3,e4,d3,e5]
 .have d3:decide (((L-T:Nat):Int)<((k:Nat):Int))=false:=by simp only[decide_eq_false_iff_not];omega
  rw[Nat.min_eq_right (by omega)]
  simp(disch:=omega)only[seval,n1,d1,d2,e1,e2,e3,e4,d3]
theorem ajA{v:aLX}{l:List Bool}{w:aLW}(h:Sl w v (l.map Value.bool))(hl:l.length<=1000000):
 aG pg BH #[v] w (λr w'=>r= .bool (yV l)/\w'=w):=by
 refine aiW ?_
 obtain⟨RR,hRR⟩:∃RR:aLX->aLW->Prop,RR=λr w'=>r= .bool (yV l)/\w'=w:=⟨_,rfl⟩
 rw[<-hRR]
 obtain⟨a,c,rfl,hc⟩:=h.len
 rw[aJy]at h hc⊢
 unfold aoB XQ XP Oo On XO Hi
 refine bM.rule (λm (t:aLX) w'=>∃i:Nat,m=l.length-i/\i<=l.length/\t= .int .i64 (i:Nat)/\w'=w/\(∀j,j<i->l.getD j false=true)) l.length ⟨0,rfl,by omega,rfl,rfl,λj hj=>by omega⟩ ?_
 rintro m t w' ⟨i,rfl,hi,rfl,rfl,hall⟩
 unfold Om
 by_cases hlt:i<l.length
 .have d1:decide ((i:Int)<(l.length:Int))=true:=by simp;omega
  have hin:(i:Int).toNat=i:=aJE _
  have q1:(i:Int)+1=((i+1:Nat):Int):=by omega
  obtain⟨kb,koff,hka,hcell⟩:∃kb koff,a=some ⟨kb,koff,none⟩/\w'.cell? ⟨kb,koff+i,none⟩=some (.bool (l.getD i false)):=by
   obtain⟨a',n',c',he',hn',hc',hh⟩:=h
   simp only[Value.slice.injEq]at he'
   obtain⟨rfl,rfl,rfl⟩:=he'
   obtain⟨kb,koff,rfl,h2⟩:=hh (by omega)
   refine⟨kb,koff,rfl, ?_⟩
   rw[h2 i (by omega),aJ0,aJA hlt,aJH,aJA hlt]
   rfl
  subst hka
  cases hz:l.getD i false with
  |true=>
   rw[hz]at hcell
   have hq:∀j,j<i+1->l.getD j false=true:=λj hj=>by
    by_cases hj2:j=i
    .rw [hj2];exact hz
    .exact hall j (by omega)
   simp(disch:=omega)only[seval,d1,hin,hcell,q1]
   first
    |exact⟨l.length-(i+1),by omega,i+1,rfl,by omega,rfl,rfl,hq⟩
    |exact⟨l.length-(i+1),by omega,i+1,rfl,by omega,rfl,hq⟩
  |false=>
   rw[hz]at hcell
   have hb:yV l=false:=by
    cases hb:yV l with
    |false=>rfl
    |true=>
     have:=Qw.1 hb i hlt
     rw[hz]at this
     cases this
   simp(disch:=omega)only[seval,d1,hin,hcell]
   rw[hRR,hb]
   exact⟨rfl,rfl⟩
 .have d1:decide ((i:Int)<(l.length:Int))=false:=by simp;omega
  have hb:yV l=true:=Qw.2 λj hj=>hall j (by omega)
  unfold Ol
  simp(disch:=omega)only[seval,d1]
  rw[hRR,hb]
  exact⟨rfl,rfl⟩
theorem pQ{x k:Nat}(hx:x<iO)(h1:1<=k)(h2:k<=31)(w:aLW):
 aG pg fW #[.int .u32 (x:Nat),.int .u64 (k:Int)] w (λr w'=>r= .int .u32 (ZU x k:Nat)/\w'=w):=by
 refine ZA ?_
 have m1:min (32-k) IntKind.u32.bits=32-k:=aJ1 (by have:IntKind.u32.bits=32:=rfl
                                                   omega)
 have m2:min k IntKind.u32.bits=k:=aJ1 (by have:IntKind.u32.bits=32:=rfl
                                           omega)
 have e0:(32:Int)-(k:Int)=((32-k:Nat):Int):=by omega
 have e1:IntKind.u64.wrap ((32-k:Nat):Int)=((32-k:Nat):Int):=hU (by omega) (by omega)
 have e3:=MF x (32-k)
 have e4:=Lx x k
 have e5:=Tg (a:=x/2^k) (b:=x*2^(32-k)%iO) (Q5 hx k) (nF _)
 have e6:x/2^k|||x*2^(32-k)%iO=ZU x k:=by unfold ZU;exact Nat.or_comm _ _
 rw[e6]at e5
 unfold abA RY
 simp(disch:=omega)only[seval,e0,e1,m1,m2,e3,e4,e5]
theorem ayS{v:List Nat}{k x:Nat}{w:aLW}(hv:v.length=8)(h32:Cf v):
 aG pg EA #[.agg (v.map u32).toArray,.int .u32 (k:Nat),.int .u32 (x:Nat)] w (λr w'=>r= .agg ((MN v k x).map u32).toArray/\aL w w' aT):=by
 refine ZB ?_
 obtain⟨RR,hRR⟩:∃RR:aLX->aLW->Prop,RR=λr w'=>r= .agg ((MN v k x).map u32).toArray/\aL w w' aT:=⟨_,rfl⟩
 rw[<-hRR]
 obtain⟨v0,v1,v2,v3,v4,v5,v6,v7,rfl⟩:∃v0 v1 v2 v3 v4 v5 v6 v7,v=[v0,v1,v2,v3,v4,v5,v6,v7]:=by
  match v,hv with
  |[a,b,c,d,e,f,g,h],_=>exact⟨a,b,c,d,e,f,g,h,rfl⟩
 have b0:v0<iO:=h32 _ (by simp)
 have b1:v1<iO:=h32 _ (by simp)
 have b2:v2<iO:=h32 _ (by simp)
 have b4:v4<iO:=h32 _ (by simp)
 have b5:v5<iO:=h32 _ (by simp)
 have b6:v6<iO:=h32 _ (by simp)
 have hst:MN [v0,v1,v2,v3,v4,v5,v6,v7] k x=[(aBC [v0,v1,v2,v3,v4,v5,v6,v7] k x+aFV [v0,v1,v2,v3,v4,v5,v6,v7])%iO,v0,v1,v2,(v3+aBC [v0,v1,v2,v3,v4,v5,v6,v7] k x)%iO,v4,v5,v6]:=rfl
 obtain⟨one,hone⟩:∃one,one=aBC [v0,v1,v2,v3,v4,v5,v6,v7] k x:=⟨_,rfl⟩
 obtain⟨two,htwo⟩:∃two,two=aFV [v0,v1,v2,v3,v4,v5,v6,v7]:=⟨_,rfl⟩
 rw[<-hone,<-htwo]at hst
 have hone:one=((((v7+YB v4 6 11 25)%iO+((v4&&&v5)^^^((4294967295^^^v4)&&&v6)))%iO+k)%iO+x)%iO:=hone
 have htwo:two=(YB v0 2 13 22+((v0&&&v1)^^^(v0&&&v2)^^^(v1&&&v2)))%iO:=htwo
 unfold YB at hone htwo
 rw[hst]at hRR
 unfold abB RZ
 refine cA λw1 o1 x1 s1=> ?_
 have o1:bD w1 w.heap.size ([v0,v1,v2,v3,v4,v5,v6,v7].map u32):=o1
 obtain⟨p,hp⟩:∃p,p=w.heap.size:=⟨_,rfl⟩
 rw[<-hp]at o1⊢
 refine Ks λw2 o2 x2 s2=> ?_
 obtain⟨q,hq⟩:∃q,q=w1.heap.size:=⟨_,rfl⟩
 rw[<-hq]at o2⊢
 have oP:∀{W},aL w2 W aT->bD W p ([v0,v1,v2,v3,v4,v5,v6,v7].map u32):=λxx=>(o1.ext x2 (λh=>h)).ext xx (λh=>h)
 have cl:∀{W},aL w2 W aT->W.cell? ⟨p,0,none⟩=some (.int .u32 (v0:Nat))/\W.cell? ⟨p,1,none⟩=some (.int .u32 (v1:Nat))/\W.cell? ⟨p,2,none⟩=some (.int .u32 (v2:Nat))/\W.cell? ⟨p,3,none⟩=some (.int .u32 (v3:Nat))/\
     W.cell? ⟨p,4,none⟩=some (.int .u32 (v4:Nat))/\W.cell? ⟨p,5,none⟩=some (.int .u32 (v5:Nat))/\W.cell? ⟨p,6,none⟩=some (.int .u32 (v6:Nat))/\W.cell? ⟨p,7,none⟩=some (.int .u32 (v7:Nat)):=λ{W} xx=>by
  have o:=oP xx
  exact⟨o.cell (off:=0),o.cell (off:=1),o.cell (off:=2),o.cell (off:=3),o.cell (off:=4),o.cell (off:=5),o.cell (off:=6),o.cell (off:=7)⟩
 obtain⟨c0,c1,c2,c3,c4,c5,c6,c7⟩:=cl (aL.refl w2 aT)
 obtain⟨d0,d1,d2,d3,d4,d5,d6,d7⟩:=cl (aL.dr w2 aT)
 obtain⟨f0,f1,f2,f3,f4,f5,f6,f7⟩:=cl ((aL.dr w2 aT).seq (aL.dr _ aT))
 have t0:(0:Int).toNat=0:=rfl
 have t1:(1:Int).toNat=1:=rfl
 have t2:(2:Int).toNat=2:=rfl
 have t3:(3:Int).toNat=3:=rfl
 have t4:(4:Int).toNat=4:=rfl
 have t5:(5:Int).toNat=5:=rfl
 have t6:(6:Int).toNat=6:=rfl
 have t7:(7:Int).toNat=7:=rfl
 have g1:IntKind.u32.signed=false:=rfl
 have g2:IntKind.u32.max=4294967295:=rfl
 have r4:∀{k:Nat},ZU v4 k<iO:=mE b4
 have r0:∀{k:Nat},ZU v0 k<iO:=mE b0
 have n4:4294967295^^^v4<iO:=Af (by decide) b4
 have e1:=wI b4 b5
 have e2:aeY .u32 (4294967295:Int) (v4:Int)=((4294967295^^^v4:Nat):Int):=fF (a:=4294967295) (by decide) b4
 have e3:=wI n4 b6
 have e4:=fF (Cm v4 b5) (Cm (4294967295^^^v4) b6)
 have e5:=wI b0 b1
 have e6:=wI b0 b2
 have e7:=wI b1 b2
 have e8:=fF (Cm v0 b1) (Cm v0 b2)
 have e9:=fF (Af (Cm v0 b1) (Cm v0 b2)) (Cm v1 b2)
 have k1:=fF (r4 (k:=6)) (r4 (k:=11))
 have k2:=fF (Af (r4 (k:=6)) (r4 (k:=11))) (r4 (k:=25))
 have k3:=fF (r0 (k:=2)) (r0 (k:=13))
 have k4:=fF (Af (r0 (k:=2)) (r0 (k:=13))) (r0 (k:=22))
 have fa:=LK
 simp(disch:=omega)only[seval,c0,c4,c7,d7,d5,d6,t0,t1,t2,t3,t4,t5,t6,t7,aJC]
 refine(pQ b4 (by decide) (by decide) _).mono ?_
 rintro r w' ⟨rfl,hw⟩
 rw[hw];clear hw w'
 simp(disch:=omega)only[seval,c7,d7,t0,t1,t2,t3,t4,t5,t6,t7,aJC]
 refine(pQ b4 (by decide) (by decide) _).mono ?_
 rintro r w' ⟨rfl,hw⟩
 rw[hw];clear hw w'
 simp(disch:=omega)only[seval,c7,d7,k1,t0,t1,t2,t3,t4,t5,t6,t7,aJC]
 refine(pQ b4 (by decide) (by decide) _).mono ?_
 rintro r w' ⟨rfl,hw⟩
 rw[hw];clear hw w'
 simp(disch:=omega)only[seval,c7,d7,c5,d5,c6,d6,k1,k2,e1,e2,e3,e4,fa,g1,g2,t0,t1,t2,t3,t4,t5,t6,t7,aJC]
 rw[<-hone]
 refine(pQ b0 (by decide) (by decide) _).mono ?_
 rintro r w' ⟨rfl,hw⟩
 rw[hw];clear hw w'
 simp(disch:=omega)only[seval,t0,t1,t2,t3,t4,t5,t6,t7,aJC]
 refine(pQ b0 (by decide) (by decide) _).mono ?_
 rintro r w' ⟨rfl,hw⟩
 rw[hw];clear hw w'
 simp(disch:=omega)only[seval,k3,t0,t1,t2,t3,t4,t5,t6,t7,aJC]
 refine(pQ b0 (by decide) (by decide) _).mono ?_
 rintro r w' ⟨rfl,hw⟩
 rw[hw];clear hw w'
 simp(disch:=omega)only[seval,c0,c1,c2,c3,c4,c5,c6,c7,d0,d1,d2,d3,d4,d5,d6,d7,f0,f1,f2,f3,f4,f5,f6,f7,k3,k4,e5,e6,e7,e8,e9,fa,t0,t1,t2,t3,t4,t5,t6,t7,aJC]
 try rw[<-htwo]
 have oQ:bD (dr (dr w2)) q [.int .u32 0,.int .u32 0,.int .u32 0,.int .u32 0,.int .u32 0,.int .u32 0,.int .u32 0,.int .u32 0]:=dB (dB o2)
 refine Dc (by first|exact oQ|exact dB o2) rfl (by simp[En.one]) (by simp) λw3 o3 x3 s3=> ?_
 refine ahL o3 (by simp[eF]) ?_
 rw[hRR]
 have x02:aL w w2 aT:=x1.seq x2
 refine⟨rfl, ?_⟩
 first
  |exact((x02.seq (aL.dr _ _)).seq (aL.dr _ _)).trans x3 λy hy h=>by omega
  |exact(x02.seq (aL.dr _ _)).trans x3 λy hy h=>by omega
theorem Th{a b:Nat}(k:Nat)(h:b<2^k):a*2^k|||b=a*2^k+b:=by
 rw[<-Nat.shiftLeft_eq,Nat.shiftLeft_add_eq_or_of_lt h]
def be4 (a b c d:Nat):Nat:=a*16777216+b*65536+c*256+d
theorem aGC{a b c d:Nat}(ha:a<256)(hb:b<256)(hc:c<256)(hd:d<256):be4 a b c d<iO:=by
 have:iO=4294967296:=rfl
 unfold be4;omega
theorem aET{a b c d:Nat}(ha:a<256)(hb:b<256)(hc:c<256)(hd:d<256):((a*2^24%iO|||b*2^16%iO)|||c*2^8%iO)|||d=be4 a b c d:=by
 have hM:iO=4294967296:=rfl
 have e1:a*2^24%iO=a*2^24:=aKh (by omega)
 have e2:b*2^16%iO=b*2^16:=aKh (by omega)
 have e3:c*2^8%iO=c*2^8:=aKh (by omega)
 rw[e1,e2,e3,Th 24 (by omega)]
 rw[show a*2^24+b*2^16=(a*256+b)*2^16 from by omega,Th 16 (by omega)]
 rw[show(a*256+b)*2^16+c*2^8=(a*65536+b*256+c)*2^8 from by omega,Th 8 (by omega)]
 unfold be4;omega
theorem aCE{a b c d:Nat}(ha:a<256)(hb:b<256)(hc:c<256)(hd:d<256):((((0*2^8%iO|||a)*2^8%iO|||b)*2^8%iO|||c)*2^8%iO)|||d=be4 a b c d:=by
 have hM:iO=4294967296:=rfl
 have e0:(0*2^8%iO|||a)=a:=by simp
 have e1:a*2^8%iO=a*2^8:=aKh (by omega)
 rw[e0,e1,Th 8 (by omega)]
 have e2:(a*2^8+b)*2^8%iO=(a*2^8+b)*2^8:=aKh (by omega)
 rw[e2,Th 8 (by omega)]
 have e3:((a*2^8+b)*2^8+c)*2^8%iO=((a*2^8+b)*2^8+c)*2^8:=aKh (by omega)
 rw[e3,Th 8 (by omega)]
 unfold be4;omega
def byN(b:List UInt8)(i:Nat):Nat:=(b.getD i 0).toNat
theorem FY(b:List UInt8)(i:Nat):byN b i<256:=UInt8.toNat_lt _
def beW(b:List UInt8)(t:Nat):Nat:=be4 (byN b (4*t)) (byN b (4*t+1)) (byN b (4*t+2)) (byN b (4*t+3))
theorem aGD(b:List UInt8)(t:Nat):beW b t<iO:=aGC (FY _ _) (FY _ _) (FY _ _) (FY _ _)
def hdW(b:List UInt8)(t:Nat):List Nat:=(List.range t).map (beW b)++List.replicate (64-t) 0
theorem aFb(b:List UInt8){t:Nat}(h:t<=64):(hdW b t).length=64:=by simp[hdW];omega
theorem aFa(b:List UInt8){t:Nat}(h:t<64):(hdW b t).getD t 0=0:=by
 unfold hdW
 rw[aJH,aJY (by simp),aJy,aKX,aKO,List.getElem?_replicate]
 split<;>rfl
theorem aAo(b:List UInt8){t:Nat}(h:t<64):(hdW b t).set t (beW b t)=hdW b (t+1):=by
 unfold hdW
 obtain⟨m,hm⟩:∃m,64-t=m+1:=⟨64-t-1,by omega⟩
 rw[hm,show 64-(t+1)=m from by omega,aKf _ _ (by simp),aJy,aKX,aKO,aLD,aJR,aLd,aJ7]
 simp
theorem aD9 {l:List Nat}{t x:Nat}(h:t<l.length):(l.set t x).getD t 0=x:=by
 rw[aJH,List.getElem?_set_self (by omega)]<;>rfl
theorem aEq(b:List UInt8):∀t,t<=16->w0N b (4*t)=hdW b t
 |0,_=>by simp[w0N,hdW]
 |t+1,h=>by
  have ih:=aEq b t (by omega)
  have hl:=aFb b (t:=t) (by omega)
  have hg:=aFa b (t:=t) (by omega)
  have q0:(4*t)/4=t:=by omega
  have q1:(4*t+1)/4=t:=by omega
  have q2:(4*t+2)/4=t:=by omega
  have q3:(4*t+3)/4=t:=by omega
  rw[show 4*(t+1)=4*t+1+1+1+1 from by omega,w0N,w0N,w0N,w0N,ih]
  have hs:∀x,((hdW b t).set t x).getD t 0=x:=λx=>aD9 (by omega)
  simp only[q0,q1,q2,q3,show 4*t+1+1=4*t+2 from rfl,show 4*t+2+1=4*t+3 from rfl,List.set_set,hs,hg]
  have:=aCE (FY b (4*t)) (FY b (4*t+1)) (FY b (4*t+2)) (FY b (4*t+3))
  rw[<-aAo b (by omega)]
  unfold beW
  rw[<-this]
  rfl
def wB(b:List UInt8):Nat->List Nat
 |0=>List.replicate 64 0
 |t+1=>(wB b t).set t (if t<16 then beW b t else((((wB b t).getD (t-16) 0+WY ((wB b t).getD (t-15) 0) 7 18 3)%iO+(wB b t).getD (t-7) 0)%iO+WY ((wB b t).getD (t-2) 0) 17 19 10)%iO)
theorem avQ(b:List UInt8):∀t,(wB b t).length=64
 |0=>by simp[wB]
 |t+1=>by rw[wB,aKn,avQ b t]
theorem aAR(b:List UInt8):∀t,Cf (wB b t)
 |0=>λx hx=>by
  rw[wB]at hx
  rw[(List.mem_replicate.1 hx).2];decide
 |t+1=>by
  rw[wB]
  refine(aAR b t).set ?_
  split
  .exact aGD b t
  .exact nF _
theorem aAQ(b:List UInt8):∀t,t<=16->wB b t=hdW b t
 |0,_=>by simp[wB,hdW]
 |t+1,h=>by rw[wB,aAQ b t (by omega),if_pos (by omega),aAo b (by omega)]
theorem aAS(b:List UInt8):∀j,wB b (16+j)=w1N (hdW b 16) j
 |0=>aAQ b 16 (aJK _)
 |j+1=>by
  rw[show 16+(j+1)=16+j+1 from rfl,wB,aAS b j,w1N,if_neg (by omega)]
  rw[show 16+j-16=j from by omega,show 16+j-15=j+1 from by omega,show 16+j-7=j+9 from by omega,show 16+j-2=j+14 from by omega]
theorem aD6 (b:List UInt8):wB b 64=w1N (w0N b 64) 48:=by
 rw[show(64:Nat)=16+48 from rfl,aAS,show w0N b (16+48)=w0N b (4*16)from rfl,aEq b 16 (aJK _)]
theorem azL{v s:List Nat}(hv:v.length=8)(hs:s.length=8):yH s v 8=yH v s 8:=by
 apply aLv
 .rw [Eu,Eu,hv,hs]
 .intro i h1 h2
  rw[Eu]at h1 h2
  simp only[yH,List.getElem_mapIdx]
  rw[if_pos (by omega),if_pos (by omega),aJH,aJH,aJA h1,aJA h2,Nat.add_comm]
  rfl
theorem aCg{s:List Nat}(b:List UInt8)(hs:s.length=8):Kq s b=yH s (lB (wB b 64) s 64) 8:=by
 unfold Kq
 rw[aD6,azL (Ka hs _) hs]
end Go.Proofs.YteelnmpbnaohpaaGreatDoor
namespace Go.Proofs.YteelnmpbnaohpaaGreatDoor
open Go Go.En Go.Pu
set_option maxRecDepth 4000
set_option maxHeartbeats 1000000
theorem aD0 {kn:aLX->aLX->aLX->aLX->aLX->aLW->Prop}{t2:aLX}{hb kb at_:Nat}{ba:Option Addr}{bc:Nat}{s:List Nat}{P:List UInt8}{w:aLW}(hP:Bs w (.slice ba P.length bc) P)(hPl:P.length<=1000000)(hat:at_+64<=P.length)
 (oH:bD w hb (s.map u32)) (hs:s.length=8) (h32:Cf s) (oK:bD w kb (kN.map u32)) (hne:hb≠kb) (hPh:¬fI (.slice ba P.length bc) (λy=>y=hb))
 (hk:∀W,bD W hb ((Kq s ((P.drop at_).take 64)).map u32)->aL w W (λy=>y=hb)->kn t2 (.slice ba P.length bc) (.pointer (some ⟨hb,0,none⟩)) (.pointer (some ⟨kb,0,none⟩)) (.int .i64 (at_:Nat)) W):
 CN kn t2 (.slice ba P.length bc) (.pointer (some ⟨hb,0,none⟩)) (.pointer (some ⟨kb,0,none⟩)) (.int .i64 (at_:Nat)) w:=by
 unfold CN Xo
 obtain⟨KB,hblk⟩:∃KB,KB=(P.drop at_).take 64:=⟨_,rfl⟩
 rw[<-hblk]at hk
 have hby:∀{W:aLW} {M:Nat->Prop},aL w W M->¬fI (.slice ba P.length bc) M->∃kb' off,ba=some ⟨kb',off,none⟩/\∀j,j<64->W.cell? ⟨kb',off+(at_+j),none⟩=some (.int .u8 (byN KB j:Nat)):=λ{W M} x hM=>by
  obtain⟨a',n',c',he,hn',hc',hh⟩:=hP.ext x hM
  simp only[Value.slice.injEq]at he
  obtain⟨rfl,rfl,rfl⟩:=he
  obtain⟨kb',off,rfl,h2⟩:=hh (by omega)
  refine⟨kb',off,rfl,λj hj=> ?_⟩
  rw[h2 (at_+j) (by omega),aJ0,aJA (by omega)]
  unfold byN
  rw[hblk,aJH,aKz hj,aK1,aJA (by omega)]
  rfl
 refine Ck λw1 o1 x1 s1=> ?_
 obtain⟨wb,hwb⟩:∃wb,wb=w.heap.size:=⟨_,rfl⟩
 rw[<-hwb]at o1⊢
 have hbl:=oH.lt
 have kbl:=oK.lt
 have o1:bD w1 wb ((wB KB 0).map u32):=by rw[wB,aAF];exact o1
 have hPold:¬fI (.slice ba P.length bc) (λy=>y=wb):=λh=>hP.old (bO h λy hy=>by omega)
 unfold NP NO Xn Ha
 refine bM.rule (λm (t:aLX) W=>∃i:Nat,m=64-i/\t= .int .i64 (i:Nat)/\i<=64/\bD W wb ((wB KB i).map u32)/\aL w1 W (λy=>y=wb)) 64 ⟨0,rfl,rfl,by omega,o1,aL.refl _ _⟩ ?_
 clear o1
 rintro m t w2 ⟨i,rfl,rfl,hi,o2,x2⟩
 have x02:aL w w2 (λy=>y=wb):=(x1.mono λ_ _ h=>h.elim).seq x2
 have hl2:=avQ KB i
 have hlt2:=aAR KB i
 unfold NN Xm NM
 by_cases hlt:i<64
 .have d1:decide ((i:Int)<64)=true:=by simp;omega
  have e9:(i:Int)+1=((i+1:Nat):Int):=by omega
  have hin:(i:Int).toNat=i:=aJE _
  by_cases h16:i<16
  .have d2:decide ((i:Int)<16)=true:=by simp;omega
   obtain⟨kb',off,rfl,hc⟩:=hby x02 hPold
   have n0:=hc (4*i) (by omega)
   have n1:=hc (4*i+1) (by omega)
   have n2:=hc (4*i+2) (by omega)
   have n3:=hc (4*i+3) (by omega)
   have hcd:∀j,(dr w2).cell? j=w2.cell? j:=λj=>rfl
   have q0:(at_:Int)+4*(i:Int)=((at_+4*i:Nat):Int):=by omega
   have q1:((at_+4*i:Nat):Int)+1=((at_+(4*i+1):Nat):Int):=by omega
   have q2:((at_+4*i:Nat):Int)+2=((at_+(4*i+2):Nat):Int):=by omega
   have q3:((at_+4*i:Nat):Int)+3=((at_+(4*i+3):Nat):Int):=by omega
   have u0:=FY KB (4*i)
   have u1:=FY KB (4*i+1)
   have u2:=FY KB (4*i+2)
   have u3:=FY KB (4*i+3)
   have hbe:=aET u0 u1 u2 u3
   have hsch:wB KB (i+1)=(wB KB i).set i (be4 (byN KB (4*i)) (byN KB (4*i+1)) (byN KB (4*i+2)) (byN KB (4*i+3))):=by
    rw[wB,if_pos h16]<;>rfl
   generalize byN KB (4*i)=b0 at*
   generalize byN KB (4*i+1)=b1 at*
   generalize byN KB (4*i+2)=b2 at*
   generalize byN KB (4*i+3)=b3 at*
   have f1:=MF b0 24
   have f2:=MF b1 16
   have f3:=MF b2 8
   have m1:min (24:Int).toNat IntKind.u32.bits=24:=rfl
   have m2:min (16:Int).toNat IntKind.u32.bits=16:=rfl
   have m3:min (8:Int).toNat IntKind.u32.bits=8:=rfl
   have f4:=Tg (nF (b0*2^24)) (nF (b1*2^16))
   have f5:=Tg (auF (nF (b0*2^24)) (nF (b1*2^16))) (nF (b2*2^8))
   have hM:iO=4294967296:=rfl
   have f6:=Tg (auF (auF (nF (b0*2^24)) (nF (b1*2^16))) (nF (b2*2^8))) (show b3<iO by omega)
   rw[hbe]at f6
   have tn:∀n:Nat,((n:Nat):Int).toNat=n:=aJE
   simp(disch:=omega)only[aA,fD,d1,d2,Xb,dI,gG,tn,aJC,fS,aI,true_and,q0,wX,q1,q2,q3,As,O2,aO,Result.ok.injEq,Next.value.injEq,and_true,cN,hcd,n0,bL,n1,n2,n3,oI,Kp,auP,m3,f3,m2,f2,m1,f1,aDT,f4,f5,f6]
   refine rN (by first|exact o2|exact dB o2) rfl (by rw[aJy];omega) λw3 o3 x3 s3=> ?_
   simp(disch:=omega)only[e9]
   refine⟨64-(i+1),by omega,i+1,rfl,rfl,by omega, ?_,by first|exact(x2.seq (aL.dr _ _)).seq x3|exact x2.seq x3⟩
   rw[hsch,aKR]
   exact o3
  .have d2:decide ((i:Int)<16)=false:=by simp;omega
   have q1:(i:Int)-15=((i-15:Nat):Int):=by omega
   have q2:(i:Int)-2=((i-2:Nat):Int):=by omega
   have q3:(i:Int)-16=((i-16:Nat):Int):=by omega
   have q4:(i:Int)-7=((i-7:Nat):Int):=by omega
   have hcd:∀j,(dr w2).cell? j=w2.cell? j:=λj=>rfl
   have hcd2:∀j,(dr (dr w2)).cell? j=w2.cell? j:=λj=>rfl
   have n1:=o2.cell (off:=i-15)
   have n2:=o2.cell (off:=i-2)
   have n3:=o2.cell (off:=i-16)
   have n4:=o2.cell (off:=i-7)
   rw[vX (by omega)]at n1 n2 n3 n4
   have l1:=hlt2.getD (i-15)
   have l2:=hlt2.getD (i-2)
   have hsch:wB KB (i+1)=(wB KB i).set i ((((((wB KB i).getD (i-16) 0+WY ((wB KB i).getD (i-15) 0) 7 18 3)%iO+(wB KB i).getD (i-7) 0)%iO+WY ((wB KB i).getD (i-2) 0) 17 19 10)%iO)):=by
    rw[wB,if_neg h16]
   generalize(wB KB i).getD (i-15) 0=X at*
   generalize(wB KB i).getD (i-2) 0=Y at*
   generalize(wB KB i).getD (i-16) 0=A at*
   generalize(wB KB i).getD (i-7) 0=B at*
   unfold WY at hsch
   have tn:∀n:Nat,((n:Nat):Int).toNat=n:=aJE
   have m3:min (3:Int).toNat IntKind.u32.bits=3:=rfl
   have m10:min (10:Int).toNat IntKind.u32.bits=10:=rfl
   have g3:=Lx X 3
   have g10:=Lx Y 10
   have j1:=fF (mE (k:=7) l1) (mE (k:=18) l1)
   have j2:=fF (Af (mE (k:=7) l1) (mE (k:=18) l1)) (Q5 l1 3)
   have j3:=fF (mE (k:=17) l2) (mE (k:=19) l2)
   have j4:=fF (Af (mE (k:=17) l2) (mE (k:=19) l2)) (Q5 l2 10)
   have fa:=LK
   simp(disch:=omega)only[aA,fD,d1,d2,Xb,dI,gG,tn,aJC,fS,aI,true_and,O2,q1,q2,q3,aO,Result.ok.injEq,Next.value.injEq,and_true,q4,iA,bH,n1,bL,n2,O1,hcd,n3,n4,cN]
   refine(pQ l1 (by decide) (by decide) _).mono ?_
   rintro r w' ⟨rfl,hw⟩
   rw[hw];clear hw w'
   simp(disch:=omega)only[hcd,n3,bL,true_and]
   refine(pQ l1 (by decide) (by decide) _).mono ?_
   rintro r w' ⟨rfl,hw⟩
   rw[hw];clear hw w'
   simp(disch:=omega)only[hcd,n3,bL,Uv,j1,m3,g3,n4,Result.ok.injEq,Next.value.injEq,and_true,aI,true_and,j2,fS,fa]
   refine(pQ l2 (by decide) (by decide) _).mono ?_
   rintro r w' ⟨rfl,hw⟩
   rw[hw];clear hw w'
   simp(disch:=omega)only[hcd,n4,bL,n3,and_true,true_and]
   refine(pQ l2 (by decide) (by decide) _).mono ?_
   rintro r w' ⟨rfl,hw⟩
   rw[hw];clear hw w'
   simp(disch:=omega)only[hcd,n4,bL,n3,and_true,Uv,j3,m10,g10,aI,j4,fS,fa,true_and]
   refine rN (by first|exact o2|exact dB o2) rfl (by rw[aJy];omega) λw3 o3 x3 s3=> ?_
   simp(disch:=omega)only[e9]
   refine⟨64-(i+1),by omega,i+1,rfl,rfl,by omega, ?_,by first|exact(x2.seq (aL.dr _ _)).seq x3|exact x2.seq x3⟩
   rw[hsch,aKR]
   exact o3
 have d1:decide ((i:Int)<64)=false:=by simp;omega
 obtain rfl:i=64:=by omega
 simp(disch:=omega)only[aA,fD,d1,Xb,dI,fS,aI,true_and,O2,aO,Result.ok.injEq,Next.value.injEq,and_true,gG,aJC,iA,bH]
 have hwith:=aCg (s:=s) KB hs
 obtain⟨Wl,hWl⟩:∃Wl,Wl=wB KB 64:=⟨_,rfl⟩
 rw[<-hWl]at o2 hl2 hwith
 clear hWl hlt2 d1 hlt hi
 have aH:bD w2 hb (s.map u32):=oH.ext x02 (by omega)
 have aK:bD w2 kb (kN.map u32):=oK.ext x02 (by omega)
 unfold NL Xl
 have ls:=Il (off:=0) aH (by rw[aJy];omega)
 rw[aJU,aJD (by rw[aJy];omega)]at ls
 simp(disch:=omega)only[aA,ls,aI]
 refine Ks λw3 o3 x3 s3=> ?_
 obtain⟨v,hv⟩:∃v,v=w2.heap.size:=⟨_,rfl⟩
 rw[<-hv]at o3⊢
 refine Dc o3 (by simp[hs]) (λy hy=>Ko s y (by simpa using hy)) (by simp) λw4 o4 x4 s4=> ?_
 have hset:eF [(.int .u32 0),(.int .u32 0),(.int .u32 0),(.int .u32 0),(.int .u32 0),(.int .u32 0),(.int .u32 0),(.int .u32 0)] 0 (s.map u32).toArray.toList=s.map u32:=by
  rw[aJV]
  have:=jB (s.map u32) [] [(.int .u32 0),(.int .u32 0),(.int .u32 0),(.int .u32 0),(.int .u32 0),(.int .u32 0),(.int .u32 0),(.int .u32 0)] (by rw[aJy,hs];decide)
  rw[aJX,aJX,aKy,aJy,hs]at this
  rw[this];simp
 rw[hset]at o4
 have wbl:=o2.lt
 have x24:aL w2 w4 aT:=x3.trans x4 λy hy h=>by omega
 have x04:aL w w4 aT:=x02.trans x24 (λy hy h=>h.elim)|>.mono (λy hy h=>by omega)
 have aH4:=aH.ext x24 (λh=>h)
 have aK4:=aK.ext x24 (λh=>h)
 have aW4:=o2.ext x24 (λh=>h)
 have z2:=x02.size
 unfold NK NJ Xk G9
 refine bM.rule (λm (t:aLX) W=>∃i:Nat,m=64-i/\t= .int .i64 (i:Nat)/\i<=64/\bD W v ((lB Wl s i).map u32)/\aL w4 W (λy=>y=v)) 64 ⟨0,rfl,rfl,by omega,o4,aL.refl _ _⟩ ?_
 clear o4
 rintro m t w5 ⟨i,rfl,rfl,hi,o5,x5⟩
 have hl5:(lB Wl s i).length=8:=Ka hs i
 have hlt5:Cf (lB Wl s i):=Oq h32 i
 unfold NI
 by_cases hlt:i<64
 .have d1:decide ((i:Int)<64)=true:=by simp;omega
  have e9:(i:Int)+1=((i+1:Nat):Int):=by omega
  have hin:(i:Int).toNat=i:=aJE _
  have cW:=(aW4.ext x5 (by omega)).cell (off:=i)
  have cK:=(aK4.ext x5 (by omega)).cell (off:=i)
  rw[vX (by omega)]at cW
  rw[vX (by show i<64;omega)]at cK
  have cWd:(dr w5).cell? ⟨wb,i,none⟩=_:=cW
  have cKd:(dr w5).cell? ⟨kb,i,none⟩=_:=cK
  have lv:=Il (off:=0) o5 (by rw[aJy];omega)
  have lvd:=Il (off:=0) (dB o5) (by rw[aJy];omega)
  rw[aJU,aJD (by rw[aJy];omega)]at lv lvd
  have hnext:lB Wl s (i+1)=MN (lB Wl s i) (kN.getD i 0) (Wl.getD i 0):=rfl
  generalize lB Wl s i=V at*
  generalize kN.getD i 0=kk at*
  generalize Wl.getD i 0=ww at*
  simp(disch:=omega)only[aA,fD,d1,gG,hin,aJC,fS,dI,aI,iA,true_and,lvd,cKd,bL,cWd,cN]
  refine(ayS hl5 hlt5).mono ?_
  rintro r w6 ⟨rfl,x6⟩
  have hV8:(MN V kk ww).length=8:=rfl
  have o6:bD w6 v (V.map u32):=by first|exact(dB o5).ext x6 (λh=>h)|exact o5.ext x6 (λh=>h)
  refine Dc o6 (by simp[hV8]) (λy hy=>Ko _ y (by simpa using hy)) (by rw[aJy];omega) λw7 o7 x7 s7=> ?_
  have hset7:eF (V.map u32) 0 ((MN V kk ww).map u32).toArray.toList=(MN V kk ww).map u32:=by
   rw[aJV]
   have:=jB ((MN V kk ww).map u32) [] (V.map u32) (by rw[aJy,aJy,hl5];exact aJK _)
   rw[aJX,aJX,aKy,aJy]at this
   rw[this,aKs (by rw[aJy,hl5,hV8];exact aJK _),aKb]
  rw[hset7,<-hnext]at o7
  simp(disch:=omega)only[e9]
  refine⟨64-(i+1),by omega,i+1,rfl,rfl,by omega,o7, ?_⟩
  first
   |exact((x5.seq (aL.dr _ _)).seq (x6.mono λ_ _ h=>h.elim)).seq x7
   |exact(x5.seq (x6.mono λ_ _ h=>h.elim)).seq x7
 have d1:decide ((i:Int)<64)=false:=by simp;omega
 obtain rfl:i=64:=by omega
 simp(disch:=omega)only[aA,fD,d1,fS,dI,aI,true_and,bH]
 obtain⟨V,hV⟩:∃V,V=lB Wl s 64:=⟨_,rfl⟩
 rw[<-hV]at o5 hl5 hlt5 hwith
 have x05:aL w w5 aT:=x04.trans x5 λy hy h=>by omega
 have a5:=aH4.ext x5 (by omega)
 unfold NH Xj G8
 refine bM.rule (λm (t:aLX) W=>∃i:Nat,m=8-i/\t= .int .i64 (i:Nat)/\i<=8/\bD W hb ((yH s V i).map u32)/\aL w5 W (λy=>y=hb)) 8 ⟨0,rfl,rfl,by omega,by rw[akP];exact a5,aL.refl _ _⟩ ?_
 rintro m t w6 ⟨i,rfl,rfl,hi,o6,x6⟩
 have hl6:(yH s V i).length=8:=by rw[Eu,hs]
 unfold NG
 by_cases hlt:i<8
 .have d1:decide ((i:Int)<8)=true:=by simp;omega
  have e9:(i:Int)+1=((i+1:Nat):Int):=by omega
  have hin:(i:Int).toNat=i:=aJE _
  have c1:=o6.cell (off:=i)
  have c2:=(o5.ext x6 (by omega)).cell (off:=i)
  rw[vX (by omega),aoP (by omega)]at c1
  rw[vX (by omega)]at c2
  have c1d:(dr w6).cell? ⟨hb,i,none⟩=_:=c1
  have c2d:(dr w6).cell? ⟨v,i,none⟩=_:=c2
  have fa:=LK
  simp(disch:=omega)only[aA,fD,d1,EF,hin,aJC,fS,dI,aI,true_and,iA,c1d,bL,c2d,fa,cN]
  refine rN (by first|exact dB o6|exact o6) rfl (by rw[aJy];omega) λw7 o7 x7 s7=> ?_
  simp(disch:=omega)only[e9]
  refine⟨8-(i+1),by omega,i+1,rfl,rfl,by omega, ?_,by first|exact(x6.seq (aL.dr _ _)).seq x7|exact x6.seq x7⟩
  rw[<-aoQ (by omega),aKR]
  exact o7
 have d1:decide ((i:Int)<8)=false:=by simp;omega
 obtain rfl:i=8:=by omega
 simp(disch:=omega)only[aA,fD,d1,fS,dI,aI,true_and,bH]
 rw[<-hwith]at o6
 exact hk w6 o6 ((x05.mono λ_ _ h=>h.elim).seq x6)
end Go.Proofs.YteelnmpbnaohpaaGreatDoor
namespace Go.Proofs.YteelnmpbnaohpaaGreatDoor
open Go Go.En Go.Pu
set_option maxRecDepth 4000
theorem aAl{ox oy:Operand}{a b:List UInt8}(ha:a.length=32)(hb:b.length=32)(w:aLW):(aE .eql 70 ox oy (.agg (a.map gO).toArray) (.agg (b.map gO).toArray)).run pg w= .ok (.value (.bool (a==b))) w:=by
 have g0:pg.eqGuardType pg.depth 70=false:=by kernel_rfl
 unfold aE
 simp only[DY,iW,Sem.run_bind,run_eqGuard_agg w .eql 70 ox oy _ _ g0,Result.andThen_ok,run_eql_struct]
 rw[axT 9998 32 Tryz.underlying70 Tryz.underlying5 Ma rfl a b ha hb]
 simp only[Result.andThen_ok]
 rw[show decide (a=b)=(a==b)from(by cases h:(a==b)<;>simp_all)]
theorem aAu:∀{l:List (List UInt8)},(∀x∈l,x.length=32)->(VZ l).length=l.length*32
 |[],_=>rfl
 |x::l,h=>by
  show(List.flatMap _ (x::l)).length=_
  rw[aKv,aJB,aJy,h x aJ3]
  have:=aAu (l:=l) λy hy=>h y (aJP _ hy)
  rw[this,aJT];omega
theorem aqB:∀{l:List (List UInt8)} {i j:Nat},(∀x∈l,x.length=32)->i<l.length->j<32->(VZ l)[i*32+j]?=((l.getD i []).map gO)[j]?
 |[],i,j,_,hi,_=>by simp at hi
 |x::l,0,j,h,_,hj=>by
  show(List.flatMap _ (x::l))[0*32+j]?=_
  rw[aKv,aJW (by rw[aJy,h x aJ3];omega)]
  simp
 |x::l,i+1,j,h,hi,hj=>by
  show(List.flatMap _ (x::l))[(i+1)*32+j]?=_
  rw[aKv,aJY (by rw[aJy,h x aJ3];omega),aJy,h x aJ3,show(i+1)*32+j-32=i*32+j from by omega]
  exact aqB (l:=l) (λy hy=>h y (aJP _ hy)) (by simpa using hi) hj
theorem Yu{n0 q p:Nat}{X D Y:Nat->Prop}{S:cF}{s:eQ}{lv hv:aLX}{w:aLW}(h:eA n0 w q p X D Y S s lv hv):aG pg gB #[dP q] w (λr w'=>r= .int .i64 s.err/\w'=w):=by
 refine SR ?_
 obtain⟨c0,c1,c2,c3,c4,c5,c6,c7,c8,c9⟩:=h.cells
 unfold Pm Jg
 simp(disch:=omega)only[seval,c9]
theorem aEj{n0 q p:Nat}{X D Y:Nat->Prop}{S:cF}{s:eQ}{lv hv:aLX}{w:aLW}(h:eA n0 w q p X D Y S s lv hv):aG pg jV #[dP q] w (λr w'=>r= .bool s.fin/\w'=w):=by
 refine Ql ?_
 obtain⟨c0,c1,c2,c3,c4,c5,c6,c7,c8,c9⟩:=h.cells
 unfold MP GM
 simp(disch:=omega)only[seval,c8]
theorem aB4 {n0 q p:Nat}{X D Y:Nat->Prop}{S:cF}{s:eQ}{lv hv:aLX}{w:aLW}(h:eA n0 w q p X D Y S s lv hv):aG pg jL #[dP q] w (λr w'=>r= .int .u64 (s.epoch:Nat)/\w'=w):=by
 refine OD ?_
 obtain⟨c0,c1,c2,c3,c4,c5,c6,c7,c8,c9⟩:=h.cells
 unfold Kk FN
 simp(disch:=omega)only[seval,c5]
theorem akJ{q p:Nat}{X D:Nat->Prop}{S:cF}{n:ByteArray}{w:aLW}(hd:fQ w p X D S)(hB:Gt 0 S)(hc:w.cell? ⟨q,0,none⟩=some (dP p)):
 aG pg jW #[dP q,.string n] w (λr w'=>∃v,r= .tuple #[v,.bool (bS S n).2.1,.int .i64 (bS S n).2.2]/\kW w' w.heap.size 1 v (bS S n).1.length ((bS S n).1.map gO)/\aL w w' aT):=by
 refine Qn ?_
 unfold MT GO
 simp(disch:=omega)only[seval,hc]
 refine(afF hd hB.bd (λb hb=>hB.file hb)).mono ?_
 rintro r w1 ⟨hr,x1⟩
 unfold bS
 rcases hr with⟨h1,rfl⟩|⟨h1,h2,rfl⟩|⟨h1,b,v,h2,rfl,ho⟩
 .have n1:((20:Int)==21)=false:=rfl
  have n2:((20:Int)==0)=false:=rfl
  rw[if_pos h1]
  simp(disch:=omega)only[seval,n1,n2]
  exact⟨_,rfl,kW.nil _ _ _,x1⟩
 .have n1:((21:Int)==21)=true:=rfl
  rw[if_neg (by rw[h1];decide),h2]
  simp(disch:=omega)only[seval,n1]
  exact⟨_,rfl,kW.nil _ _ _,x1⟩
 .have n1:((0:Int)==21)=false:=rfl
  have n2:((0:Int)==0)=true:=rfl
  rw[if_neg (by rw[h1];decide),h2]
  simp(disch:=omega)only[seval,n1,n2]
  exact⟨_,rfl,ho,x1⟩
theorem aA4 {n0 q p i:Nat}{X D Y:Nat->Prop}{S:cF}{s:eQ}{lv hv bv:aLX}{b:List UInt8}{w:aLW}(h:eA n0 w q p X D Y S s lv hv)(hi:i<s.man.leaves.length)(hb:Bs w bv b)(hl:b.length<=1000000):
 aG pg lN #[dP q,.int .i64 (i:Nat),bv] w (λr w'=>r= .bool (vH aX s.man i b)/\aL w w' aT):=by
 refine OG ?_
 obtain⟨RR,hRR⟩:∃RR:aLX->aLW->Prop,RR=λr w'=>r= .bool (vH aX s.man i b)/\aL w w' aT:=⟨_,rfl⟩
 rw[<-hRR]
 have hm:=h.man
 have hc1:=hm.cnt
 have hc2:=hm.max
 have h':=h.new (aL.dr w aT)
 obtain⟨c0,c1,c2,c3,c4,c5,c6,c7,c8,c9⟩:=h'.cells
 obtain⟨ba,bc,rfl,hbc⟩:=hb.len
 rw[aJy]at hb hbc
 unfold Kn FQ
 have e1:IntKind.i64.wrap ((s.man.part:Nat):Int)=((s.man.part:Nat):Int):=dI (by omega) (by have:=hm.part;omega)
 simp(disch:=omega)only[seval,c2,c3,e1,aJy]
 have hsz:=hm.size
 refine(akH (by omega) hm.part.1 hm.part.2 hc2 (by omega)).mono ?_
 rintro r w1 ⟨rfl,hw⟩
 rw[hw];clear hw w1
 have n0':((0:Int)==0)=true:=rfl
 obtain⟨N,hN⟩:∃N,N=UY s.man.size s.man.part i:=⟨_,rfl⟩
 have hwb:vH aX s.man i b=(b.length==N&&aX b==s.man.leaves.getD i []):=by rw[hN]<;>rfl
 rw[<-hN]
 have key:∀W,aL w W aT->∃la off lc,lv= .slice (some ⟨la,off,none⟩) s.man.leaves.length lc/\(aB 70 (.pointer (some ⟨la,off+i*32,none⟩))).run pg W= .ok (.value (.agg ((s.man.leaves.getD i []).map gO).toArray)) W:=λW x=>by
  obtain⟨a,c,hlv,hln,hh⟩:=dS h.lv.1 x (bC _)
  obtain⟨la,off,rfl,h2⟩:=hh (by omega)
  have hmem:s.man.leaves.getD i []∈s.man.leaves:=by
   rw[aJH,aJA hi];exact aKl hi
  refine⟨la,off,c,hlv,aaR (by rw[aJy,hm.len _ hmem]) λj hj=> ?_⟩
  rw[aJy,hm.len _ hmem]at hj
  rw[aKu,h2 _ (by rw[hln];omega),aqB hm.len hi hj]
 have hllen:(s.man.leaves.getD i []).length=32:=hm.len _ (by rw[aJH,aJA hi];exact aKl hi)
 by_cases hq:b.length=N
 rotate_left
 .have d1:(((b.length:Nat):Int)==((N:Nat):Int))=false:=by rw[beq_eq_false_iff_ne];omega
  have d2:(b.length==N)=false:=by rw[beq_eq_false_iff_ne];exact hq
  rw[d2,aKC]at hwb
  simp(disch:=omega)only[seval,n0',d1]
  rw[hRR]
  exact⟨by rw[hwb],(aL.dr w _).seq (aL.dr _ _)⟩
 have d1:(((b.length:Nat):Int)==((N:Nat):Int))=true:=by rw[beq_iff_eq];omega
 have d2:(b.length==N)=true:=by rw[beq_iff_eq];exact hq
 rw[d2,aKH]at hwb
 simp(disch:=omega)only[seval,n0',d1]
 have xd2:aL w (dr (dr w)) aT:=(aL.dr w _).seq (aL.dr _ _)
 refine(aDk (l:=b) (h.glob.ext xd2) (hb.ext xd2 (bC _)) (by omega)).mono ?_
 rintro r w2 ⟨rfl,x2⟩
 have x02:=xd2.seq x2
 obtain⟨la,off,lc,hlv,ld2⟩:=key w2 x02
 obtain⟨_,_,_,hlv',ldd⟩:=key _ xd2
 rw[hlv]at hlv'
 cases hlv'
 obtain⟨a0,a1,a2,a3,a4,a5,a6,a7,a8,a9⟩:=(h.new x02).cells
 obtain⟨b0,b1,b2,b3,b4,b5,b6,b7,b8,b9⟩:=(h.new xd2).cells
 rw[hlv]at a4 b4
 have hs:=λox oy=>aAl (ox:=ox) (oy:=oy) (a:=aX b) (b:=s.man.leaves.getD i []) (uA _) hllen w2
 simp(disch:=omega)only[seval,a4,b4,ld2,ldd,hs]
 rw[hRR]
 exact⟨by rw[hwb],x02⟩
theorem Vu(L k i:Nat)(b:List UInt8):(B4 L k i b).length<=b.length:=by
 unfold B4
 rw[aJL,aJO];omega
theorem akV{n0 q p:Nat}{X D Y:Nat->Prop}{S:cF}{s:eQ}{lv hv bv:aLX}{b:List UInt8}{w:aLW}(h:eA n0 w q p X D Y S s lv hv)(hb:Bs w bv b)(hl:b.length<=1000000):
 aG pg iN #[dP q,bv] w (λr w'=>∃ob,r= .slice (some ⟨ob,0,none⟩) s.man.leaves.length s.man.leaves.length/\w.heap.size<=ob/\bD w' ob ((bQ aX s.man b).map Value.bool)/\aL w w' aT):=by
 refine MV ?_
 obtain⟨RR,hRR⟩:∃RR:aLX->aLW->Prop,RR=λr w'=>∃ob,r= .slice (some ⟨ob,0,none⟩) s.man.leaves.length s.man.leaves.length/\w.heap.size<=ob/\bD w' ob ((bQ aX s.man b).map Value.bool)/\aL w w' aT:=⟨_,rfl⟩
 rw[<-hRR]
 have hm:=h.man
 have hc1:=hm.cnt
 have hc2:=hm.max
 have hsz:=hm.size
 obtain⟨c0,c1,c2,c3,c4,c5,c6,c7,c8,c9⟩:=h.cells
 obtain⟨la,lc,hlv,_⟩:=h.lv.1
 obtain⟨ba,bc,rfl,hbc⟩:=hb.len
 rw[aJy]at hb hbc⊢
 obtain⟨n,hn⟩:∃n,n=s.man.leaves.length:=⟨_,rfl⟩
 rw[hlv]at c4
 rw[<-hn]at c4 hc1
 unfold Jm DE DD
 simp(disch:=omega)only[seval,c4]
 refine ahS (by omega) (by omega) λw1 o1 x1 s1=> ?_
 rw[aJE]at o1⊢
 obtain⟨ob,hob⟩:∃ob,ob=w.heap.size:=⟨_,rfl⟩
 rw[<-hob]at o1⊢
 unfold vG vF DC nM
 simp(disch:=omega)only[seval]
 refine bM.rule (λm (t:aLX) w'=>∃i:Nat,m=n-i/\i<=n/\t= .int .i64 (i:Nat)/\bD w' ob (((List.range i).map λj=>Value.bool (wholeAt aX s.man b j))++List.replicate (n-i) (.bool false))/\aL w w' aT) n ⟨0,rfl,by omega,rfl,o1,x1⟩ ?_
 clear o1
 rintro m t w2 ⟨i,rfl,hi,rfl,o2,x2⟩
 unfold vD
 by_cases hlt:i<n
 .have d1:decide ((i:Int)<(n:Int))=true:=by simp;omega
  have x2d:aL w (dr w2) aT:=x2.seq (aL.dr _ _)
  obtain⟨a0,a1,a2,a3,a4,a5,a6,a7,a8,a9⟩:=(h.new x2d).cells
  have e1:IntKind.i64.wrap ((s.man.part:Nat):Int)=((s.man.part:Nat):Int):=dI (by omega) (by have:=hm.part;omega)
  simp(disch:=omega)only[seval,d1,a2,a3,e1]
  refine(akH (by omega) hm.part.1 hm.part.2 hc2 (by omega)).mono ?_
  rintro r w3 ⟨rfl,hw⟩
  rw[hw];clear hw w3
  obtain⟨P,hP⟩:∃P,P=s.man.part*i:=⟨_,rfl⟩
  obtain⟨N,hN⟩:∃N,N=UY s.man.size s.man.part i:=⟨_,rfl⟩
  have hPl:P<s.man.size:=hP▸(AH (by have:=hm.part;omega)).1 (by omega)
  have hNl:N<=s.man.part:=by rw[hN];unfold UY;omega
  have hpm:=hm.part
  rw[<-hP,<-hN]
  have n1:((0:Int)==0)=true:=rfl
  have e2:(P:Int)+(N:Int)=((P+N:Nat):Int):=by omega
  have hwa:wholeAt aX s.man b i=(decide (P+N<=b.length)&&vH aX s.man i (B4 s.man.size s.man.part i b)):=by rw[hP,hN]<;>rfl
  have o3:=dB o2
  have oset:∀(z:Bool),z=wholeAt aX s.man b i->((((List.range i).map λj=>Value.bool (wholeAt aX s.man b j))++List.replicate (n-i) (Value.bool false)).set i (.bool z))=((List.range (i+1)).map λj=>Value.bool (wholeAt aX s.man b j))++List.replicate (n-(i+1)) (.bool false):=λz hz=>by
   rw[aKf _ _ (by simp),aJy,aKX,aKO,show n-i=(n-(i+1))+1 from by omega,aLD,aJR,aLd,aJ7,aJS,hz]
   rfl
  by_cases hfit:P+N<=b.length
  .have d2:decide (((P+N:Nat):Int)<=(b.length:Int))=true:=by simp only[decide_eq_true_eq];omega
   rw[decide_eq_true hfit,aKH]at hwa
   simp(disch:=omega)only[seval,n1,e2,d2]
   have hbd:Bs (dr w2) (.slice (dD ba bc P 1) (P+N-P) (bc-P)) (B4 s.man.size s.man.part i b):=by
    have:=Sl.mid (hb.ext x2d (bC _)) (i:=P) (j:=P+N) (by omega) hfit
    rw[<-aLf,<-aLz,aKB]at this
    rw[aKB]
    unfold B4
    rw[<-hP,<-hN]
    exact this
   refine(aA4 (h.new x2d) (by omega) hbd (by have:=Vu s.man.size s.man.part i b;omega)).mono ?_
   rintro r w4 ⟨rfl,x4⟩
   refine tP (o3.ext x4 (λh=>h)) rfl (by rw[aJB,aJy,aKX,aJ5];omega) λw5 o5 x5 s5=> ?_
   rw[oset _ hwa.symm]at o5
   exact⟨n-(i+1),by omega,i+1,rfl,by omega,rfl,o5,(x2d.seq x4).trans x5 λy hy h=>by omega⟩
  .have d2:decide (((P+N:Nat):Int)<=(b.length:Int))=false:=by simp only[decide_eq_false_iff_not];omega
   rw[decide_eq_false hfit,aKC]at hwa
   simp(disch:=omega)only[seval,n1,e2,d2]
   refine tP o3 rfl (by rw[aJB,aJy,aKX,aJ5];omega) λw5 o5 x5 s5=> ?_
   rw[oset _ hwa.symm]at o5
   exact⟨n-(i+1),by omega,i+1,rfl,by omega,rfl,o5,x2d.trans x5 λy hy h=>by omega⟩
 .have d1:decide ((i:Int)<(n:Int))=false:=by simp;omega
  obtain rfl:i=n:=by omega
  unfold vC
  simp(disch:=omega)only[seval,d1]
  rw[hRR]
  refine⟨ob,by rw[<-hn],by omega, ?_,x2⟩
  rw[aKO,aLp,aKb]at o2
  unfold bQ
  rw[<-hn,List.map_map]
  exact o2
theorem afB{n:ByteArray}(h:n.size<=27)(t:TypeId)(ox oy:Operand)(w:aLW):(aE .add t ox oy (.string n) (.string ⟨#[46,108,111,103]⟩)).run pg w= .ok (.value (.string (cY n))) w:=aqG n _ (by show((n.size+4:Nat):Int)<=_;omega)
theorem LP{n:ByteArray}(h:n.size<=27)(t:TypeId)(ox oy:Operand)(w:aLW):(aE .add t ox oy (.string n) (.string ⟨#[46,112,97,114,116]⟩)).run pg w= .ok (.value (.string (aZ n))) w:=aqG n _ (by show((n.size+5:Nat):Int)<=_;omega)
theorem auY{n0 q p k v:Nat}{X D Y:Nat->Prop}{S:cF}{s:eQ}{lv hv:aLX}{w:aLW}(h:eA n0 w q p X D Y S s lv hv)(hB:Gt 1 S)(hk:k=1∨k=2)(hv':v<2^64)(hlg:s.log+13<=1000000000):
 aG pg kL #[dP q,alW k v] w (λr w'=>r= .int .i64 (bZ aY S s k v).2.2/\bY n0 w q p X D Y (bZ aY S s k v).1 (bZ aY S s k v).2.1 w'):=by
 refine MU ?_
 obtain⟨RR,hRR⟩:∃RR:aLX->aLW->Prop,RR=λr w'=>r= .int .i64 (bZ aY S s k v).2.2/\bY n0 w q p X D Y (bZ aY S s k v).1 (bZ aY S s k v).2.1 w':=⟨_,rfl⟩
 rw[<-hRR]
 unfold Jl DB DA
 refine cA λw1 o1 x1 s1=> ?_
 have o1:bD w1 w.heap.size (oF (k,v)):=o1
 have l1:=vR (off:=0) o1 (by simp)
 have l1:(aB 109 (.pointer (some ⟨w.heap.size,0,none⟩))).run pg w1= .ok (.value (alW k v)) w1:=l1
 simp(disch:=omega)only[seval,l1]
 refine(atP (h.glob.ext x1) (by omega) hv').mono ?_
 rintro r w2 ⟨hr,x2⟩
 rw[if_pos hk]at hr
 obtain⟨b,rfl,hb⟩:=hr
 have h13:=mJ aY k v
 have h2:=h.new (x1.seq x2)
 have h2d:=h2.new (aL.dr w2 aT)
 obtain⟨a0,a1,a2,a3,a4,a5,a6,a7,a8,a9⟩:=h2d.cells
 have n1:((0:Int)==0)=true:=rfl
 have hbd:Bs (dr w2) b (mN aY k v):=(show Bs w2 b (mN aY k v)from hb.sl).ext (aL.dr w2 aT) (bC _)
 obtain⟨ba,bc,rfl,_⟩:=hbd.len
 rw[aJy]at hbd hb⊢
 have ct:=afB h.nl
 simp(disch:=omega)only[seval,n1,a0,a1,a7,ct]
 have x02:aL w (dr w2) (λb=>X b∨Y b):=((x1.seq x2).seq (aL.dr _ _)).mono λ_ _ h=>h.elim
 refine(Wq (name:=cY s.nm) (a:=(s.log:Nat)) h2d.dsk hB.bd hbd (by omega) (by omega) (by omega)).mono ?_
 rintro r w3 ⟨rfl,hp⟩
 obtain⟨X',D',h3,hX,hD,x3⟩:=h2d.disk hp
 have hrec:bZ aY S s k v=if(yL S (cY s.nm) s.log (mN aY k v)).2=0 then((yL S (cY s.nm) s.log (mN aY k v)).1,{s with log:=s.log+13},0)else((yL S (cY s.nm) s.log (mN aY k v)).1,s,(yL S (cY s.nm) s.log (mN aY k v)).2):=rfl
 generalize yL S (cY s.nm) s.log (mN aY k v)=W at*
 obtain⟨S',e⟩:=W
 simp only at h3 hrec
 unfold vB Dz vA
 have x3':aL (dr w2) w3 (λb=>X b∨Y b):=x3.mono λ_ _ h=> .inl h
 by_cases he:e=0
 .subst he
  rw[if_pos rfl]at hrec
  obtain⟨c0,c1,c2,c3,c4,c5,c6,c7,c8,c9⟩:=h3.cells
  have e1:(s.log:Int)+(13:Int)=((s.log+13:Nat):Int):=by omega
  rw[h13]at*
  simp(disch:=omega)only[seval,n1,c7,e1]
  refine Db h3.own rfl (by simp) λw4 o4 x4 s4=> ?_
  have h4:=h3.set (s':={s with log:=s.log+13}) x4 o4 rfl rfl rfl h.ep hlg
  rw[hRR,hrec]
  exact⟨rfl,bY.step x02 (λ_ h=> .inl h) (λ_ h=>h) (λ_ h=> .inl h) ⟨X',D',Y,_,_,h4,hX,hD,λ_ h=> .inl h,x3'.seq (x4.mono λy _ hy=> .inr (hy▸h.yq))⟩⟩
 .rw [if_neg he]at hrec
  have n2:(e==0)=false:=beq_eq_false_iff_ne.2 he
  simp(disch:=omega)only[seval,n1,n2]
  rw[hRR,hrec]
  exact⟨rfl,bY.step x02 (λ_ h=> .inl h) (λ_ h=>h) (λ_ h=> .inl h) ⟨X',D',Y,_,_,h3,hX,hD,λ_ h=> .inl h,x3'⟩⟩
theorem aC2 {n0 q p:Nat}{X D Y:Nat->Prop}{S:cF}{s:eQ}{lv hv:aLX}{w:aLW}(h:eA n0 w q p X D Y S s lv hv)(hB:Gt 2 S):
 aG pg oZ #[dP q] w (λr w'=>∃bv,r= .tuple #[bv,.int .i64 (cC S s).2.2]/\Bs w' bv (cC S s).2.1/\(∀b,(X b∨Y b)->¬fI bv (λy=>y=b))/\bY n0 w q p X D Y (cC S s).1 s w'):=by
 refine MS ?_
 obtain⟨RR,hRR⟩:∃RR:aLX->aLW->Prop,RR=λr w'=>∃bv,r= .tuple #[bv,.int .i64 (cC S s).2.2]/\Bs w' bv (cC S s).2.1/\(∀b,(X b∨Y b)->¬fI bv (λy=>y=b))/\bY n0 w q p X D Y (cC S s).1 s w':=⟨_,rfl⟩
 rw[<-hRR]
 obtain⟨c0,c1,c2,c3,c4,c5,c6,c7,c8,c9⟩:=h.cells
 have ct:=LP h.nl
 unfold Jk Dy Dx
 simp(disch:=omega)only[seval,c1,ct]
 refine(akJ (n:=aZ s.nm) h.dsk (hB.le (by omega)) c0).mono ?_
 rintro r w1 ⟨v,rfl,ho,x1⟩
 have h1:=h.new x1
 obtain⟨rb,hrb⟩:∃rb,rb=bS S (aZ s.nm):=⟨_,rfl⟩
 rw[<-hrb]at ho⊢
 obtain⟨b,th,e⟩:=rb
 simp only at ho⊢
 have hno:∀b,(X b∨Y b)->¬fI v (λy=>y=b):=λy hy hi=>by
  have hlt:=eA.lt h y hy
  rcases ho.2 with⟨rfl,_⟩|⟨bb,cc,rest,rfl,g2,_⟩
  .exact hi
  .unfold fI at hi
   split at hi
   .rename_i e
    simp only[Value.slice.injEq,aJ8]at e
    obtain⟨rfl,_⟩:=e
    have hi:bb=y:=hi
    omega
   .exact hi
 have hnn:∀y:Nat,(X y∨Y y)->¬fI (.slice none 0 0) (λz=>z=y):=λy _ h=>h
 have hf:cC S s=if e≠0 then(S,[],e)else if s.man.size<b.length then(if(Yd S (aZ s.nm)).2≠0 then((Yd S (aZ s.nm)).1,[],(Yd S (aZ s.nm)).2)else((yL (Yd S (aZ s.nm)).1 (aZ s.nm) 0 (List.replicate s.man.size 0)).1,[],(yL (Yd S (aZ s.nm)).1 (aZ s.nm) 0 (List.replicate s.man.size 0)).2))
     else if b.length<s.man.size∨th=false then((yL S (aZ s.nm) b.length (List.replicate (s.man.size-b.length) 0)).1,b,(yL S (aZ s.nm) b.length (List.replicate (s.man.size-b.length) 0)).2)else(S,b,0):=by
  unfold cC
  rw[<-hrb]
 have hsz:=h.man.size
 by_cases he:e=0
 rotate_left
 .have n1:(e !=0)=true:=bne_iff_ne.2 he
  rw[if_pos he]at hf
  simp(disch:=omega)only[seval,n1]
  rw[hRR,hf]
  exact⟨_,rfl,Sl.nil _,hnn,bY.step (x1.mono λ_ _ h=>h.elim) (λ_ h=> .inl h) (λ_ h=>h) (λ_ h=> .inl h) (bY.refl h1)⟩
 subst he
 rw[if_neg (by decide)]at hf
 have n1:((0:Int) !=0)=false:=rfl
 have hbs:Bs w1 v b:=ho.sl
 obtain⟨va,vc,rfl,_⟩:=hbs.len
 rw[aJy]at hbs hno ho
 have hbl:b.length<=1000000000:=by
  unfold bS at hrb
  split at hrb
  .cases hrb
  .cases hg:bF (aZ s.nm) S.seen with
   |none=>rw[hg]at hrb;cases hrb;simp
   |some b'=>rw[hg]at hrb;cases hrb;exact hB.file hg
 have tail:∀{w2:aLW} {X2 D2:Nat->Prop} {S2:cF} {b2:List UInt8} {a2:Option Addr} {c2:Nat} {th2:Bool},eA n0 w2 q p X2 D2 Y S2 s lv hv->Gt 1 S2->Bs w2 (.slice a2 b2.length c2) b2->(∀y,(X2 y∨Y y)->¬fI (.slice a2 b2.length c2) (λz=>z=y))->b2.length<=s.man.size→
     (∀w3 e3 S3,(if b2.length<s.man.size∨th2=false then((yL S2 (aZ s.nm) b2.length (List.replicate (s.man.size-b2.length) 0)).1,(yL S2 (aZ s.nm) b2.length (List.replicate (s.man.size-b2.length) 0)).2)else(S2,0))=(S3,e3)->Bs w3 (.slice a2 b2.length c2) b2->bY n0 w2 q p X2 D2 Y S3 s w3->RR (.tuple #[.slice a2 b2.length c2,.int .i64 e3]) w3)→
     nL RR (dP q) (.slice a2 b2.length c2) (.bool th2) w2:=by
  intro w2 X2 D2 S2 b2 a2 c2 th2 h2 hB2 hb2 hn2 hle hK
  obtain⟨d0,d1,d2,d3,d4,d5,d6,d7,d8,d9⟩:=h2.cells
  have e1:IntKind.i64.wrap ((s.man.size:Nat):Int)=((s.man.size:Nat):Int):=dI (by omega) (by omega)
  have e2:(s.man.size:Int)-(b2.length:Int)=((s.man.size-b2.length:Nat):Int):=by omega
  have fin:∀{w3:aLW},(b2.length<s.man.size∨th2=false)->bD w3 (dr w2).heap.size (List.replicate (s.man.size-b2.length) (.int .u8 0))->aL (dr w2) w3 aT->aG pg gA #[dP p,.string (aZ s.nm),.int .i64 (b2.length:Nat),.slice (some ⟨(dr w2).heap.size,0,none⟩) (s.man.size-b2.length) (s.man.size-b2.length)] w3 λt74 w4=>RR (.tuple #[.slice a2 b2.length c2,t74]) w4:=by
   intro w3 hc o3 x3
   rw[if_pos hc]at hK
   have x23:aL w2 w3 aT:=(aL.dr _ _).seq x3
   have h3:=h2.new x23
   have hbz:Bs w3 (.slice (some ⟨(dr w2).heap.size,0,none⟩) (s.man.size-b2.length) (s.man.size-b2.length)) (List.replicate (s.man.size-b2.length) 0):=by
    refine bD.whole (l:=List.replicate (s.man.size-b2.length) (0:UInt8)) (c:=s.man.size-b2.length) ?_ ?_|>λhh=>by rw[aJ5]at hh;exact hh
    .rw [aAb];exact o3
    .simp
   have hdw:=Wq (name:=aZ s.nm) (a:=(b2.length:Nat)) h3.dsk hB2.bd hbz (by rw[aJ5];omega) (by omega) (by omega)
   refine hdw.mono ?_
   rintro r w4 ⟨rfl,hp⟩
   obtain⟨X',D',h4,hX,hD,x4⟩:=h3.disk hp
   refine hK w4 _ _ rfl ((hb2.ext x23 (bC _)).ext x4 λhi=> ?_) (bY.step (x23.mono λ_ _ h=>h.elim) (λ_ h=> .inl h) (λ_ h=>h) (λ_ h=> .inl h) ⟨X',D',Y,_,_,h4,hX,hD,λ_ h=> .inl h,x4.mono λ_ _ h=> .inl h⟩)
   unfold fI at hi
   split at hi
   .rename_i b' _ m _ he
    have:=hn2 _ (.inl hi)
    rw[he]at this
    exact this rfl
   .exact hi
  have h2d:=(h2.new (aL.dr w2 aT))
  obtain⟨f0,f1,f2,f3,f4,f5,f6,f7,f8,f9⟩:=h2d.cells
  unfold nL
  have mk:(b2.length<s.man.size∨th2=false)->aA pg (xP 22 (.int .i64 ((s.man.size-b2.length:Nat):Int)) (.int .i64 ((s.man.size-b2.length:Nat):Int))) (dr w2) λt73 w3=>
      (ldC (w3.cell? ⟨q,1,none⟩) w3 (far pg 9 ⟨q,1,none⟩ w3)=Result.ok (Next.value (Value.string s.nm)) w3/\ldC (w3.cell? ⟨q,0,none⟩) w3 (far pg 34 ⟨q,0,none⟩ w3)=Result.ok (Next.value (dP p)) w3)/\
      aG pg gA #[dP p,.string (aZ s.nm),.int .i64 (b2.length:Nat),t73] w3 λt74 w4=>RR (.tuple #[.slice a2 b2.length c2,t74]) w4:=λhc=>by
   refine RL (by omega) (by omega) λw3 o3 x3 s3=> ?_
   rw[aJE]at o3⊢
   obtain⟨g0,g1,_⟩:=(h2.new ((aL.dr _ _).seq x3)).cells
   refine⟨⟨by rw[g1]<;>rfl,by rw[g0]<;>rfl⟩,fin hc o3 x3⟩
  by_cases hlt:b2.length<s.man.size
  .have q1:decide ((0:Int)<((s.man.size-b2.length:Nat):Int))=true:=by simp only[decide_eq_true_eq];omega
   simp(disch:=omega)only[seval,d2,e1,e2,q1,f0,f1,ct]
   exact mk (.inl hlt)
  .have q1:decide ((0:Int)<((s.man.size-b2.length:Nat):Int))=false:=by simp only[decide_eq_false_iff_not];omega
   cases th2 with
   |false=>
    simp(disch:=omega)only[seval,d2,e1,e2,q1,f0,f1,ct]
    exact mk (.inr rfl)
   |true=>
    rw[if_neg (by rintro(h|h);exact hlt h;cases h)]at hK
    simp(disch:=omega)only[seval,d2,e1,e2,q1]
    exact hK w2 0 S2 rfl hb2 (bY.refl h2)
 have x1':aL w w1 (λb=>X b∨Y b):=x1.mono λ_ _ h=>h.elim
 obtain⟨d0,d1,d2,d3,d4,d5,d6,d7,d8,d9⟩:=h1.cells
 have e1:IntKind.u64.wrap ((b.length:Nat):Int)=((b.length:Nat):Int):=hU (by omega) (by omega)
 by_cases hgt:s.man.size<b.length
 .rw [if_pos hgt]at hf
  have q1:decide (((s.man.size:Nat):Int)<((b.length:Nat):Int))=true:=by simp only[decide_eq_true_eq];omega
  have h1d:=h1.new (aL.dr w1 aT)
  obtain⟨f0,f1,f2,f3,f4,f5,f6,f7,f8,f9⟩:=h1d.cells
  simp(disch:=omega)only[seval,aJy,n1,d2,e1,q1,f0,f1,ct]
  refine(aBn (name:=aZ s.nm) h1d.dsk hB.bd).mono ?_
  rintro r w2 ⟨rfl,hp⟩
  obtain⟨X',D',h2,hX,hD,x2⟩:=h1d.disk hp
  have hB2:Gt 1 (Yd S (aZ s.nm)).1:=aAH hB
  have x02:aL w w2 (λb=>X b∨Y b):=(x1'.seq (aL.dr _ _)).seq (x2.mono λ_ _ h=> .inl h)
  have hX0:∀b,X' b->X b∨w.heap.size<=b:=λb hb=>by
   have:=x1.size
   rcases hX b hb with h|h
   .exact .inl h
   .exact .inr (aKZ this h)
  generalize Yd S (aZ s.nm)=R at*
  obtain⟨S2,e⟩:=R
  simp only at h2 hB2 hf
  by_cases he:e=0
  .subst he
   rw[if_neg (by decide)]at hf
   simp(disch:=omega)only[seval,n1]
   refine tail (th2:=false) (a2:=none) (c2:=0) (b2:=[]) h2 hB2 (Sl.nil _) (λy _ h=>h) (by simp) λw3 e3 S3 h3 hb3 hp3=> ?_
   rw[if_pos (.inr rfl)]at h3
   have h3:((yL S2 (aZ s.nm) 0 (List.replicate s.man.size 0)).1,(yL S2 (aZ s.nm) 0 (List.replicate s.man.size 0)).2)=(S3,e3):=h3
   rw[hRR,hf]
   obtain⟨ha,hb'⟩:=aLB .. ▸h3
   rw[ha,hb']
   exact⟨_,rfl,Sl.nil _,hnn,bY.step x02 hX0 hD (λ_ h=> .inl h) hp3⟩
  .have n2:(e !=0)=true:=bne_iff_ne.2 he
   rw[if_pos he]at hf
   simp(disch:=omega)only[seval,n2]
   rw[hRR,hf]
   exact⟨_,rfl,Sl.nil _,hnn,bY.step x02 hX0 hD (λ_ h=> .inl h) (bY.refl h2)⟩
 .rw [if_neg hgt]at hf
  have q1:decide (((s.man.size:Nat):Int)<((b.length:Nat):Int))=false:=by simp only[decide_eq_false_iff_not];omega
  simp(disch:=omega)only[seval,aJy,n1,d2,e1,q1]
  refine tail (th2:=th) h1 (hB.le (by omega)) hbs hno (by omega) λw3 e3 S3 h3 hb3 hp3=> ?_
  rw[hRR,hf]
  by_cases hc:b.length<s.man.size∨th=false
  .rw [if_pos hc]at h3⊢
   obtain⟨ha,hb'⟩:=aLB .. ▸h3
   rw[ha,hb']
   exact⟨_,rfl,hb3,hno,bY.step x1' (λ_ h=> .inl h) (λ_ h=>h) (λ_ h=> .inl h) hp3⟩
  .rw [if_neg hc]at h3⊢
   obtain⟨ha,hb'⟩:=aLB .. ▸h3
   rw[ha,hb']
   exact⟨_,rfl,hb3,hno,bY.step x1' (λ_ h=> .inl h) (λ_ h=>h) (λ_ h=> .inl h) hp3⟩
theorem Tj{P:Program}{f:FuncId}{fn:Func}(hf:P.funcs[f]?=some fn)(hb:fn.body.isSome=true)(hn:(fn.name== "runtime.NumGoroutine")=false)(first cap:Array aLX)(args:List aLX)(w:aLW):
 (Ac (.func (.func f) first cap) args).run P w= .ok (.enter f (first++args.toArray++cap)) w:=by
 unfold Ac Deferred.ofValue
 simp only[pure_bind,invoke]
 exact Na hf hb hn _ _
theorem aAn{fs:List aLX}{b c:Nat}{w:aLW}(J:Nat->aLW->Prop)(E:Int->aLW->Prop)(hl:fs.length<=100)(h0:J 0 w)(ho:∀i w',J i w'->bD w' b fs)
 (hs:∀i w' f,fs[i]?=some f->J i w'->abO pg ((Ac f []).run pg w') (λr w''=>∃e:Int,r= .int .i64 e/\(if e=0 then J (i+1) w'' else E e w''))):
 aG pg Am #[.slice (some ⟨b,0,none⟩) fs.length c] w (λr w'=>∃e:Int,r= .int .i64 e/\(if e=0 then J fs.length w' else E e w')):=by
 refine Z6 ?_
 obtain⟨RR,hRR⟩:∃RR:aLX->aLW->Prop,RR=λr w'=>∃e:Int,r= .int .i64 e/\(if e=0 then J fs.length w' else E e w'):=⟨_,rfl⟩
 rw[<-hRR]
 unfold abQ SW SV Jq Jp SU Df
 simp(disch:=omega)only[seval]
 refine bM.rule (λm (t:aLX) w'=>∃i:Nat,m=fs.length-i/\i<=fs.length/\t= .int .i64 (i:Nat)/\J i w') fs.length ⟨0,rfl,by omega,rfl,h0⟩ ?_
 rintro m t w1 ⟨i,rfl,hi,rfl,hJ⟩
 unfold Jo
 by_cases hlt:i<fs.length
 .have d1:decide ((i:Int)<(fs.length:Int))=true:=by simp;omega
  have c1:=(ho _ _ hJ).cell (off:=i)
  rw[aJA hlt]at c1
  have hss:=hs i w1 fs[i] (aJA hlt) hJ
  simp(disch:=omega)only[seval,d1,c1]
  have mono:∀{r:Result Next} {K K':aLX->aLW->Prop},abO pg r K->(∀v w,K v w->K' v w)->abO pg r K':=λ{r K K'} h hk=>by
   unfold abO at*
   split at h
   .exact hk _ _ h
   .exact hk _ _ h
   .exact h.mono hk
   .obtain ⟨v,w',h1,h2⟩:=h
    exact⟨v,w',h1,hk _ _ h2⟩
   .exact h
  refine mono hss ?_
  rintro r w2 ⟨e,rfl,he⟩
  by_cases h0':e=0
  .subst h0'
   rw[if_pos rfl]at he
   have n1:((0:Int) !=0)=false:=rfl
   simp(disch:=omega)only[seval,n1]
   exact⟨fs.length-(i+1),by omega,i+1,rfl,by omega,rfl,he⟩
  .have n1:(e !=0)=true:=bne_iff_ne.2 h0'
   rw[if_neg h0']at he
   simp(disch:=omega)only[seval,n1]
   rw[hRR]
   exact⟨e,rfl,by rw[if_neg h0'];exact he⟩
 .have d1:decide ((i:Int)<(fs.length:Int))=false:=by simp;omega
  obtain rfl:i=fs.length:=by omega
  unfold Jn
  simp(disch:=omega)only[seval,d1]
  rw[hRR]
  exact⟨0,rfl,by rw[if_pos rfl];exact hJ⟩
theorem aDZ{n:Nat}{S:cF}{s:eQ}{k v:Nat}(h:Gt (n+1) S):Gt n (bZ aY S s k v).1:=by
 have:=awV (k:=cY s.nm) (a:=s.log) (l:=mN aY k v) h
 unfold bZ
 simp only
 split
 .exact this
 .exact this
theorem bY.keep {n0:Nat}{w w':aLW}{q p b:Nat}{X D Y:Nat->Prop}{S:cF}{s:eQ}{cs:List aLX}(h:bY n0 w q p X D Y S s w')(o:bD w b cs)(hb:¬(X b∨Y b)):bD w' b cs:=by
 obtain⟨_,_,_,_,_,_,_,_,_,x⟩:=h
 exact o.ext x hb
theorem bY.andThen {n0:Nat}{w w1 w2:aLW}{q p:Nat}{X D Y:Nat->Prop}{S1 S2:cF}{s1 s2:eQ}(h:bY n0 w q p X D Y S1 s1 w1)(h2:∀{X' D' Y' lv hv},eA n0 w1 q p X' D' Y' S1 s1 lv hv->bY n0 w1 q p X' D' Y' S2 s2 w2):bY n0 w q p X D Y S2 s2 w2:=by
 obtain⟨X',D',Y',lv,hv,h1,hX,hD,hY,x⟩:=h
 exact bY.step x hX hD hY (h2 h1)
theorem arD{n0 q p:Nat}{X D Y:Nat->Prop}{S:cF}{s:eQ}{w w1:aLW}(h:bY n0 w q p X D Y S s w1)(hB:Gt 0 S):
 aG pg dQ #[dP p] w1 (λr w2=>r= .int .i64 (Ad S).2/\bY n0 w q p X D Y (Ad S).1 s w2):=by
 obtain⟨X',D',Y',lv,hv,h1,hX,hD,hY,x⟩:=h
 refine(aHj h1.dsk hB.bd).mono ?_
 rintro r w2 ⟨rfl,hp⟩
 obtain⟨X2,D2,h2,hX2,hD2,x2⟩:=h1.disk hp
 exact⟨rfl,bY.step x hX hD hY ⟨X2,D2,Y',_,_,h2,hX2,hD2,λ_ h=> .inl h,x2.mono λ_ _ h=> .inl h⟩⟩
theorem NA{S:cF}{s:eQ}{k v:Nat}:(bZ aY S s k v).2.1.hv=s.hv/\(bZ aY S s k v).2.1.man=s.man/\(bZ aY S s k v).2.1.nm=s.nm/\(bZ aY S s k v).2.1.epoch=s.epoch:=by
 unfold bZ
 simp only
 split<;>exact⟨rfl,rfl,rfl,rfl⟩
theorem asF{S:cF}{s:eQ}{i:Nat}{b:List UInt8}:(fA aY S s i b).2.1.hv=s.hv:=by
 unfold fA
 simp only
 split
 .rfl
 .split
  .rfl
  .split
   .exact NA.1
   .exact NA.1
theorem eA.setHv {n0:Nat}{w:aLW}{q p:Nat}{X D Y:Nat->Prop}{S:cF}{s:eQ}{lv hv:aLX}(h:eA n0 w q p X D Y S s lv hv){i:Nat}(hi:i<s.hv.length):
 ∃hb c rest,hv= .slice (some ⟨hb,0,none⟩) s.hv.length c/\Y hb/\hb≠q/\bD w hb (s.hv.map Value.bool++rest)/\∀{w':aLW} {z:Bool},bD w' hb ((s.hv.map Value.bool++rest).set i (.bool z))->aL w w' (λy=>y=hb)->eA n0 w' q p X D Y S {s with hv:=s.hv.set i z} lv hv:=by
 rcases h.hv.2 with⟨_,h0⟩|⟨hb,c,rest,hhv,⟨hbY,hbq⟩,o,ol,oc⟩
 .omega
 refine⟨hb,c,rest,hhv,hbY,hbq,o,λ{w' z} o' x=> ?_⟩
 have hg:=h.g0
 have hn:=h.lo hb (.inr hbY)
 have hd:=h.yd hb hbY
 refine⟨h.glob.extM x (by omega) (by omega),h.g0,h.lo,aKZ h.hi x.size,h.dsk.ext x λb hb=>hb▸hd,h.yq,h.yd,h.own.ext x (λe=>hbq e.symm),h.man,h.lv.keep (x.mono λb _ hb=> .inr (hb▸hbY)) λb hb=> .inl hb, ?_,h.ep,h.lg, ?_,h.nl⟩
 .refine ⟨by rw[aJy];simp,.inr ⟨hb,c,rest, ?_,⟨hbY,hbq⟩, ?_, ?_, ?_⟩⟩
  .rw [hhv];simp
  .rw [aK6 _ _ (by rw[aJy];exact hi)]at o'
   rw[aKR];exact o'
  .rw [aJB,aJy]at ol⊢
   rw[aKn];exact ol
  .rw [aKn];exact oc
 .show (s.hv.set i z).length<=1024
  rw[aKn];exact h.hl
theorem aBO{n0 q p i s3 i4 b5 a7:Nat}{X D Y:Nat->Prop}{S:cF}{s:eQ}{lv hv bv:aLX}{b:List UInt8}{w:aLW}{RR:aLX->aLW->Prop}(h:eA n0 w q p X D Y S s lv hv)(hB:Gt 2 S)(hi:i<s.hv.length)(hb:Bs w bv b)(hbl:b.length<=1000000)
 (hbn:¬fI bv (λy=>X y∨Y y)) (hlg:s.log+13<=1000000000) (hpi:s.man.part*i<=1000000000) (o3:bD w s3 [dP q]) (o4:bD w i4 [.int .i64 (i:Nat)]) (o5:bD w b5 [bv]) (o7:bD w a7 [.int .u64 ((s.man.part*i:Nat):Int)])
 (m3:¬(X s3∨Y s3)) (m4:¬(X i4∨Y i4)) (m5:¬(X b5∨Y b5)) (m7:¬(X a7∨Y a7))
 (hR:∀w',bY n0 w q p X D Y (fA aY S s i b).1 {(fA aY S s i b).2.1 with err:=(fA aY S s i b).2.2,hv:=(fA aY S s i b).2.1.hv.set i ((fA aY S s i b).2.2==0)} w'->RR (.int .i64 (fA aY S s i b).2.2) w'):
 nC RR (.pointer (some ⟨s3,0,none⟩)) (.pointer (some ⟨i4,0,none⟩)) (.pointer (some ⟨b5,0,none⟩)) (.pointer (some ⟨a7,0,none⟩)) w:=by
 unfold nC
 have hd:=h.new (aL.dr w aT)
 obtain⟨c0,c1,c2,c3,c4,c5,c6,c7,c8,c9⟩:=hd.cells
 have k3:=(dB o3).cell (off:=0)
 simp only[aJz]at k3
 have f1:=λw=>RQ (P:=pg) (f:=lL) [] [.pointer (some ⟨s3,0,none⟩),.pointer (some ⟨a7,0,none⟩),.pointer (some ⟨b5,0,none⟩)] w
 have f2:=λw=>RQ (P:=pg) (f:=dQ) [dP p] [] w
 have f3:=λw=>RQ (P:=pg) (f:=lM) [] [.pointer (some ⟨s3,0,none⟩),.pointer (some ⟨i4,0,none⟩)] w
 simp(disch:=omega)only[seval,k3,c0,f1,f2,f3]
 obtain⟨fs,hfs⟩:∃fs:List aLX,fs=[.func (.func lL) #[] #[.pointer (some ⟨s3,0,none⟩),.pointer (some ⟨a7,0,none⟩),.pointer (some ⟨b5,0,none⟩)],.func (.func dQ) #[dP p] #[],.func (.func lM) #[] #[.pointer (some ⟨s3,0,none⟩),.pointer (some ⟨i4,0,none⟩)],.func (.func dQ) #[dP p] #[]]:=⟨_,rfl⟩
 refine Cr (cells:=fs.toArray) (by decide) (by decide) (by rw[hfs];kernel_rfl) λw1 o1 x1 s1=> ?_
 have o1:bD w1 (dr w).heap.size fs:=o1
 obtain⟨bb,hbb⟩:∃bb,bb=(dr w).heap.size:=⟨_,rfl⟩
 rw[<-hbb]at o1⊢
 have hw0:bb=w.heap.size:=hbb
 have x01:aL w w1 aT:=(aL.dr w _).seq x1
 have h1:=h.new x01
 have mb:¬(X bb∨Y bb):=λhx=>by have:=eA.lt h bb hx;omega
 have o3:=o3.ext x01 (λh=>h)
 have o4:=o4.ext x01 (λh=>h)
 have o5:=o5.ext x01 (λh=>h)
 have o7:=o7.ext x01 (λh=>h)
 have hb1:=hb.ext x01 (bC _)
 obtain⟨A1,hA1⟩:∃A1,A1=yL S (aZ s.nm) (s.man.part*i:Nat) b:=⟨_,rfl⟩
 have hB1:Gt 1 A1.1:=hA1▸awV hB
 obtain⟨A2,hA2⟩:∃A2,A2=Ad A1.1:=⟨_,rfl⟩
 have hB2:Gt 1 A2.1:=hA2▸aGo hB1
 obtain⟨A3,hA3⟩:∃A3,A3=bZ aY A2.1 s 2 i:=⟨_,rfl⟩
 have hB3:Gt 0 A3.1:=hA3▸aDZ hB2
 obtain⟨A4,hA4⟩:∃A4,A4=Ad A3.1:=⟨_,rfl⟩
 have hch:fA aY S s i b=if A1.2≠0 then(A1.1,s,A1.2)else if A2.2≠0 then(A2.1,s,A2.2)else if A3.2.2≠0 then(A3.1,A3.2.1,A3.2.2)else(A4.1,A3.2.1,A4.2):=by
  unfold fA
  simp only[<-hA1,<-hA2,<-hA3,<-hA4]
 obtain⟨C,hC⟩:∃C,C=fA aY S s i b:=⟨_,rfl⟩
 rw[<-hC]at hch hR
 let J:Nat->aLW->Prop:=λk w'=>match k with
  |0=>bY n0 w1 q p X D Y S s w'
  |1=>A1.2=0/\bY n0 w1 q p X D Y A1.1 s w'
  |2=>A1.2=0/\A2.2=0/\bY n0 w1 q p X D Y A2.1 s w'
  |3=>A1.2=0/\A2.2=0/\A3.2.2=0/\bY n0 w1 q p X D Y A3.1 A3.2.1 w'
  |_=>C.2.2=0/\bY n0 w1 q p X D Y C.1 C.2.1 w'
 let E:Int->aLW->Prop:=λe w'=>C.2.2=e/\bY n0 w1 q p X D Y C.1 C.2.1 w'
 have hJown:∀k w',J k w'->∃S' s',bY n0 w1 q p X D Y S' s' w':=λk w' hk=>by
  match k,hk with
  |0,hk=>exact⟨_,_,hk⟩
  |1,hk=>exact⟨_,_,hk.2⟩
  |2,hk=>exact⟨_,_,hk.2.2⟩
  |3,hk=>exact⟨_,_,hk.2.2.2⟩
  |n+4,hk=>exact⟨_,_,hk.2⟩
 have hmain:=aAn (fs:=fs) (b:=bb) (c:=4) (w:=w1) J E (by rw[hfs];simp) (bY.refl h1) (λk w' hk=>by
  obtain⟨_,_,hp⟩:=hJown k w' hk
  exact hp.keep o1 mb) ?hs
 case hs=>
  intro k w' f hf hk
  rw[hfs]at hf
  match k,hf,hk with
  |0,hf,hk=>
   simp only[aJz,aJ8]at hf
   rw[<-hf,Tj Tryz.func45 (by kernel_rfl) (by kernel_rfl)]
   show aG pg lL #[.pointer (some ⟨s3,0,none⟩),.pointer (some ⟨a7,0,none⟩),.pointer (some ⟨b5,0,none⟩)] w' _
   have hk:bY n0 w1 q p X D Y S s w':=hk
   refine OE ?_
   unfold Kl FO
   have e3:=(dB (hk.keep o3 m3)).cell (off:=0)
   have e7:=(dB (hk.keep o7 m7)).cell (off:=0)
   have e5:=(dB (hk.keep o5 m5)).cell (off:=0)
   simp only[aJz]at e3 e7 e5
   obtain⟨X',D',Y',lv',hv',g1,hX,hD,hY,gx⟩:=hk
   have g1d:=g1.new (aL.dr w' aT)
   obtain⟨d0,d1,d2,d3,d4,d5,d6,d7,d8,d9⟩:=g1d.cells
   have ct:=LP h.nl
   have ew:IntKind.i64.wrap ((s.man.part*i:Nat):Int)=((s.man.part*i:Nat):Int):=dI (by omega) (by omega)
   have hbw:Bs (dr w') bv b:=(hb1.ext gx hbn).ext (aL.dr _ aT) (bC _)
   generalize s.man.part*i=at' at*
   obtain⟨ba,bc,rfl,_⟩:=hbw.len
   simp(disch:=omega)only[seval,e3,e7,e5,d0,d1,ct,ew]
   refine(Wq (name:=aZ s.nm) (a:=(at':Nat)) g1d.dsk hB.bd hbw (by omega) (by omega) (by omega)).mono ?_
   rintro r w2 ⟨rfl,hp⟩
   obtain⟨X2,D2,g2,hX2,hD2,gx2⟩:=g1d.disk hp
   rw[<-hA1]at g2⊢
   have hpost:bY n0 w1 q p X D Y A1.1 s w2:=bY.step (gx.seq (aL.dr _ _)) hX hD hY ⟨X2,D2,Y',_,_,g2,hX2,hD2,λ_ h=> .inl h,gx2.mono λ_ _ h=> .inl h⟩
   refine⟨_,rfl, ?_⟩
   split
   .rename_i he;exact⟨he,hpost⟩
   .rename_i he
    rw[if_pos he]at hch
    show C.2.2=_/\bY n0 w1 q p X D Y C.1 C.2.1 w2
    rw[hch]
    exact⟨rfl,hpost⟩
  |1,hf,hk=>
   simp only[aJz,aJF,aJ8]at hf
   rw[<-hf,Tj Tryz.func42 (by kernel_rfl) (by kernel_rfl)]
   show aG pg dQ #[dP p] w' _
   have hk:A1.2=0/\bY n0 w1 q p X D Y A1.1 s w':=hk
   refine(arD hk.2 (hB1.le (by omega))).mono ?_
   rintro r w2 ⟨rfl,hp⟩
   rw[<-hA2]at hp⊢
   refine⟨_,rfl, ?_⟩
   split
   .rename_i he;exact⟨hk.1,he,hp⟩
   .rename_i he
    rw[if_neg (by rw[hk.1];decide),if_pos he]at hch
    show C.2.2=_/\bY n0 w1 q p X D Y C.1 C.2.1 w2
    rw[hch]
    exact⟨rfl,hp⟩
  |2,hf,hk=>
   simp only[aJz,aJF,aJ8]at hf
   rw[<-hf,Tj Tryz.func46 (by kernel_rfl) (by kernel_rfl)]
   show aG pg lM #[.pointer (some ⟨s3,0,none⟩),.pointer (some ⟨i4,0,none⟩)] w' _
   have hk:A1.2=0/\A2.2=0/\bY n0 w1 q p X D Y A2.1 s w':=hk
   refine OF ?_
   unfold Km FP
   have e3:=(hk.2.2.keep o3 m3).cell (off:=0)
   have e4:=(hk.2.2.keep o4 m4).cell (off:=0)
   simp only[aJz]at e3 e4
   have hi':=h.hl
   have ew:IntKind.u64.wrap (i:Int)=(i:Int):=hU (by omega) (by omega)
   simp(disch:=omega)only[seval,e3,e4,ew]
   obtain⟨X',D',Y',lv',hv',g1,hX,hD,hY,gx⟩:=hk.2.2
   refine(auY (k:=2) (v:=i) g1 hB2 (.inr rfl) (by omega) hlg).mono ?_
   rintro r w2 ⟨rfl,hp⟩
   rw[<-hA3]at hp⊢
   have hpost:=bY.step gx hX hD hY hp
   refine⟨_,rfl, ?_⟩
   split
   .rename_i he;exact⟨hk.1,hk.2.1,he,hpost⟩
   .rename_i he
    rw[if_neg (by rw[hk.1];decide),if_neg (by rw[hk.2.1];decide),if_pos he]at hch
    show C.2.2=_/\bY n0 w1 q p X D Y C.1 C.2.1 w2
    rw[hch]
    exact⟨rfl,hpost⟩
  |3,hf,hk=>
   simp only[aJz,aJF,aJ8]at hf
   rw[<-hf,Tj Tryz.func42 (by kernel_rfl) (by kernel_rfl)]
   show aG pg dQ #[dP p] w' _
   have hk:A1.2=0/\A2.2=0/\A3.2.2=0/\bY n0 w1 q p X D Y A3.1 A3.2.1 w':=hk
   refine(arD hk.2.2.2 hB3).mono ?_
   rintro r w2 ⟨rfl,hp⟩
   rw[<-hA4]at hp⊢
   rw[if_neg (by rw[hk.1];decide),if_neg (by rw[hk.2.1];decide),if_neg (by rw[hk.2.2.1];decide)]at hch
   refine⟨_,rfl, ?_⟩
   have hE:C.2.2=A4.2/\bY n0 w1 q p X D Y C.1 C.2.1 w2:=by rw[hch];exact⟨rfl,hp⟩
   split
   .rename_i he;exact⟨hE.1.trans he,hE.2⟩
   .exact hE
  |n+4,hf,hk=>simp at hf
 rw[show fs.length=4 from by rw[hfs]<;>rfl]at hmain
 have k3':=(o3).cell (off:=0)
 simp only[aJz]at k3'
 simp(disch:=omega)only[seval,k3']
 refine hmain.mono ?_
 rintro r w2 ⟨e,rfl,he⟩
 have hfin:C.2.2=e/\bY n0 w1 q p X D Y C.1 C.2.1 w2:=by
  split at he
  .rename_i h0;rw[h0];exact he
  .exact he
 clear he hmain
 obtain⟨rfl,hp⟩:=hfin
 have q3:=(hp.keep o3 m3).cell (off:=0)
 simp only[aJz]at q3
 obtain⟨X2,D2,Y2,lv2,hv2,h2,hX2,hD2,hY2,x2⟩:=id hp
 have hChv:C.2.1.hv=s.hv:=by rw[hC];exact asF
 have l1:w.heap.size<=w1.heap.size:=x01.size
 have notin:∀{y:Nat},y<w1.heap.size->¬(X y∨Y y)->¬(X2 y∨Y2 y):=λ{y} hy hn h=>by
  rcases h with h|h
  .rcases hX2 y h with h|h
   .exact hn (.inl h)
   .omega
  .rcases hY2 y h with h|h
   .exact hn (.inr h)
   .omega
 simp(disch:=omega)only[seval,q3]
 refine tO h2.own rfl (by simp) λw3 q3' x3 zz3=> ?_
 have h3:=h2.set (s':={C.2.1 with err:=C.2.2}) x3 q3' rfl rfl rfl h2.ep h2.lg
 have x3Y:aL w2 w3 (λb=>X2 b∨Y2 b):=x3.mono λy _ hy=> .inr (hy▸h2.yq)
 have h3d:=h3.new (aL.dr w3 aT)
 obtain⟨d0,d1,d2,d3,d4,d5,d6,d7,d8,d9⟩:=h3d.cells
 obtain⟨hb,c,rest,hhv,hbY,hbq,oh,hset⟩:=h3d.setHv (i:=i) (by show i<C.2.1.hv.length;rw[hChv];exact hi)
 have hlen:({C.2.1 with err:=C.2.2}:eQ).hv.length=s.hv.length:=by show C.2.1.hv.length=_;rw[hChv]
 rw[hlen]at hhv
 subst hhv
 have e3:w3.cell? ⟨s3,0,none⟩=some (dP q):=(((hp.keep o3 m3).ext x3Y (notin o3.lt m3))).cell (off:=0)
 have e4:w3.cell? ⟨i4,0,none⟩=some (.int .i64 (i:Nat)):=(((hp.keep o4 m4).ext x3Y (notin o4.lt m4))).cell (off:=0)
 have e3d:(dr w3).cell? ⟨s3,0,none⟩=some (dP q):=e3
 have e4d:(dr w3).cell? ⟨i4,0,none⟩=some (.int .i64 (i:Nat)):=e4
 simp(disch:=omega)only[seval,e3d,e4d,d6,d9]
 refine tP oh rfl (by rw[aJB,aJy,hlen];omega) λw4 o4' x4 zz4=> ?_
 have h4:=hset o4' x4
 obtain⟨g0,g1,g2,g3,g4,g5,g6,g7,g8,g9⟩:=h4.cells
 have e34:w4.cell? ⟨s3,0,none⟩=some (dP q):=by
  have hk:=((dB ((hp.keep o3 m3).ext x3Y (notin o3.lt m3))).ext x4 (λe=>(notin o3.lt m3) (.inr (e▸hbY))))
  exact hk.cell (off:=0)
 simp(disch:=omega)only[seval,e34,g9]
 refine hR w4 (bY.step (x01.mono λ_ _ h=>h.elim) (λ_ h=> .inl h) (λ_ h=>h) (λ_ h=> .inl h) ⟨X2,D2,Y2,_,_,h4,hX2,hD2,hY2, ?_⟩)
 refine(x2.trans x3Y λy hy h=> ?_).trans ((aL.dr w3 _).seq x4) λy hy h=> ?_
 .rcases h with h|h
  .rcases hX2 y h with h|h
   .exact .inl h
   .omega
  .rcases hY2 y h with h|h
   .exact .inr h
   .omega
 .rcases hY2 y (h▸hbY)with h|h
  .exact .inr h
  .omega
theorem aEl{n0 q p:Nat}{i:Int}{X D Y:Nat->Prop}{S:cF}{s:eQ}{lv hv bv:aLX}{b:List UInt8}{w:aLW}(h:eA n0 w q p X D Y S s lv hv)(hB:Gt 2 S)(hlen:s.hv.length=s.man.leaves.length)(hb:Bs w bv b)(hbl:b.length<=1000000)
 (hbn:¬fI bv (λy=>X y∨Y y)) (hlg:s.log+13<=1000000000) (hi64: -9223372036854775808<=i/\i<=9223372036854775807):
 aG pg eD #[dP q,.int .i64 i,bv] w (λr w'=>r= .int .i64 (xK aX aY S s i b).2.2/\bY n0 w q p X D Y (xK aX aY S s i b).1 (xK aX aY S s i b).2.1 w'):=by
 refine SS ?_
 obtain⟨RR,hRR⟩:∃RR:aLX->aLW->Prop,RR=λr w'=>r= .int .i64 (xK aX aY S s i b).2.2/\bY n0 w q p X D Y (xK aX aY S s i b).1 (xK aX aY S s i b).2.1 w':=⟨_,rfl⟩
 rw[<-hRR]
 unfold Pn Ji Jh
 refine cA λw1 o1 x1 s1=> ?_
 refine cA λw2 o2 x2 s2=> ?_
 refine cA λw3 o3 x3 s3=> ?_
 have hlt0:=λy hy=>eA.lt h y hy
 generalize hn:w.heap.size=n at*
 rw[s1]at o2
 rw[show w2.heap.size=n+2 from by omega]at o3⊢
 rw[s1]
 have o1:bD w3 n [dP q]:=((bD.ext (cs:=[dP q]) o1 x2 (λh=>h)).ext x3 (λh=>h))
 have o2:bD w3 (n+1) [.int .i64 i]:=bD.ext (cs:=[.int .i64 i]) o2 x3 (λh=>h)
 have o3:bD w3 (n+2) [bv]:=by
  obtain⟨ba,bc,rfl,_⟩:=hb.len
  exact o3
 have x03:aL w w3 aT:=(x1.seq x2).seq x3
 have h3:=h.new x03
 have hb3:=hb.ext x03 (bC _)
 have z3:w3.heap.size=n+3:=by omega
 clear x1 x2 x3
 have c1:=o1.cell (off:=0)
 have c2:=o2.cell (off:=0)
 have c3:=o3.cell (off:=0)
 simp only[aJz]at c1 c2 c3
 have x03':aL w w3 (λy=>X y∨Y y):=x03.mono λ_ _ h=>h.elim
 have stay:∀{w':aLW} {e:Int},aL w3 w' aT->xK aX aY S s i b=(S,s,e)->RR (.int .i64 e) w':=λ{w' e} x he=>by
  rw[hRR,he]
  exact⟨rfl,bY.step x03' (λ_ h=> .inl h) (λ_ h=>h) (λ_ h=> .inl h) (bY.step (x.mono λ_ _ h=>h.elim) (λ_ h=> .inl h) (λ_ h=>h) (λ_ h=> .inl h) (bY.refl (h3.new x)))⟩
 simp(disch:=omega)only[seval,c1]
 refine(Yu h3).mono ?_
 rintro r w4 ⟨rfl,hw⟩
 rw[hw];clear hw w4
 by_cases he:s.err=0
 rotate_left
 .have n1:(s.err !=0)=true:=bne_iff_ne.2 he
  simp(disch:=omega)only[seval,n1,c1]
  refine(Yu h3).mono ?_
  rintro r w4 ⟨rfl,hw⟩
  rw[hw];clear hw w4
  exact stay (aL.refl _ _) (by unfold xK;rw[if_pos he])
 have n1:(s.err !=0)=false:=bne_eq_false_iff_eq.2 he
 have P1:xK aX aY S s i b=if i<0∨(s.hv.length:Int)<=i then(S,s,17)else if s.fin||s.hv.getD i.toNat false then(S,s,0)else if vH aX s.man i.toNat b=false then(S,s,13)else((fA aY S s i.toNat b).1,{(fA aY S s i.toNat b).2.1 with err:=(fA aY S s i.toNat b).2.2,hv:=(fA aY S s i.toNat b).2.1.hv.set i.toNat ((fA aY S s i.toNat b).2.2==0)},(fA aY S s i.toNat b).2.2):=by
  unfold xK
  rw[if_neg (by rw[he];decide)]
 have h3d:=h3.new (aL.dr w3 aT)
 obtain⟨d0,d1,d2,d3,d4,d5,d6,d7,d8,d9⟩:=h3d.cells
 obtain⟨ha,hc,hhv⟩:=xC h3.hv
 rw[hhv]at d6
 have c1d:(dr w3).cell? ⟨n,0,none⟩=some (dP q):=c1
 have c2d:(dr w3).cell? ⟨n+1,0,none⟩=some (.int .i64 i):=c2
 have hx1:aL w3 (dr w3) aT:=aL.dr _ _
 by_cases hneg:i<0
 .have q1:decide (i<0)=true:=decide_eq_true hneg
  rw[if_pos (.inl hneg)]at P1
  simp(disch:=omega)only[seval,n1,c2d,q1]
  exact stay hx1 P1
 have q1:decide (i<0)=false:=decide_eq_false hneg
 obtain⟨j,rfl⟩:∃j:Nat,i=j:=⟨i.toNat,by omega⟩
 rw[aJE]at P1
 by_cases hge:s.hv.length<=j
 .have q2:decide (((s.hv.length:Nat):Int)<=(j:Int))=true:=by simp;omega
  rw[if_pos (.inr (by omega))]at P1
  simp(disch:=omega)only[seval,n1,c2d,q1,c1d,d6,q2]
  exact stay hx1 P1
 have q2:decide (((s.hv.length:Nat):Int)<=(j:Int))=false:=by simp;omega
 rw[if_neg (by omega)]at P1
 have hj:j<s.hv.length:=by omega
 have hx2:aL w3 (dr (dr w3)) aT:=hx1.seq (aL.dr _ _)
 have h3e:=h3.new hx2
 obtain⟨e0,e1,e2,e3,e4,e5,e6,e7,e8,e9⟩:=h3e.cells
 rw[hhv]at e6
 have c1e:(dr (dr w3)).cell? ⟨n,0,none⟩=some (dP q):=c1
 have c2e:(dr (dr w3)).cell? ⟨n+1,0,none⟩=some (.int .i64 (j:Nat)):=c2
 have c3e:(dr (dr w3)).cell? ⟨n+2,0,none⟩=some bv:=c3
 cases hfin:s.fin with
 |true=>
  rw[hfin]at e8 P1
  rw[Bool.true_or,if_pos rfl]at P1
  simp(disch:=omega)only[seval,n1,c2d,q1,c1d,d6,q2,c1e,e8]
  exact stay hx2 P1
 |false=>
  rw[hfin]at e8 P1
  rw[aLe]at P1
  obtain⟨sa,so,sc,hsv,hcell⟩:=avY (show Sl (dr (dr w3)) hv (s.hv.map Value.bool)from Vs h3e.hv) hj
  rw[hhv]at hsv
  cases hsv
  cases hvj:s.hv.getD j false with
  |true=>
   rw[hvj]at hcell P1
   rw[if_pos rfl]at P1
   simp(disch:=omega)only[seval,n1,c2d,q1,c1d,d6,q2,c1e,e8,e6,c2e,hcell]
   exact stay hx2 P1
  |false=>
   rw[hvj]at hcell P1
   rw[if_neg (by decide)]at P1
   simp(disch:=omega)only[seval,n1,c2d,q1,c1d,d6,q2,c1e,e8,e6,c2e,hcell,c3e]
   refine(aA4 h3e (by omega) (hb3.ext hx2 (bC _)) hbl).mono ?_
   rintro r w4 ⟨rfl,x4⟩
   cases hwh:vH aX s.man j b with
   |false=>
    rw[hwh]at P1
    rw[if_pos rfl]at P1
    simp(disch:=omega)only[seval]
    exact stay (hx2.seq x4) P1
   |true=>
    rw[hwh]at P1
    rw[if_neg (by decide)]at P1
    have x34:=hx2.seq x4
    have h4:=h3.new x34
    have hm:=h.man
    have hm1:=hm.cnt
    have hm2:=hm.max
    have hm3:=hm.part
    have hm4:=hm.size
    have hpj:s.man.part*j<s.man.size:=(AH (by omega)).1 (by omega)
    have o14:=o1.ext x34 (λh=>h)
    have o24:=o2.ext x34 (λh=>h)
    have o34:=o3.ext x34 (λh=>h)
    have z4:=x34.size
    have ew:IntKind.i64.wrap ((s.man.part:Nat):Int)=((s.man.part:Nat):Int):=dI (by omega) (by omega)
    have tail:∀{w5:aLW} {a7:Nat},aL w4 w5 aT->w4.heap.size<=a7->bD w5 a7 [.int .u64 ((s.man.part*j:Nat):Int)]->nC RR (.pointer (some ⟨n,0,none⟩)) (.pointer (some ⟨n+1,0,none⟩)) (.pointer (some ⟨n+2,0,none⟩)) (.pointer (some ⟨a7,0,none⟩)) w5:=λ{w5 a7} x ha o7=>by
     have x05:=x34.seq x
     have nin:∀y,n<=y->¬(X y∨Y y):=λy hy hm=>by have:=hlt0 y hm;omega
     refine aBO (i:=j) (h3.new x05) hB hj ((hb3.ext x34 (bC _)).ext x (bC _)) hbl hbn hlg (by omega) (o14.ext x (λh=>h)) (o24.ext x (λh=>h)) (o34.ext x (λh=>h)) o7 (nin _ (by omega)) (nin _ (by omega)) (nin _ (by omega)) (nin _ (by omega)) λw' hp=> ?_
     rw[hRR,P1]
     exact⟨rfl,bY.step (x03'.seq (x05.mono λ_ _ h=>h.elim)) (λ_ h=> .inl h) (λ_ h=>h) (λ_ h=> .inl h) hp⟩
    obtain⟨f0,f1,f2,f3,f4,f5,f6,f7,f8,f9⟩:=(h4.new (aL.dr w4 aT)).cells
    have k1:(dr w4).cell? ⟨n,0,none⟩=some (dP q):=o14.cell (off:=0)
    have k2:(dr w4).cell? ⟨n+1,0,none⟩=some (.int .i64 (j:Nat)):=o24.cell (off:=0)
    obtain⟨pj,hpj'⟩:∃pj,pj=s.man.part*j:=⟨_,rfl⟩
    rw[<-hpj']at tail
    have zd:(dr w4).heap.size=w4.heap.size:=rfl
    simp(disch:=omega)only[seval]
    refine Qs ?_ ?_
    .simp (disch:=omega)only[seval,k1,k2,f2,f3,ew]
     refine(akH (by omega) hm3.1 hm3.2 hm2 (by omega)).mono ?_
     rintro r w5 ⟨rfl,hw⟩
     rw[hw];clear hw w5
     rw[<-hpj']
     simp(disch:=omega)only[seval]
     refine amW λw5 o5 x5 s5=> ?_
     refine MM o5 rfl (by simp) λw6 o6 x6 s6=> ?_
     simp only[aJR]at o6
     exact tail (((aL.dr w4 _).seq x5).trans x6 λy hy h=>by omega) (aJK _) o6
    .simp (disch:=omega)only[seval,k1,k2,f2,f3,ew]
     refine amW λw5 o5 x5 s5=> ?_
     obtain⟨g0,g1,g2,g3,g4,g5,g6,g7,g8,g9⟩:=(h4.new ((aL.dr w4 aT).seq x5)).cells
     have k1':w5.cell? ⟨n,0,none⟩=some (dP q):=(o14.ext ((aL.dr w4 aT).seq x5) (λh=>h)).cell (off:=0)
     have k2':w5.cell? ⟨n+1,0,none⟩=some (.int .i64 (j:Nat)):=(o24.ext ((aL.dr w4 aT).seq x5) (λh=>h)).cell (off:=0)
     simp(disch:=omega)only[seval,k1',k2',g2,g3,ew]
     refine(akH (by omega) hm3.1 hm3.2 hm2 (by omega)).mono ?_
     rintro r w6 ⟨rfl,hw⟩
     rw[hw];clear hw w6
     rw[<-hpj']
     simp(disch:=omega)only[seval]
     refine MM o5 rfl (by simp) λw6 o6 x6 s6=> ?_
     simp only[aJR]at o6
     exact tail (((aL.dr w4 _).seq x5).trans x6 λy hy h=>by omega) (aJK _) o6
theorem eA.newHv {n0:Nat}{w w1 w2:aLW}{q p ob:Nat}{X D Y:Nat->Prop}{S:cF}{s s':eQ}{lv hv:aLX}{l:List Bool}(h:eA n0 w q p X D Y S s lv hv)(x1:aL w w1 aT)(hob:w.heap.size<=ob)(o1:bD w1 ob (l.map Value.bool))(hl:l.length<=1024)
 (x2:aL w1 w2 (λy=>y=q)) (o2:bD w2 q (stC p s' lv (.slice (some ⟨ob,0,none⟩) l.length l.length))) (hm:s'.man=s.man) (hh:s'.hv=l) (hn:s'.nm=s.nm) (he:s'.epoch<18446744073709551616) (hlg:s'.log<=1000000000):
 eA n0 w2 q p X (λb=>D b∨b=ob) (λb=>Y b∨b=ob) S s' lv (.slice (some ⟨ob,0,none⟩) l.length l.length):=by
 have hlt:=eA.lt h
 have hqY:=hlt q (.inr h.yq)
 have hq:=h.yd q h.yq
 have hqn:=h.lo q (.inr h.yq)
 have hg:=h.g0
 have hhi:=h.hi
 have hol:=o1.lt
 have z1:=x1.size
 have z2:=x2.size
 have hd1:=h.dsk.more x1 hob hol
 refine⟨(h.glob.ext x1).extM x2 (by omega) (by omega),h.g0,λb hb=> ?_,by omega,hd1.ext x2 λb hb=>⟨.inl (hb▸hq.1),hb▸hq.2⟩,.inl h.yq,λb hb=> ?_,o2,hm▸h.man, ?_, ?_,he,hlg,hh▸hl,hn▸h.nl⟩
 .rcases hb with hb|hb|hb
  .exact h.lo b (.inl hb)
  .exact h.lo b (.inr hb)
  .omega
 .rcases hb with hb|hb
  .exact ⟨.inl (h.yd b hb).1,(h.yd b hb).2⟩
  .exact ⟨.inr hb,λhx=>by have:=hlt b (.inl hx);omega⟩
 .rw [hm]
  have k1:aA8 w1 (λb=>X b∨Y b) lv s.man.leaves:=h.lv.keep (x1.mono λ_ _ h=>h.elim) λb hb=> .inl hb
  have k2:aA8 w1 (λb=>X b∨Y b∨b=ob) lv s.man.leaves:=h.lv.keep (x1.mono λ_ _ h=>h.elim) λb hb=>by
   rcases hb with hb|hb|hb
   .exact .inl (.inl hb)
   .exact .inl (.inr hb)
   .exact .inr (by omega)
  exact k2.keep (x2.mono λb _ hb=> .inr (.inl (hb▸h.yq))) λb hb=> .inl hb
 .rw [hh]
  refine⟨by rw[aJy];simp,.inr ⟨ob,l.length,[],rfl,⟨.inr rfl,by omega⟩, ?_,by simp,aJK _⟩⟩
  rw[aKb]
  exact o1.ext x2 (by omega)
theorem aCN{n0 q p:Nat}{X D Y:Nat->Prop}{S:cF}{s:eQ}{lv hv:aLX}{w:aLW}(h:eA n0 w q p X D Y S s lv hv)(hB:Gt 2 S)(hbp:∀b,bF (aZ s.nm) S.seen=some b->b.length<=1000000):
 aG pg gD #[dP q] w (λr w'=>r= .int .i64 (dU aX S s).2.2/\bY n0 w q p X D Y (dU aX S s).1 (dU aX S s).2.1 w'):=by
 refine MO ?_
 obtain⟨RR,hRR⟩:∃RR:aLX->aLW->Prop,RR=λr w'=>r= .int .i64 (dU aX S s).2.2/\bY n0 w q p X D Y (dU aX S s).1 (dU aX S s).2.1 w':=⟨_,rfl⟩
 rw[<-hRR]
 unfold Jf Dv
 refine cA λw1 o1 x1 s1=> ?_
 have hlt0:=λy hy=>eA.lt h y hy
 generalize hn:w.heap.size=n at*
 have o1:bD w1 n [dP q]:=o1
 have h1:=h.new x1
 have c1:=o1.cell (off:=0)
 simp only[aJz]at c1
 have x01:aL w w1 (λy=>X y∨Y y):=x1.mono λ_ _ h=>h.elim
 have stay:∀{w':aLW} {e:Int},aL w1 w' aT->dU aX S s=(S,s,e)->RR (.int .i64 e) w':=λ{w' e} x he=>by
  rw[hRR,he]
  exact⟨rfl,bY.step x01 (λ_ h=> .inl h) (λ_ h=>h) (λ_ h=> .inl h) (bY.step (x.mono λ_ _ h=>h.elim) (λ_ h=> .inl h) (λ_ h=>h) (λ_ h=> .inl h) (bY.refl (h1.new x)))⟩
 obtain⟨d0,d1,d2,d3,d4,d5,d6,d7,d8,d9⟩:=h1.cells
 simp(disch:=omega)only[seval,c1]
 refine(Yu h1).mono ?_
 rintro r w2 ⟨rfl,hw⟩
 rw[hw];clear hw w2
 by_cases he:s.err=0
 rotate_left
 .have n1:(s.err !=0)=true:=bne_iff_ne.2 he
  simp(disch:=omega)only[seval,n1,c1]
  refine(Yu h1).mono ?_
  rintro r w2 ⟨rfl,hw⟩
  rw[hw];clear hw w2
  exact stay (aL.refl _ _) (by unfold dU;rw[if_pos he])
 have n1:(s.err !=0)=false:=bne_eq_false_iff_eq.2 he
 cases hfin:s.fin with
 |true=>
  rw[hfin]at d8
  simp(disch:=omega)only[seval,n1,c1,d8]
  exact stay (aL.refl _ _) (by unfold dU;rw[if_neg (by rw[he];decide),hfin,if_pos rfl])
 |false=>
  rw[hfin]at d8
  have C1:dU aX S s=if yV s.hv=false then(S,s,30)else if S.down then(S,{s with err:=20},20)else match bF (aZ s.nm) S.seen with
   |none=>(S,{s with err:=21},21)
   |some b=>if yV (bQ aX s.man b)=false then(S,{s with hv:=bQ aX s.man b},13)else
    (if(JG S (aZ s.nm) s.nm).2≠0 then((JG S (aZ s.nm) s.nm).1,{s with hv:=bQ aX s.man b,err:=(JG S (aZ s.nm) s.nm).2,fin:=false},(JG S (aZ s.nm) s.nm).2)else
     ((Ad (JG S (aZ s.nm) s.nm).1).1,{s with hv:=bQ aX s.man b,err:=(Ad (JG S (aZ s.nm) s.nm).1).2,fin:=(Ad (JG S (aZ s.nm) s.nm).1).2==0},(Ad (JG S (aZ s.nm) s.nm).1).2)):=by
   unfold dU
   exact(if_neg (by rw[he];decide)).trans ((if_neg (by rw[hfin];decide)).trans rfl)
  simp(disch:=omega)only[seval,n1,c1,d8,d6]
  refine(akM (Vs h1.hv) (by have:=h.hl;omega)).mono ?_
  rintro r w2 ⟨rfl,hw⟩
  rw[hw];clear hw w2
  have hall:(!s.hv.contains false)=yV s.hv:=rfl
  rw[hall]
  cases hab:yV s.hv with
  |false=>
   rw[if_pos hab]at C1
   simp(disch:=omega)only[seval]
   exact stay (aL.refl _ _) C1
  |true=>
   rw[if_neg (by rw[hab];decide)]at C1
   have hd:=h1.new (aL.dr w1 aT)
   obtain⟨e0,e1,e2,e3,e4,e5,e6,e7,e8,e9⟩:=hd.cells
   have c1d:(dr w1).cell? ⟨n,0,none⟩=some (dP q):=c1
   have ct:=LP h.nl
   simp(disch:=omega)only[seval,c1d,e0,e1,ct]
   refine(afF (name:=aZ s.nm) hd.dsk hB.bd (λb hb=>hB.file hb)).mono ?_
   rintro r w2 ⟨hr,x2⟩
   have x12:aL w1 w2 aT:=(aL.dr w1 _).seq x2
   have h2:=h1.new x12
   have c2:w2.cell? ⟨n,0,none⟩=some (dP q):=(o1.ext x12 (λh=>h)).cell (off:=0)
   have x02:aL w w2 (λy=>X y∨Y y):=x01.seq (x12.mono λ_ _ h=>h.elim)
   have bad:∀{e:Int},dU aX S s=(S,{s with err:=e},e)->aA pg (aF 31 (.pointer (some ⟨q,9,none⟩)) (.int .i64 e)) w2 λ_u w=>RR (.int .i64 e) w:=λ{e} hC=>by
    refine tO h2.own rfl (by simp) λw3 o3 x3 z3=> ?_
    have h3:=h2.set (s':={s with err:=e}) x3 o3 rfl rfl rfl h.ep h.lg
    rw[hRR,hC]
    exact⟨rfl,bY.step x02 (λ_ h=> .inl h) (λ_ h=>h) (λ_ h=> .inl h) ⟨X,D,Y,_,_,h3,λ_ h=> .inl h,λ_ h=>h,λ_ h=> .inl h,x3.mono λy _ hy=> .inr (hy▸h.yq)⟩⟩
   rcases hr with⟨hdn,rfl⟩|⟨hdn,hg,rfl⟩|⟨hdn,b,v,hg,rfl,ho⟩
   .rw [if_pos hdn]at C1
    have n2:((20:Int) !=0)=true:=rfl
    have:=bad C1
    simp(disch:=omega)only[seval,n2,c2]
    exact this
   .rw [if_neg (by rw[hdn];decide),hg]at C1
    have n2:((21:Int) !=0)=true:=rfl
    have:=bad C1
    simp(disch:=omega)only[seval,n2,c2]
    exact this
   rw[if_neg (by rw[hdn];decide),hg]at C1
   have C1:dU aX S s=if yV (bQ aX s.man b)=false then(S,{s with hv:=bQ aX s.man b},13)else
    (if(JG S (aZ s.nm) s.nm).2≠0 then((JG S (aZ s.nm) s.nm).1,{s with hv:=bQ aX s.man b,err:=(JG S (aZ s.nm) s.nm).2,fin:=false},(JG S (aZ s.nm) s.nm).2)else
     ((Ad (JG S (aZ s.nm) s.nm).1).1,{s with hv:=bQ aX s.man b,err:=(Ad (JG S (aZ s.nm) s.nm).1).2,fin:=(Ad (JG S (aZ s.nm) s.nm).1).2==0},(Ad (JG S (aZ s.nm) s.nm).1).2)):=C1
   have n2:((0:Int) !=0)=false:=rfl
   have h2d:=h2.new (aL.dr w2 aT)
   have c2d:(dr w2).cell? ⟨n,0,none⟩=some (dP q):=c2
   have hvb:Bs (dr w2) v b:=(show Bs w2 v b from ho.sl).ext (aL.dr w2 aT) (bC _)
   simp(disch:=omega)only[seval,n2,c2d]
   refine(akV h2d hvb (hbp b hg)).mono ?_
   rintro r w3 ⟨ob,rfl,hob,oo,x3⟩
   have x23:aL w2 w3 aT:=(aL.dr w2 _).seq x3
   have c3:w3.cell? ⟨n,0,none⟩=some (dP q):=((o1.ext x12 (λh=>h)).ext x23 (λh=>h)).cell (off:=0)
   obtain⟨W,hW⟩:∃W,W=bQ aX s.man b:=⟨_,rfl⟩
   have hWl:W.length=s.man.leaves.length:=by rw[hW];unfold bQ;simp
   rw[<-hW]at oo C1
   rw[<-hWl]
   have hob2:w2.heap.size<=ob:=hob
   have hmx:=h.man.max
   have hmc:=h.man.cnt
   simp(disch:=omega)only[seval,c3]
   refine Et ((h2.new x23).own) rfl (by simp) λw4 o4 x4 z4=> ?_
   have h4:=h2.newHv (s':={s with hv:=W}) x23 hob2 oo (by omega) x4 o4 rfl rfl rfl h.ep h.lg
   have x04:aL w w4 (λy=>X y∨Y y):=x02.seq ((x23.mono λ_ _ h=>h.elim).seq (x4.mono λy _ hy=> .inr (hy▸h.yq)))
   have nq:n≠q:=λe=>by have:=hlt0 q (.inr h.yq);omega
   have o14:=((o1.ext x12 (λh=>h)).ext x23 (λh=>h)).ext x4 (λe=>nq e)
   have c4:w4.cell? ⟨n,0,none⟩=some (dP q):=o14.cell (off:=0)
   have hz2:=(x1.seq x12).size
   have hYn:∀b,(Y b∨b=ob)->Y b∨w.heap.size<=b:=λb hb=>hb.imp id λhb=>by omega
   have hDn:∀b,D b->(D b∨b=ob):=λ_ h=> .inl h
   obtain⟨g0,g1,g2,g3,g4,g5,g6,g7,g8,g9⟩:=h4.cells
   simp(disch:=omega)only[seval,c4,g6]
   refine(akM (Vs h4.hv) (by show W.length<=_;omega)).mono ?_
   rintro r w5 ⟨rfl,hw⟩
   rw[hw];clear hw w5
   have hall:(!({s with hv:=W}:eQ).hv.contains false)=yV W:=rfl
   rw[hall]
   cases hab2:yV W with
   |false=>
    rw[if_pos hab2]at C1
    simp(disch:=omega)only[seval]
    rw[hRR,C1]
    exact⟨rfl,bY.step x04 (λ_ h=> .inl h) hDn hYn (bY.refl h4)⟩
   |true=>
    rw[if_neg (by rw[hab2];decide)]at C1
    have h4d:=h4.new (aL.dr w4 aT)
    obtain⟨f0,f1,f2,f3,f4,f5,f6,f7,f8,f9⟩:=h4d.cells
    have c4d:(dr w4).cell? ⟨n,0,none⟩=some (dP q):=c4
    have m1:=λw=>RQ (P:=pg) (f:=jD) [] [.pointer (some ⟨n,0,none⟩)] w
    have m2:=λw=>RQ (P:=pg) (f:=dQ) [dP p] [] w
    simp(disch:=omega)only[seval,c4d,f0,m1,m2]
    obtain⟨fs,hfs⟩:∃fs:List aLX,fs=[.func (.func jD) #[] #[.pointer (some ⟨n,0,none⟩)],.func (.func dQ) #[dP p] #[]]:=⟨_,rfl⟩
    refine Cr (cells:=fs.toArray) (by decide) (by decide) (by rw[hfs];kernel_rfl) λw5 o5 x5 z5=> ?_
    obtain⟨bb,hbb⟩:∃bb,bb=w4.heap.size:=⟨_,rfl⟩
    have o5:bD w5 bb fs:=by rw[hbb];exact o5
    rw[show(dr w4).heap.size=bb from hbb.symm]
    have x45:aL w4 w5 aT:=(aL.dr w4 _).seq x5
    have h5:=h4.new x45
    have o15:=o14.ext x45 (λh=>h)
    have zz4:=x4.size
    have zz5:=x45.size
    have zz23:=x23.size
    have hlt4:=λy hy=>eA.lt h4 y hy
    have mb:¬(X bb∨(Y bb∨bb=ob)):=λhx=>by have:=hlt4 bb hx;omega
    have mn:¬(X n∨(Y n∨n=ob)):=λhx=>by
     rcases hx with hx|hx|hx
     .have:=hlt0 n (.inl hx);omega
     .have:=hlt0 n (.inr hx);omega
     .have:=x12.size;omega
    obtain⟨A1,hA1⟩:∃A1,A1=JG S (aZ s.nm) s.nm:=⟨_,rfl⟩
    have hB1:Gt 1 A1.1:=hA1▸aGn hB
    obtain⟨A2,hA2⟩:∃A2,A2=Ad A1.1:=⟨_,rfl⟩
    rw[<-hA1,<-hA2]at C1
    obtain⟨s',hs'⟩:∃s':eQ,s'={s with hv:=W}:=⟨_,rfl⟩
    rw[<-hs']at h4 h5
    obtain⟨C,hC⟩:∃C:cF×Int,C=if A1.2≠0 then(A1.1,A1.2)else(A2.1,A2.2):=⟨_,rfl⟩
    have C2:dU aX S s=(C.1,{s' with err:=C.2,fin:=C.2==0},C.2):=by
     rw[C1,hC,hs']
     split
     .rename_i hne
      have:(A1.2==0)=false:=beq_eq_false_iff_ne.2 hne
      simp only[this]
     .rfl
    let J:Nat->aLW->Prop:=λk w'=>match k with
     |0=>bY n0 w5 q p X (λb=>D b∨b=ob) (λb=>Y b∨b=ob) S s' w'
     |1=>A1.2=0/\bY n0 w5 q p X (λb=>D b∨b=ob) (λb=>Y b∨b=ob) A1.1 s' w'
     |_=>C.2=0/\bY n0 w5 q p X (λb=>D b∨b=ob) (λb=>Y b∨b=ob) C.1 s' w'
    let E:Int->aLW->Prop:=λe w'=>C.2=e/\bY n0 w5 q p X (λb=>D b∨b=ob) (λb=>Y b∨b=ob) C.1 s' w'
    have hmain:=aAn (fs:=fs) (b:=bb) (c:=2) (w:=w5) J E (by rw[hfs];simp) (bY.refl h5) (λk w' hk=>by
     match k,hk with
     |0,hk=>exact bY.keep hk o5 mb
     |1,hk=>exact bY.keep hk.2 o5 mb
     |n+2,hk=>exact bY.keep hk.2 o5 mb) ?hs
    case hs=>
     intro k w' f hf hk
     rw[hfs]at hf
     match k,hf,hk with
     |0,hf,hk=>
      simp only[aJz,aJ8]at hf
      rw[<-hf,Tj Tryz.func48 (by kernel_rfl) (by kernel_rfl)]
      show aG pg jD #[.pointer (some ⟨n,0,none⟩)] w' _
      have hk:bY n0 w5 q p X (λb=>D b∨b=ob) (λb=>Y b∨b=ob) S s' w':=hk
      refine JL ?_
      unfold FM B0
      have e1:=(dB (hk.keep o15 mn)).cell (off:=0)
      simp only[aJz]at e1
      obtain⟨X',D',Y',lv',hv',g1,hX,hD,hY,gx⟩:=hk
      have g1d:=g1.new (aL.dr w' aT)
      obtain⟨k0,k1,k2,k3,k4,k5,k6,k7,k8,k9⟩:=g1d.cells
      have hnm:s'.nm=s.nm:=by rw[hs']
      rw[hnm]at k1
      simp(disch:=omega)only[seval,e1,k0,k1,ct]
      refine(aBo (old:=aZ s.nm) (name:=s.nm) g1d.dsk hB.bd).mono ?_
      rintro r w6 ⟨rfl,hp⟩
      obtain⟨X2,D2,q2,hX2,hD2,qx2⟩:=g1d.disk hp
      rw[<-hA1]at q2⊢
      have hpost:bY n0 w5 q p X (λb=>D b∨b=ob) (λb=>Y b∨b=ob) A1.1 s' w6:=bY.step (gx.seq (aL.dr _ _)) hX hD hY ⟨X2,D2,Y',_,_,q2,hX2,hD2,λ_ h=> .inl h,qx2.mono λ_ _ h=> .inl h⟩
      refine⟨_,rfl, ?_⟩
      split
      .rename_i he;exact⟨he,hpost⟩
      .rename_i he
       rw[if_pos he]at hC
       show C.2=_/\bY n0 w5 q p X (λb=>D b∨b=ob) (λb=>Y b∨b=ob) C.1 s' w6
       rw[hC]
       exact⟨rfl,hpost⟩
     |1,hf,hk=>
      simp only[aJz,aJF,aJ8]at hf
      rw[<-hf,Tj Tryz.func42 (by kernel_rfl) (by kernel_rfl)]
      show aG pg dQ #[dP p] w' _
      have hk:A1.2=0/\bY n0 w5 q p X (λb=>D b∨b=ob) (λb=>Y b∨b=ob) A1.1 s' w':=hk
      refine(arD hk.2 (hB1.le (by omega))).mono ?_
      rintro r w6 ⟨rfl,hp⟩
      rw[<-hA2]at hp⊢
      rw[if_neg (by rw[hk.1];decide)]at hC
      have hE:C.2=A2.2/\bY n0 w5 q p X (λb=>D b∨b=ob) (λb=>Y b∨b=ob) C.1 s' w6:=by rw[hC];exact⟨rfl,hp⟩
      refine⟨_,rfl, ?_⟩
      split
      .rename_i he;exact⟨hE.1.trans he,hE.2⟩
      .exact hE
     |m+2,hf,hk=>simp at hf
    rw[show fs.length=2 from by rw[hfs]<;>rfl]at hmain
    have c5:=o15.cell (off:=0)
    simp only[aJz]at c5
    simp(disch:=omega)only[seval,c5]
    refine hmain.mono ?_
    rintro r w6 ⟨e,rfl,he⟩
    have hfin':C.2=e/\bY n0 w5 q p X (λb=>D b∨b=ob) (λb=>Y b∨b=ob) C.1 s' w6:=by
     split at he
     .rename_i h0;rw[h0];exact he
     .exact he
    clear he hmain
    obtain⟨rfl,hp⟩:=hfin'
    have c6:=(hp.keep o15 mn).cell (off:=0)
    simp only[aJz]at c6
    have o16:=hp.keep o15 mn
    obtain⟨X2,D2,Y2,lv2,hv2,h6,hX2,hD2,hY2,x6⟩:=id hp
    simp(disch:=omega)only[seval,c6]
    refine tO h6.own rfl (by simp) λw7 o7 x7 z7=> ?_
    have h7:=h6.set (s':={s' with err:=C.2}) x7 o7 rfl rfl rfl h6.ep h6.lg
    have n2':¬n=q:=nq
    have o17:=o16.ext x7 n2'
    have h7d:=h7.new (aL.dr w7 aT)
    obtain⟨k0,k1,k2,k3,k4,k5,k6,k7,k8,k9⟩:=h7d.cells
    have c7d:(dr w7).cell? ⟨n,0,none⟩=some (dP q):=(dB o17).cell (off:=0)
    simp(disch:=omega)only[seval,c7d,k9]
    refine tP h7d.own rfl (by simp) λw8 o8 x8 z8=> ?_
    have h8:=h7d.set (s':={s' with err:=C.2,fin:=C.2==0}) x8 o8 rfl rfl rfl h6.ep h6.lg
    have c8:w8.cell? ⟨n,0,none⟩=some (dP q):=((dB o17).ext x8 n2').cell (off:=0)
    obtain⟨j0,j1,j2,j3,j4,j5,j6,j7,j8,j9⟩:=h8.cells
    simp(disch:=omega)only[seval,c8,j9]
    rw[hRR,C2]
    refine⟨rfl,bY.step x04 (λ_ h=> .inl h) hDn hYn (bY.step (x45.mono λ_ _ h=>h.elim) (λ_ h=> .inl h) (λ_ h=>h) (λ_ h=> .inl h) ⟨X2,D2,Y2,_,_,h8,hX2,hD2,hY2, ?_⟩)⟩
    refine(x6.trans x7 λy hy h=> ?_).trans ((aL.dr w7 _).seq x8) λy hy h=> ?_
    .exact .inr (.inl (h▸h4.yq.elim id λe=>by rw[e]at nq;have:=hlt0 q (.inr h1.yq);omega))
    .exact .inr (.inl (h▸h1.yq))
def fR(S:cF)(s:eQ):cF×eQ×Int×List (Nat×Nat):=
 if(bS S (cY s.nm)).2.2≠0 then(S,s,(bS S (cY s.nm)).2.2,[])else
 if dT 1 (fY aY (bS S (cY s.nm)).1)=18446744073709551615 then(S,s,23,[])else
 let q:=bZ aY S {s with epoch:=dT 1 (fY aY (bS S (cY s.nm)).1)+1,log:=13*(fY aY (bS S (cY s.nm)).1).length} 1 (dT 1 (fY aY (bS S (cY s.nm)).1)+1)
 (q.1,q.2.1,q.2.2,fY aY (bS S (cY s.nm)).1)
theorem aAq{w w':aLW}{S:Nat->Prop}{sz n:Nat}{v:aLX}{l:List aLX}{T:Nat->Prop}(h:Di w S sz v n l)(hT:∀b,S b->b<w.heap.size->¬T b):¬fI v T:=by
 intro hi
 rcases h.2 with⟨rfl,_⟩|⟨b,c,rest,rfl,g2,g3,_⟩
 .exact hi
 .unfold fI at hi
  split at hi
  .rename_i e
   simp only[Value.slice.injEq,aJ8]at e
   obtain⟨rfl,_⟩:=e
   exact hT _ g2 g3.lt hi
  .exact hi
theorem ayF{w:aLW}{S:Nat->Prop}{sz n:Nat}{v:aLX}{l:List aLX}(h:Di w S sz v n l):Cl w sz v n l:=by
 rcases h.2 with⟨rfl,h0⟩|⟨b,c,rest,rfl,g2,g3,g4,g5⟩
 .exact ⟨_,_,by rw[h0],h.1,λh=>by omega⟩
 .refine ⟨_,_,rfl,h.1,λ_=>⟨b,0,rfl,λi hi=> ?_⟩⟩
  rw[aJC,g3.cell,aJW hi]
theorem aCH{n0 q p:Nat}{X D Y:Nat->Prop}{S:cF}{s:eQ}{lv hv:aLX}{w:aLW}(h:eA n0 w q p X D Y S s lv hv)(hB:Gt 1 S)(hbl:∀b,bF (cY s.nm) S.seen=some b->b.length<=1000000):
 aG pg kK #[dP q] w (λr w'=>∃o X' D' Y' lv' hv',r= .tuple #[o,.int .i64 (fR S s).2.2.1]/\eA n0 w' q p X' D' Y' (fR S s).1 (fR S s).2.1 lv' hv'/\(∀b,X' b->X b∨w.heap.size<=b)/\(∀b,D b->D' b)/\(∀b,Y' b->Y b∨w.heap.size<=b)/\aL w w' (λb=>X b∨Y b)/\
  Cl w' 2 o (fR S s).2.2.2.length ((fR S s).2.2.2.flatMap oF)/\¬fI o (λb=>X' b∨Y' b)):=by
 refine MR ?_
 obtain⟨RR,hRR⟩:∃RR:aLX->aLW->Prop,RR=λr w'=>∃o X' D' Y' lv' hv',r= .tuple #[o,.int .i64 (fR S s).2.2.1]/\eA n0 w' q p X' D' Y' (fR S s).1 (fR S s).2.1 lv' hv'/\(∀b,X' b->X b∨w.heap.size<=b)/\(∀b,D b->D' b)/\(∀b,Y' b->Y b∨w.heap.size<=b)/\aL w w' (λb=>X b∨Y b)/\
  Cl w' 2 o (fR S s).2.2.2.length ((fR S s).2.2.2.flatMap oF)/\¬fI o (λb=>X' b∨Y' b):=⟨_,rfl⟩
 rw[<-hRR]
 obtain⟨c0,c1,c2,c3,c4,c5,c6,c7,c8,c9⟩:=h.cells
 have ct:=afB h.nl
 unfold Jj Dw
 simp(disch:=omega)only[seval,c1,ct]
 refine(akJ (n:=cY s.nm) h.dsk (hB.le (by omega)) c0).mono ?_
 rintro r w1 ⟨v,rfl,ho,x1⟩
 have h1:=h.new x1
 have hlt0:=λy hy=>eA.lt h y hy
 have hB0:fR S s=if(bS S (cY s.nm)).2.2≠0 then(S,s,(bS S (cY s.nm)).2.2,[])else
  if dT 1 (fY aY (bS S (cY s.nm)).1)=18446744073709551615 then(S,s,23,[])else
  ((bZ aY S {s with epoch:=dT 1 (fY aY (bS S (cY s.nm)).1)+1,log:=13*(fY aY (bS S (cY s.nm)).1).length} 1 (dT 1 (fY aY (bS S (cY s.nm)).1)+1)).1,
   (bZ aY S {s with epoch:=dT 1 (fY aY (bS S (cY s.nm)).1)+1,log:=13*(fY aY (bS S (cY s.nm)).1).length} 1 (dT 1 (fY aY (bS S (cY s.nm)).1)+1)).2.1,
   (bZ aY S {s with epoch:=dT 1 (fY aY (bS S (cY s.nm)).1)+1,log:=13*(fY aY (bS S (cY s.nm)).1).length} 1 (dT 1 (fY aY (bS S (cY s.nm)).1)+1)).2.2,fY aY (bS S (cY s.nm)).1):=rfl
 have hbl':(bS S (cY s.nm)).1.length<=1000000:=by
  unfold bS
  split
  .simp
  .cases hg:bF (cY s.nm) S.seen with
   |none=>simp
   |some b=>exact hbl b hg
 generalize bS S (cY s.nm)=rb at*
 obtain⟨b,th,e⟩:=rb
 simp only at ho hB0 hbl'⊢
 have nilc:∀w:aLW,Cl w 2 (.slice none 0 0) ([]:List (Nat×Nat)).length (([]:List (Nat×Nat)).flatMap oF):=λw=>⟨_,_,rfl,rfl,λh=>by simp at h⟩
 have stay:∀{w':aLW} {e:Int},aL w w' aT->fR S s=(S,s,e,[])->RR (.tuple #[.slice none 0 0,.int .i64 e]) w':=λ{w' e} x he=>by
  rw[hRR,he]
  exact⟨_,X,D,Y,_,_,rfl,h.new x,λ_ h=> .inl h,λ_ h=>h,λ_ h=> .inl h,x.mono λ_ _ h=>h.elim,nilc _,λh=>h⟩
 by_cases he:e=0
 rotate_left
 .have n1:(e !=0)=true:=bne_iff_ne.2 he
  rw[if_pos he]at hB0
  simp(disch:=omega)only[seval,n1]
  exact stay x1 hB0
 have n1:(e !=0)=false:=bne_eq_false_iff_eq.2 he
 rw[if_neg (by rw[he];decide)]at hB0
 simp(disch:=omega)only[seval,n1]
 refine(aBx h1.glob (show Bs w1 v b from ho.sl) (by omega)).mono ?_
 rintro r w2 ⟨o,rfl,hrv,x2⟩
 have h2:=h1.new x2
 obtain⟨L,hL⟩:∃L,L=fY aY b:=⟨_,rfl⟩
 have hok:∀r∈L,okR r:=by rw[hL];exact afJ aY _ b
 have hLl:13*L.length<=b.length:=by rw[hL];exact Rx aY _ b
 rw[<-hL]at hrv hB0⊢
 simp(disch:=omega)only[seval]
 refine(aBv (k:=1) ⟨_,hrv⟩ (by omega) (λr hr=>⟨by have:=(hok r hr).1;omega,(hok r hr).2⟩) (by omega)).mono ?_
 rintro r w3 ⟨⟨tb,rfl⟩,x3⟩
 have h3:=h2.new x3
 obtain⟨M,hM⟩:∃M,M=dT 1 L:=⟨_,rfl⟩
 have hM64:M<2^64:=by rw[hM];exact ahG hok
 rw[<-hM]at hB0⊢
 have x03:aL w w3 aT:=(x1.seq x2).seq x3
 by_cases hmx:M=18446744073709551615
 .have q1:(((M:Nat):Int)==18446744073709551615)=true:=by rw[beq_iff_eq];omega
  rw[if_pos hmx]at hB0
  simp(disch:=omega)only[seval,q1]
  exact stay x03 hB0
 have q1:(((M:Nat):Int)==18446744073709551615)=false:=by rw[beq_eq_false_iff_ne];omega
 rw[if_neg hmx]at hB0
 have e1:(M:Int)+1=((M+1:Nat):Int):=by omega
 simp(disch:=omega)only[seval,q1,e1]
 refine MM h3.own rfl (by simp) λw4 o4 x4 z4=> ?_
 have h4:=h3.set (s':={s with epoch:=M+1}) x4 o4 rfl rfl rfl (by show M+1<_;omega) h.lg
 refine Db h4.own rfl (by simp) λw5 o5 x5 z5=> ?_
 obtain⟨s1,hs1⟩:∃s1:eQ,s1={s with epoch:=M+1,log:=13*L.length}:=⟨_,rfl⟩
 have h5:=h4.set (s':={s with epoch:=M+1,log:=13*L.length}) x5 o5 rfl rfl rfl (by show M+1<_;omega) (by show 13*L.length<=_;omega)
 rw[<-hs1]at h5 hB0
 obtain⟨d0,d1,d2,d3,d4,d5,d6,d7,d8,d9⟩:=h5.cells
 have hep:s1.epoch=M+1:=by rw[hs1]
 rw[hep]at d5
 have x35:aL w3 w5 (λy=>X y∨Y y):=(x4.mono λy _ hy=> .inr (hy▸h.yq)).seq (x5.mono λy _ hy=> .inr (hy▸h.yq))
 have x05:aL w w5 (λy=>X y∨Y y):=(x03.mono λ_ _ h=>h.elim).seq x35
 simp(disch:=omega)only[seval,d5]
 refine(auY (k:=1) (v:=M+1) h5 hB (.inl rfl) (by omega) (by rw[hs1];show 13*L.length+13<=_;omega)).mono ?_
 rintro r w6 ⟨rfl,X',D',Y',lv',hv',h6,hX,hD,hY,x6⟩
 rw[hRR,hB0]
 have zz1:=x1.size
 have zz5:=x05.size
 have zz35:=x35.size
 have zz3:=x3.size
 have ho3:Di w3 (λb=>w1.heap.size<=b) 2 o L.length (L.flatMap oF):=hrv.ext x3 λ_ _ h=>h
 have ho5:Di w5 (λb=>w1.heap.size<=b) 2 o L.length (L.flatMap oF):=CL ho3 x35 λb hb h=>by have:=hlt0 b h;omega
 have ho6:Di w6 (λb=>w1.heap.size<=b/\b<w5.heap.size) 2 o L.length (L.flatMap oF):=CL (aqC ho5) x6 λb hb h=>by have:=hlt0 b h;omega
 refine⟨o,X',D',Y',lv',hv',rfl,h6,λb hb=> ?_,hD,λb hb=> ?_,x05.trans x6 λy hy h=>h,ayF ho6,aAq (w':=w6) ho6 λb hb _ hx=> ?_⟩
 .rcases hX b hb with h|h
  .exact .inl h
  .exact .inr (by omega)
 .rcases hY b hb with h|h
  .exact .inl h
  .exact .inr (by omega)
 .rcases hx with hx|hx
  .rcases hX b hx with h|h
   .have:=hlt0 b (.inl h);omega
   .omega
  .rcases hY b hx with h|h
   .have:=hlt0 b (.inr h);omega
   .omega
theorem asI{v:aLX}{n:Nat}{l:List aLX}{w:aLW}(h:Cl w 32 v n l)(hone:∀y∈l,one y=true)(hl:n<=100000):
 aG pg pZ #[v] w (λr w'=>kW w' w.heap.size 32 r n l/\aL w w' aT):=by
 refine OA ?_
 have h1:=h
 obtain⟨a,c,rfl,hn,hh⟩:=h
 unfold Kh Fz
 cases a with
 |none=>
  have h0:n=0:=by
   cases n with
   |zero=>rfl
   |succ n=>obtain⟨b,off,h,_⟩:=hh (by omega);cases h
  subst h0
  have:l=[]:=aJ9.1 (by omega)
  subst this
  simp(disch:=omega)only[aA,aO,aI,stepR_skip,fS,O2,Xb,Xd,aiA,ahZ,aDT,Uv,auL,auP,O1,RP,Mm,fD,aAE,vU,Dr,aDS,auM,Xc,jH,auO,aDR,anU,x20,x21,x30,x31,x32,x40,x41,x42,x43,bL,Result.ok.injEq,Next.value.injEq,true_and,and_true,dI,hU,aGu,Kp,aGv,aCf,aJE,uT,Rc,wY,pP,gS,jS,aoW,afU,cN,bH,if_true,if_false,aJI,aJC,aKL,aK3,aKU,aKD,aJF,aJz,mI,GY,KD,pH,oC,oA,lI,Fl,nQ,uU,Bq,Nq,jA,jM,ED,lV,iR,BS,gT,Ar,rJ,wL,uO,pI,sV,Ik,sY,YT,sX,sW,G0,rE,pN,rB,rF,cU,AO,CD,kZ,iS,nW,gE,DZ,nY,Vp,mW,nX,tA,GZ,H7,lY,qT,iA,KE,mA,mB,nT,lX,lZ,As,mS,D5,mM,KV,wN,zR,zQ,zZ,zT,uR,sU,DX,DV,DW,zS,CB,KT,wT,Br,mH,uP,nS,nR,mD,pM,pO,rG,qY,fH,fB,pL,mQ,nV,rA,qX,Bl,wZ,xA,mU,tB,nZ,mR,D6,Cz,wW,CC,Cy,CA,nO,Pg,Bm,wM,KJ,tG,tE,zX,qJ,Az,Ow,C6,Hn,lU,BR,pK,cX,cV,dA,mV,wX,pJ,cO,sT,sS,wS,qR,C4,qS,nU,AJ,Cq,zY,uN,AK,yY,lH,KA,F8,F7,DU,KH,Eo,KI,yZ,F6,Vm,mC,JT,nA,nB,LM,A6,xH,Cp,xI,Bk,EG,gG,oI,uC,uB,sZ,Oy,Np,Cx,kO,EF,Bj,Bi,I8,EC,tX,uI,wV,aQ]
  exact⟨kW.nil _ _ _,aL.refl _ _⟩
 |some x=>
  simp(disch:=omega)only[aA,aO,aI,stepR_skip,fS,O2,Xb,Xd,aiA,ahZ,aDT,Uv,auL,auP,O1,RP,Mm,fD,aAE,vU,Dr,aDS,auM,Xc,jH,auO,aDR,anU,x20,x21,x30,x31,x32,x40,x41,x42,x43,bL,Result.ok.injEq,Next.value.injEq,true_and,and_true,dI,hU,aGu,Kp,aGv,aCf,aJE,uT,Rc,wY,pP,gS,jS,aoW,afU,cN,bH,if_true,if_false,aJI,aJC,aKL,aK3,aKU,aKD,aJF,aJz,mI,GY,KD,pH,oC,oA,lI,Fl,nQ,uU,Bq,Nq,jA,jM,ED,lV,iR,BS,gT,Ar,rJ,wL,uO,pI,sV,Ik,sY,YT,sX,sW,G0,rE,pN,rB,rF,cU,AO,CD,kZ,iS,nW,gE,DZ,nY,Vp,mW,nX,tA,GZ,H7,lY,qT,iA,KE,mA,mB,nT,lX,lZ,As,mS,D5,mM,KV,wN,zR,zQ,zZ,zT,uR,sU,DX,DV,DW,zS,CB,KT,wT,Br,mH,uP,nS,nR,mD,pM,pO,rG,qY,fH,fB,pL,mQ,nV,rA,qX,Bl,wZ,xA,mU,tB,nZ,mR,D6,Cz,wW,CC,Cy,CA,nO,Pg,Bm,wM,KJ,tG,tE,zX,qJ,Az,Ow,C6,Hn,lU,BR,pK,cX,cV,dA,mV,wX,pJ,cO,sT,sS,wS,qR,C4,qS,nU,AJ,Cq,zY,uN,AK,yY,lH,KA,F8,F7,DU,KH,Eo,KI,yZ,F6,Vm,mC,JT,nA,nB,LM,A6,xH,Cp,xI,Bk,EG,gG,oI,uC,uB,sZ,Oy,Np,Cx,kO,EF,Bj,Bi,I8,EC,tX,uI,wV,aQ]
  refine SX Tryz.underlying28 Ww λw1 o1 x1 s1=> ?_
  have hcl1:=dS h1 x1 (bC _)
  have hos:kW w1 w.heap.size 32 (.slice (some ⟨w.heap.size,0,none⟩) 0 0) 0 []:=⟨rfl,.inr ⟨_,0,[],rfl,aJK _,o1,rfl,aJK _⟩⟩
  refine Ap hos hcl1 hone x1.size (by omega) λv3 w3 o3 x3=> ?_
  rw[aJC,aJX]at o3
  exact⟨o3,x1.trans x3 λb hb h=>Nat.not_le_of_lt hb h⟩
theorem aFo(l:List (List UInt8)):∀y∈VZ l,one y=true:=λy hy=>by
 obtain⟨x,-,hy⟩:=aLw.1 hy
 exact DN _ y hy
theorem aCc{l:List (Nat×Nat)}{W:List Bool}{n j:Nat}(hj:j<l.length):
 lE (l.take (j+1)) W n=if l[j].1=2/\l[j].2<n then(lE (l.take j) W n).set l[j].2 (W.getD l[j].2 false)else lE (l.take j) W n:=by
 unfold lE
 have ht:l.take (j+1)=l.take j++[l[j]]:=aJZ hj
 generalize l[j]=r at*
 rw[ht]
 obtain⟨a,v⟩:=r
 simp only
 split
 .rename_i h
  apply aLv
  .simp
  .intro x h1 h2
   simp only[aJy,aKX]at h1
   rw[List.getElem_set]
   simp only[aLm,List.getElem_range,List.any_append,List.any_cons,List.any_nil,aLx]
   by_cases hx:v=x
   .rw [if_pos hx];subst hx;simp[h.1]
   .rw [if_neg hx]
    have:(v==x)=false:=beq_eq_false_iff_ne.2 hx
    rw[this,Bool.and_false,aLx]
 .rename_i h
  apply aKF
  intro x hx
  have hx:=aKr.1 hx
  have:(a==2&&v==x)=false:=by
   rw[aLN,beq_eq_false_iff_ne,beq_eq_false_iff_ne]
   by_cases ha:a=2
   .exact .inr λe=>h ⟨ha,by omega⟩
   .exact .inl ha
  rw[List.any_append,List.any_cons,List.any_nil,aLx,this,aLx]
theorem FR(l:List (Nat×Nat))(W:List Bool)(n:Nat):(lE l W n).length=n:=by unfold lE;simp
theorem aCd(l:List (Nat×Nat))(W:List Bool)(n:Nat):lE (l.take 0) W n=List.replicate n false:=by
 unfold lE
 rw[List.take_zero]
 apply aLv
 .simp
 .intro i h1 h2;simp
def oB(S:cF)(n:ByteArray)(m:FT):eQ:=⟨n,m,0,bQ aX m (bS S n).1,0,(bS S n).2.1&&(bS S n).1.length==m.size&&yV (bQ aX m (bS S n).1),0⟩
def KF(S:cF)(s:eQ)(l:List (Nat×Nat)):cF×Option eQ×Int:=
 if s.fin then(if(Ad S).2≠0 then((Ad S).1,none,(Ad S).2)else((Ad S).1,some s,0))
 else if(cC S s).2.2≠0 then((cC S s).1,none,(cC S s).2.2)
 else if(Ad (cC S s).1).2≠0 then((Ad (cC S s).1).1,none,(Ad (cC S s).1).2)
 else((Ad (cC S s).1).1,some {s with hv:=lE l (bQ aX s.man (cC S s).2.1) s.man.leaves.length},0)
theorem D4 (S:cF)(n:ByteArray)(m:FT):rH aX aY S n m=
 if(bS S n).2.2≠0 then(S,none,(bS S n).2.2)
 else if(fR S (oB S n m)).2.2.1≠0 then((fR S (oB S n m)).1,none,(fR S (oB S n m)).2.2.1)
 else KF (fR S (oB S n m)).1 (fR S (oB S n m)).2.1 (fR S (oB S n m)).2.2.2:=by
 unfold rH
 simp only
 by_cases h1:(bS S n).2.2=0
 .rw [if_neg (show¬(bS S n).2.2≠0 by rw[h1];decide),if_neg (show¬(bS S n).2.2≠0 by rw[h1];decide)]
  have hb:fR S (oB S n m)=if(bS S (cY n)).2.2≠0 then(S,oB S n m,(bS S (cY n)).2.2,[])else
   if dT 1 (fY aY (bS S (cY n)).1)=18446744073709551615 then(S,oB S n m,23,[])else
   ((bZ aY S {oB S n m with epoch:=dT 1 (fY aY (bS S (cY n)).1)+1,log:=13*(fY aY (bS S (cY n)).1).length} 1 (dT 1 (fY aY (bS S (cY n)).1)+1)).1,
    (bZ aY S {oB S n m with epoch:=dT 1 (fY aY (bS S (cY n)).1)+1,log:=13*(fY aY (bS S (cY n)).1).length} 1 (dT 1 (fY aY (bS S (cY n)).1)+1)).2.1,
    (bZ aY S {oB S n m with epoch:=dT 1 (fY aY (bS S (cY n)).1)+1,log:=13*(fY aY (bS S (cY n)).1).length} 1 (dT 1 (fY aY (bS S (cY n)).1)+1)).2.2,fY aY (bS S (cY n)).1):=rfl
  by_cases h2:(bS S (cY n)).2.2=0
  .rw [if_neg (by rw[h2];decide)]at hb
   rw[if_neg (show¬(bS S (cY n)).2.2≠0 by rw[h2];decide)]
   by_cases h3:dT 1 (fY aY (bS S (cY n)).1)=18446744073709551615
   .rw [if_pos h3]at hb
    rw[if_pos h3,hb]
    rfl
   .rw [if_neg h3]at hb
    rw[if_neg h3,hb]
    simp only
    have e:(⟨n,m,dT 1 (fY aY (bS S (cY n)).1)+1,bQ aX m (bS S n).1,13*(fY aY (bS S (cY n)).1).length,(bS S n).2.1&&(bS S n).1.length==m.size&&yV (bQ aX m (bS S n).1),0⟩:eQ)=
     {oB S n m with epoch:=dT 1 (fY aY (bS S (cY n)).1)+1,log:=13*(fY aY (bS S (cY n)).1).length}:=rfl
    rw[e]
    obtain⟨q,hq⟩:∃q,q=bZ aY S {oB S n m with epoch:=dT 1 (fY aY (bS S (cY n)).1)+1,log:=13*(fY aY (bS S (cY n)).1).length} 1 (dT 1 (fY aY (bS S (cY n)).1)+1):=⟨_,rfl⟩
    have hf:q.2.1.fin=((bS S n).2.1&&(bS S n).1.length==m.size&&yV (bQ aX m (bS S n).1))/\q.2.1.man=m:=by
     rw[hq]
     unfold bZ
     simp only
     split<;>exact⟨rfl,rfl⟩
    rw[<-hq]
    unfold KF
    rw[hf.1,hf.2]
  .rw [if_pos h2]at hb
   rw[if_pos h2,hb]
   show _=if(bS S (cY n)).2.2≠0 then(S,none,(bS S (cY n)).2.2)else _
   rw[if_pos h2]
 .rw [if_pos h1,if_pos h1]
def arS(n0:Nat)(w:aLW)(p:Nat)(X D:Nat->Prop)(R:cF×Option eQ×Int)(r:aLX)(w':aLW):Prop:=
 match R.2.1 with
 |some s=>R.2.2=0/\∃q X' D' Y' lv hv,r= .tuple #[dP q,.int .i64 0]/\eA n0 w' q p X' D' Y' R.1 s lv hv/\(∀b,X' b->X b∨w.heap.size<=b)/\(∀b,D b->D' b)/\(∀b,Y' b->w.heap.size<=b)/\aL w w' X
 |none=>r= .tuple #[.pointer none,.int .i64 R.2.2]/\B3 w p X D R.1 w'
theorem aBD{n0 n1 q p:Nat}{X D Y:Nat->Prop}{S:cF}{s:eQ}{l:List (Nat×Nat)}{lv hv o:aLX}{w:aLW}{RR:aLX->aLW->Prop}(h:eA n0 w q p X D Y S s lv hv)(hB:Gt 2 S)
 (hbp:∀b,bF (aZ s.nm) S.seen=some b->b.length<=1000000) (hn:n1=s.man.leaves.length) (hcl:Cl w 2 o l.length (l.flatMap oF)) (hno:¬fI o (λb=>X b∨Y b)) (hlo:l.length<=1000000) (hok:∀r∈l,okR r)
 (hR:∀r w',(match(KF S s l).2.1 with
  |some s'=>(KF S s l).2.2=0/\r= .tuple #[dP q,.int .i64 0]/\bY n0 w q p X D Y (KF S s l).1 s' w'
  |none=>r= .tuple #[.pointer none,.int .i64 (KF S s l).2.2]/\∃s',bY n0 w q p X D Y (KF S s l).1 s' w')->RR r w'):
 yF RR (dP p) (.int .i64 (n1:Nat)) (dP q) o w:=by
 have fin:∀{w1:aLW} {S1:cF} {s1:eQ},bY n0 w q p X D Y S1 s1 w1->Gt 0 S1->(KF S s l=if(Ad S1).2≠0 then((Ad S1).1,none,(Ad S1).2)else((Ad S1).1,some s1,0))->EY RR (dP p) (dP q) w1:=λ{w1 S1 s1} hp hB1 hE=>by
  unfold EY
  refine(arD hp hB1).mono ?_
  rintro r w2 ⟨rfl,hp2⟩
  by_cases he:(Ad S1).2=0
  .rw [if_neg (by rw[he];decide)]at hE
   rw[hE]at hR
   rw[he]
   have n1':((0:Int) !=0)=false:=rfl
   simp(disch:=omega)only[seval,n1',he]
   exact hR _ _ ⟨rfl,rfl,hp2⟩
  .have n1':((Ad S1).2 !=0)=true:=bne_iff_ne.2 he
   rw[if_pos he]at hE
   rw[hE]at hR
   simp(disch:=omega)only[seval,n1']
   exact hR _ _ ⟨rfl,_,hp2⟩
 obtain⟨c0,c1,c2,c3,c4,c5,c6,c7,c8,c9⟩:=h.cells
 have hmx:=h.man.max
 have hmc:=h.man.cnt
 unfold yF Je SO Jd
 cases hf:s.fin with
 |true=>
  rw[hf]at c8
  unfold U4
  simp(disch:=omega)only[seval,c8]
  refine fin (bY.refl h) (hB.le (by omega)) ?_
  unfold KF
  rw[if_pos hf]
 |false=>
  rw[hf]at c8
  have hE0:KF S s l=if(cC S s).2.2≠0 then((cC S s).1,none,(cC S s).2.2)
   else if(Ad (cC S s).1).2≠0 then((Ad (cC S s).1).1,none,(Ad (cC S s).1).2)
   else((Ad (cC S s).1).1,some {s with hv:=lE l (bQ aX s.man (cC S s).2.1) s.man.leaves.length},0):=by
   unfold KF
   rw[if_neg (by rw[hf];decide)]
  unfold U3 U2
  simp(disch:=omega)only[seval,c8]
  refine(aC2 h hB).mono ?_
  rintro r w1 ⟨bv,rfl,hbv,hbn,hp1⟩
  have hBf:Gt 0 (cC S s).1:=by
   unfold cC
   simp only
   split
   .exact hB.le (by omega)
   .split
    .split
     .exact aAH (n:=0) (hB.le (by omega))
     .exact awV (aAH hB)
    .split
     .exact awV (n:=0) (hB.le (by omega))
     .exact hB.le (by omega)
  have hbl:(cC S s).2.1.length<=1000000:=by
   have hr:(bS S (aZ s.nm)).1.length<=1000000:=by
    unfold bS
    split
    .simp
    .cases hg:bF (aZ s.nm) S.seen with
     |none=>simp
     |some b=>exact hbp b hg
   unfold cC
   simp only
   split
   .simp
   .split
    .split<;>simp
    .split
     .exact hr
     .exact hr
  generalize cC S s=F at*
  obtain⟨S1,b,e⟩:=F
  simp only at hbv hp1 hE0 hBf hbl⊢
  by_cases he:e=0
  rotate_left
  .have n1':(e !=0)=true:=bne_iff_ne.2 he
   rw[if_pos he]at hE0
   rw[hE0]at hR
   simp(disch:=omega)only[seval,n1']
   exact hR _ _ ⟨rfl,_,hp1⟩
  have n1':(e !=0)=false:=bne_eq_false_iff_eq.2 he
  rw[if_neg (by rw[he];decide)]at hE0
  have hp1':=hp1
  obtain⟨X1,D1,Y1,lv1,hv1,h1,hX1,hD1,hY1,x1⟩:=hp1
  simp(disch:=omega)only[seval,n1']
  refine ahS (by omega) (by omega) λw2 o2 x2 s2=> ?_
  rw[aJE]at o2⊢
  obtain⟨hb,hhb⟩:∃hb,hb=w1.heap.size:=⟨_,rfl⟩
  rw[<-hhb]at o2⊢
  have h2:=h1.new x2
  refine Et h2.own rfl (by simp) λw3 o3 x3 s3=> ?_
  have hrl:(List.replicate n1 false).length=n1:=aJ5
  have o2':bD w2 hb ((List.replicate n1 false).map Value.bool):=by rw[aLG];exact o2
  have h3:=h1.newHv (s':={s with hv:=List.replicate n1 false}) x2 (by omega) o2' (by omega) x3 (by rw[hrl];exact o3) rfl rfl rfl h1.ep h1.lg
  rw[hrl]at h3
  have x13:aL w1 w3 (λy=>y=q):=(x2.mono λ_ _ h=>h.elim).seq x3
  have hlt1:=λy hy=>eA.lt h1 y hy
  have hlt0:=λy hy=>eA.lt h y hy
  have z1:=x1.size
  have hq1:¬fI bv (λy=>y=q):=hbn q (.inr h.yq)
  refine(akV h3 (hbv.ext x13 hq1) hbl).mono ?_
  rintro r w4 ⟨ob,rfl,hob,oo,x4⟩
  obtain⟨W,hW⟩:∃W,W=bQ aX s.man b:=⟨_,rfl⟩
  have hWl:W.length=n1:=by rw[hW,hn];unfold bQ;simp
  have oo:bD w4 ob (W.map Value.bool):=by rw[hW];exact oo
  rw[<-hW]at hE0
  have h4:=h3.new x4
  have hcl1:Cl w1 2 o l.length (l.flatMap oF):=dS hcl x1 hno
  have hno1:¬fI o (λy=>X1 y∨Y1 y∨y=hb):=λhi=>by
   have hold:=Wd hcl (by decide)
   obtain⟨a,c,rfl,hl,hh⟩:=hcl
   unfold fI at hi hno hold
   split at hi
   .rename_i e'
    simp only[Value.slice.injEq]at e'
    obtain⟨rfl,e2,rfl⟩:=e'
    rw[e2]at hno hold
    rcases hi with hi|hi|hi
    .rcases hX1 _ hi with h|h
     .exact hno (.inl h)
     .exact hold h
    .rcases hY1 _ hi with h|h
     .exact hno (.inr h)
     .exact hold h
    .exact hold (show w.heap.size<=_ by omega)
   .exact hi
  have hcl4:Cl w4 2 o l.length (l.flatMap oF):=dS (dS hcl1 x13 λhi=>hno1 (bO hi λy hy=> .inr (.inl (hy▸h1.yq)))) x4 (bC _)
  obtain⟨oa,oc,hov,hol,hoh⟩:=id hcl4
  subst hov
  have z3:=x13.size
  have z4:=x4.size
  unfold EZ
  simp(disch:=omega)only[seval]
  have hobn:¬(X1 ob∨Y1 ob∨ob=hb):=λhx=>by
   rcases hx with hx|hx|hx
   .have:=hlt1 ob (.inl hx);omega
   .have:=hlt1 ob (.inr hx);omega
   .have:=o2.lt;have:=x3.size;omega
  refine bM.rule (λm (t:aLX) w'=>∃(j:Nat),m=l.length-j/\t= .int .i64 (j:Nat)/\j<=l.length/\eA n0 w' q p X1 (λb=>D1 b∨b=hb) (λb=>Y1 b∨b=hb) S1 {s with hv:=lE (l.take j) W n1} lv1 (.slice (some ⟨hb,0,none⟩) n1 n1)/\aL w4 w' (λy=>y=hb)) l.length
   ⟨0,rfl,rfl,by omega,by rw[aCd];exact h4,aL.refl _ _⟩ ?_
  rintro m t w5 ⟨j,rfl,rfl,hj,h5,x5⟩
  unfold LB U1
  by_cases hlt:j<l.length
  .have d1:decide ((j:Int)<(l.length:Int))=true:=by simp;omega
   obtain⟨lb,lo,rfl,hcell⟩:=hoh (by omega)
   have hlbn:¬(X1 lb∨Y1 lb∨lb=hb):=λhx=>hno1 (by
    obtain⟨l',hl'⟩:∃l',l.length=l'+1:=⟨l.length-1,by omega⟩
    rw[hl']
    exact hx)
   have rl:=RS l
   have lrec:∀{w':aLW},aL w4 w' (λy=>y=hb)->(aB 109 (.pointer (some ⟨lb,lo+j*2,none⟩))).run pg w'= .ok (.value (.agg (oF l[j]).toArray)) w':=λ{w'} x=>by
    refine WD rfl λk hk=> ?_
    have hk:k<2:=hk
    have hgc:=hcell (j*2+k) (by omega)
    have hrc:=congrArg (λq=>q[k]?) (Zz hlt)
    simp only[List.getElem?_take,aK1,if_pos hk]at hrc
    rw[hrc]at hgc
    obtain⟨v,hv⟩:∃v,(oF l[j])[k]?=some v:=⟨_,aJA hk⟩
    rw[hv]at hgc⊢
    rw[aKu]
    exact uG hgc x (λe=>hlbn (.inr (.inr e)))
   have l5:=lrec x5
   have hst:=aCc (W:=W) (n:=n1) hlt
   obtain⟨ho1,ho2⟩:=hok _ (aKl hlt)
   generalize l[j]'hlt=rec at*
   obtain⟨k,v⟩:=rec
   simp only at ho1 ho2 hst
   simp(disch:=omega)only[seval,d1,l5]
   refine DK λw6 o6 x6 s6=> ?_
   refine De o6 rfl (by simp[one]) (by simp) λw7 o7 x7 s7=> ?_
   have o7:bD w7 w5.heap.size (oF (k,v)):=o7
   have x57:aL w5 w7 aT:=x6.trans x7 λy hy h=>by omega
   have h7:=h5.new x57
   have k0:=o7.cell (off:=0)
   have k1:=o7.cell (off:=1)
   have k1d:=(dB o7).cell (off:=1)
   simp only[aJz,aJF]at k0 k1 k1d
   have e1:IntKind.u64.wrap ((n1:Nat):Int)=((n1:Nat):Int):=hU (by omega) (by omega)
   have ej:(j:Int)+1=((j+1:Nat):Int):=by omega
   have skip:¬(k=2/\v<n1)->∃m,m<l.length-j/\∃(j':Nat),m=l.length-j'/\(Value.int .i64 ((j+1:Nat):Int))= .int .i64 (j':Nat)/\j'<=l.length/\eA n0 w7 q p X1 (λb=>D1 b∨b=hb) (λb=>Y1 b∨b=hb) S1 {s with hv:=lE (l.take j') W n1} lv1 (.slice (some ⟨hb,0,none⟩) n1 n1)/\aL w4 w7 (λy=>y=hb):=λhc=>by
    rw[if_neg hc]at hst
    exact⟨l.length-(j+1),by omega,j+1,rfl,rfl,by omega,by rw[hst];exact h7,x5.seq (x57.mono λ_ _ h=>h.elim)⟩
   unfold LA
   by_cases hk2:k=2
   rotate_left
   .have q1:(((k:Nat):Int)==2)=false:=by rw[beq_eq_false_iff_ne];omega
    simp(disch:=omega)only[seval,k0,q1,ej]
    exact skip (λh=>hk2 h.1)
   have q1:(((k:Nat):Int)==2)=true:=by rw[beq_iff_eq];omega
   by_cases hvn:v<n1
   rotate_left
   .have q2:decide (((v:Nat):Int)<((n1:Nat):Int))=false:=by simp only[decide_eq_false_iff_not];omega
    simp(disch:=omega)only[seval,k0,k1,q1,e1,q2,ej]
    exact skip (λh=>hvn h.2)
   have q2:decide (((v:Nat):Int)<((n1:Nat):Int))=true:=by simp only[decide_eq_true_eq];omega
   rw[if_pos ⟨hk2,hvn⟩]at hst
   have h7d:=h7.new (aL.dr w7 aT)
   obtain⟨f0,f1,f2,f3,f4,f5,f6,f7,f8,f9⟩:=h7d.cells
   have ow:bD (dr w7) ob (W.map Value.bool):=((oo.ext x5 (λe=>hobn (.inr (.inr e)))).ext x57 (λh=>h)).ext (aL.dr _ aT) (λh=>h)
   have hWv:W.getD v false=W[v]'(by omega):=by rw[aJH,aJA (by omega)]<;>rfl
   have cw:(dr w7).cell? ⟨ob,v,none⟩=some (.bool (W.getD v false)):=by
    rw[ow.cell,aJ0,aJA (by omega),hWv]<;>rfl
   clear hWv
   obtain⟨hb',c',rest,hhv,hbY,hbq,oh,hset⟩:=h7d.setHv (i:=v) (by show v<(lE (l.take j) W n1).length;rw[FR];omega)
   simp only[Value.slice.injEq,aJ8]at hhv
   obtain⟨hbe,hlen',_⟩:=hhv
   have hbe:hb'=hb:=by have:=congrArg Addr.block hbe;exact this.symm
   subst hbe
   have hWn:s.man.leaves.length=n1:=hn.symm
   simp(disch:=omega)only[seval,k0,k1,q1,e1,q2,f6,k1d,cw,hWn]
   refine tP oh rfl (by rw[aJB,aJy];show v<(lE (l.take j) W n1).length+_;rw[FR];omega) λw8 o8 x8 s8=> ?_
   have h8:=hset o8 x8
   simp(disch:=omega)only[seval,ej]
   refine⟨l.length-(j+1),by omega,j+1,rfl,rfl,by omega, ?_,(x5.seq (x57.mono λ_ _ h=>h.elim)).seq ((aL.dr w7 _).seq x8)⟩
   rw[hst]
   exact h8
  .have d1:decide ((j:Int)<(l.length:Int))=false:=by simp;omega
   obtain rfl:j=l.length:=by omega
   rw[aJD (aJK _)]at h5
   simp(disch:=omega)only[seval,d1]
   refine fin (bY.step x1 hX1 hD1 hY1 ⟨X1,_,_,_,_,h5,λ_ h=> .inl h,λ_ h=> .inl h,λb hb'=>hb'.imp id λe=>by omega, ?_⟩) hBf (by rw[hE0,hn])
   have xx:aL w1 w4 (λb=>X1 b∨Y1 b):=(x13.seq (x4.mono λ_ _ h=>h.elim)).mono λy _ hy=> .inr (hy▸h1.yq)
   exact xx.trans x5 λy hy h=>by omega
theorem aGl(n:ByteArray):aZ n≠cY n:=λh=>by
 have:=congrArg ByteArray.size h
 unfold aZ cY at this
 rw[ByteArray.size_append,ByteArray.size_append]at this
 have h5:(⟨#[46,112,97,114,116]⟩:ByteArray).size=5:=rfl
 have h4:(⟨#[46,108,111,103]⟩:ByteArray).size=4:=rfl
 omega
theorem aBm{S:cF}{o:LH}:(wR S o).1.seen=S.seen∨(wR S o).1.seen=TL o S.seen:=by
 unfold wR
 split
 .exact .inl rfl
 .exact .inr rfl
theorem aFY{S:cF}{k:ByteArray}{a:Int}{l:List UInt8}:(yL S k a l).1.seen=S.seen∨∃v,(yL S k a l).1.seen=lP k v S.seen:=by
 unfold yL
 split
 .rcases aBm (S:=S) (o:=⟨0,k,⟨#[]⟩,a.toNat,l⟩)with h|h
  .exact .inl h
  .exact .inr ⟨_,h⟩
 .exact .inl rfl
theorem auX{S:cF}{s:eQ}{k v:Nat}:(bZ aY S s k v).1.seen=S.seen∨∃u,(bZ aY S s k v).1.seen=lP (cY s.nm) u S.seen:=by
 have:=aFY (S:=S) (k:=cY s.nm) (a:=s.log) (l:=mN aY k v)
 unfold bZ
 simp only
 split<;>exact this
theorem M9 {S:cF}{s:eQ}:(fR S s).2.1.man=s.man/\(fR S s).2.1.nm=s.nm/\bF (aZ s.nm) (fR S s).1.seen=bF (aZ s.nm) S.seen/\(∀r∈(fR S s).2.2.2,okR r)/\13*(fR S s).2.2.2.length<=(bS S (cY s.nm)).1.length:=by
 unfold fR
 split
 .exact ⟨rfl,rfl,rfl,by simp,by simp⟩
 .split
  .exact ⟨rfl,rfl,rfl,by simp,by simp⟩
  .simp only
   refine⟨NA.2.1,NA.2.2.1, ?_,afJ aY _ _,Rx aY _ _⟩
   rcases auX (S:=S) (s:={s with epoch:=dT 1 (fY aY (bS S (cY s.nm)).1)+1,log:=13*(fY aY (bS S (cY s.nm)).1).length}) (k:=1) (v:=dT 1 (fY aY (bS S (cY s.nm)).1)+1)with h|⟨u,h⟩
   .rw [h]
   .rw [h,L6,if_neg (aGl _)]
theorem aEU{n:Nat}{S:cF}{s:eQ}(h:Gt (n+1) S):Gt n (fR S s).1:=by
 unfold fR
 split
 .exact h.le (by omega)
 .split
  .exact h.le (by omega)
  .exact aDZ h
theorem aDC{n0 p:Nat}{X D:Nat->Prop}{S:cF}{nm:ByteArray}{m:FT}{lv:aLX}{w:aLW}(hd:fQ w p X D S)(hg:lO w)(g0:0<n0/\1<n0)(hX:∀b,X b->n0<=b)(hn0:n0<=w.heap.size)(hB:Gt 3 S)(hm:Cg m)(hlv:Cl w 32 lv m.leaves.length (VZ m.leaves))
 (hnm:1<=nm.size/\nm.size<=27) (hb1:∀b,bF nm S.seen=some b->b.length<=1000000) (hb2:∀b,bF (cY nm) S.seen=some b->b.length<=1000000) (hb3:∀b,bF (aZ nm) S.seen=some b->b.length<=1000000):
 aG pg sK #[dP p,.string nm,.agg (wA m lv).toArray] w (arS n0 w p X D (rH aX aY S nm m)):=by
 refine aeU ?_
 obtain⟨RR,hRR⟩:∃RR:aLX->aLW->Prop,RR=arS n0 w p X D (rH aX aY S nm m):=⟨_,rfl⟩
 rw[<-hRR]
 have hO:=D4 S nm m
 have hm1:=hm.size
 have hm2:=hm.part
 have hm3:=hm.cnt
 have hm4:=hm.max
 unfold akN SQ SP
 refine cA λw1 o1 x1 s1=> ?_
 have o1:bD w1 w.heap.size (wA m lv):=o1
 obtain⟨mb,hmb⟩:∃mb,mb=w.heap.size:=⟨_,rfl⟩
 rw[<-hmb]at o1⊢
 have c0:=o1.cell (off:=0)
 have c1:=o1.cell (off:=1)
 have c2:=o1.cell (off:=2)
 simp only[aJz,aJF]at c0 c1 c2
 have d1:decide ((nm.size:Int)<1)=false:=by simp;omega
 have d2:decide ((27:Int)<(nm.size:Int))=false:=by simp;omega
 have e1:IntKind.i64.wrap ((m.part:Nat):Int)=((m.part:Nat):Int):=dI (by omega) (by omega)
 simp(disch:=omega)only[seval,d1,d2,c0,c1,e1]
 refine(apM (by omega) hm2.1 hm2.2).mono ?_
 rintro r w2 ⟨rfl,hw⟩
 rw[hw];clear hw w2
 rw[if_neg (by omega)]
 have n1:((0:Int) !=0)=false:=rfl
 obtain⟨la,lc,hlve,hln,-⟩:=id hlv
 subst hlve
 have q1:(((jT m.size m.part:Nat):Int) !=((m.leaves.length:Nat):Int))=false:=by rw[bne_eq_false_iff_eq];omega
 simp(disch:=omega)only[seval,n1,c2,q1]
 refine(asI (dS hlv x1 (bC _)) (aFo _) (by omega)).mono ?_
 rintro r w2 ⟨hcl,x2⟩
 have o2:=o1.ext x2 (λh=>h)
 obtain⟨ca,cc,rfl⟩:=hcl.len
 refine U0 o2 rfl (by simp) λw3 o3 x3 s3=> ?_
 simp only[aJR,aKe]at o3
 have z1:=x1.size
 have z2:=x2.size
 have hcl3:kW w3 w1.heap.size 32 (.slice ca m.leaves.length cc) m.leaves.length (VZ m.leaves):=hcl.ext x3 λb hb h=>by omega
 obtain⟨lv',hlv'⟩:∃lv',lv'=Value.slice ca m.leaves.length cc:=⟨_,rfl⟩
 rw[<-hlv']at hcl3 o3
 have x03:aL w w3 aT:=(x1.seq x2).trans x3 λy hy h=>by omega
 have lm:=fX (off:=0) o3 (by simp)
 have lm:(aB 30 (.pointer (some ⟨mb,0,none⟩))).run pg w3= .ok (.value (.agg (wA m lv').toArray)) w3:=lm
 have bd:=wN (some ⟨p,0,none⟩) nm (.int .u64 (m.size:Nat)) (.int .u32 (m.part:Nat)) lv' w3
 simp(disch:=omega)only[seval,lm,bd]
 refine cA λw4 o4 x4 s4=> ?_
 obtain⟨q,hq⟩:∃q,q=w3.heap.size:=⟨_,rfl⟩
 rw[<-hq]at o4⊢
 have x04:=x03.seq x4
 have z3:=x3.size
 have h4:eA n0 w4 q p X (λb=>D b∨b=q) (λb=>b=q) S ⟨nm,m,0,[],0,false,0⟩ lv' (.slice none 0 0):=by
  have hlt:=fQ.lt hd
  have hxd:=fQ.xd' hd
  refine⟨hg.ext x04,g0,λb hb=> ?_,by have:=x04.size;omega,hd.more x04 (by omega) o4.lt,rfl,λb hb=>⟨.inr hb,λhx=>by have:=hlt b (hxd b hx);omega⟩,o4,hm,⟨?_, ?_⟩,⟨rfl,.inl ⟨rfl,rfl⟩⟩,(by show 0<_;omega),(by show 0<=_;omega),(by show 0<=_;omega),hnm.2⟩
  .rcases hb with hb|hb
   .exact hX b hb
   .omega
  .exact dS (ayF hcl3) x4 (bC _)
  .refine aAq (w':=w3) hcl3 λb hb hl hx=> ?_
   rcases hx with hx|hx
   .have:=hlt b (hxd b hx);omega
   .omega
 have o34:=o3.ext x4 (λh=>h)
 obtain⟨f0,f1,f2,f3,f4,f5,f6,f7,f8,f9⟩:=h4.cells
 refine(akJ (n:=nm) h4.dsk (hB.le (by omega)) f0).mono ?_
 rintro r w5 ⟨v,rfl,ho,x5⟩
 have h5:=h4.new x5
 have z4:=x04.size
 have toPost:∀{w':aLW} {S':cF} {s':eQ},bY n0 w4 q p X (λb=>D b∨b=q) (λb=>b=q) S' s' w'->B3 w p X D S' w':=λ{w' S' s'} ⟨X',D',Y',_,_,h,h1,h2,h3,hx⟩=>by
  refine⟨X',D',h.dsk,λb hb=> ?_,λb hb=>h2 b (.inl hb),(x04.mono λ_ _ h=>h.elim).trans hx λy hy h=> ?_⟩
  .rcases h1 b hb with h|h
   .exact .inl h
   .exact .inr (by omega)
  .rcases h with h|h
   .exact h
   .omega
 have toOpen:∀{r:aLX} {w':aLW} {R:cF×Option eQ×Int},rH aX aY S nm m=R->(match R.2.1 with
     |some s'=>R.2.2=0/\r= .tuple #[dP q,.int .i64 0]/\bY n0 w4 q p X (λb=>D b∨b=q) (λb=>b=q) R.1 s' w'
     |none=>r= .tuple #[.pointer none,.int .i64 R.2.2]/\∃s',bY n0 w4 q p X (λb=>D b∨b=q) (λb=>b=q) R.1 s' w')->RR r w':=λ{r w' R} hR hm=>by
  rw[hRR,hR]
  unfold arS
  obtain⟨S',so,e⟩:=R
  cases so with
  |none=>
   obtain⟨h1,s',h2⟩:=hm
   exact⟨h1,toPost h2⟩
  |some s'=>
   obtain⟨h0,h1,h2⟩:=hm
   have hp:=toPost h2
   obtain⟨X',D',Y',lv2,hv2,h,k1,k2,k3,hx⟩:=h2
   refine⟨h0,q,X',D',Y',lv2,hv2,h1,h,λb hb=> ?_,λb hb=>k2 b (.inl hb),λb hb=> ?_,(x04.mono λ_ _ h=>h.elim).trans hx λy hy h=> ?_⟩
   .rcases k1 b hb with h|h
    .exact .inl h
    .exact .inr (by omega)
   .rcases k3 b hb with h|h
    .omega
    .omega
   .rcases h with h|h
    .exact h
    .omega
 have hini:oB S nm m=⟨nm,m,0,bQ aX m (bS S nm).1,0,(bS S nm).2.1&&(bS S nm).1.length==m.size&&yV (bQ aX m (bS S nm).1),0⟩:=rfl
 have hbl:(bS S nm).1.length<=1000000:=by
  unfold bS
  split
  .simp
  .cases hg:bF nm S.seen with
   |none=>simp
   |some b=>exact hb1 b hg
 generalize bS S nm=rb at*
 obtain⟨b,th,e⟩:=rb
 simp only at ho hO hini hbl⊢
 by_cases he:e=0
 rotate_left
 .have n2:(e !=0)=true:=bne_iff_ne.2 he
  rw[if_pos he]at hO
  simp(disch:=omega)only[seval,n2]
  exact toOpen hO ⟨rfl,_,bY.step (x5.mono λ_ _ h=>h.elim) (λ_ h=> .inl h) (λ_ h=>h) (λ_ h=> .inl h) (bY.refl h5)⟩
 have n2:(e !=0)=false:=bne_eq_false_iff_eq.2 he
 rw[if_neg (by rw[he];decide)]at hO
 have hbv:Bs w5 v b:=ho.sl
 obtain⟨va,vc,rfl,_⟩:=hbv.len
 rw[aJy]at hbv ho⊢
 simp(disch:=omega)only[seval,n2]
 refine(akV h5 hbv hbl).mono ?_
 rintro r w6 ⟨ob,rfl,hob,oo,x6⟩
 obtain⟨W,hW⟩:∃W,W=bQ aX m b:=⟨_,rfl⟩
 have hWl:W.length=m.leaves.length:=by rw[hW];unfold bQ;simp
 have oo:bD w6 ob (W.map Value.bool):=by rw[hW];exact oo
 rw[<-hW]at hini
 have hml:(⟨nm,m,0,[],0,false,0⟩:eQ).man.leaves.length=W.length:=hWl.symm
 rw[hml]
 have h6:=h5.new x6
 refine Et h6.own rfl (by simp) λw7 o7 x7 s7=> ?_
 have h7:=h5.newHv (s':=⟨nm,m,0,W,0,false,0⟩) x6 hob oo (by omega) x7 o7 rfl rfl rfl (by show 0<_;omega) (by show 0<=_;omega)
 have x47:aL w4 w7 (λy=>X y∨y=q):=((x5.seq x6).mono λ_ _ h=>h.elim).seq (x7.mono λ_ _ h=> .inr h)
 have o37:=((o34.ext x5 (λh=>h)).ext x6 (λh=>h)).ext x7 (show¬mb=q by have:=x2.size;have:=x1.size;omega)
 have k0:=o37.cell (off:=0)
 simp only[aJz]at k0
 obtain⟨f0,f1,f2,f3,f4,f5,f6,f7,f8,f9⟩:=h7.cells
 have z5:=x5.size
 have hYn:∀y,(y=q∨y=ob)->y=q∨w4.heap.size<=y:=λy hy=>hy.imp id λh=>by omega
 have tail:∀{w8:aLW} {fn:Bool},fn=(th&&b.length==m.size&&yV W)->aL w7 w8 aT→
     aA pg (aF 4 (.pointer (some ⟨q,8,none⟩)) (.bool fn)) w8 λ_u w=>aG pg kK #[dP q] w λt97 w=>aA pg (aP t97 0) w λt98 w=>aA pg (aP t97 1) w λt99 w=>aA pg (aE .neq 31 (.tmp 100) (.const (.int .i64 0)) t99 (.int .i64 0)) w λt101 w=>cP t101 (RR (.tuple #[.pointer none,t99]) w) (yF RR (dP p) (.int .i64 (jT m.size m.part:Nat)) (dP q) t98 w):=λ{w8 fn} hfn x8=>by
  have h8:=h7.new x8
  refine tP h8.own rfl (by simp) λw9 o9 x9 s9=> ?_
  obtain⟨s0,hs0⟩:∃s0:eQ,s0=⟨nm,m,0,W,0,fn,0⟩:=⟨_,rfl⟩
  have hs0':s0=oB S nm m:=by rw[hini,hs0,hfn]
  have h9:=h8.set (s':=s0) x9 (by rw[hs0];exact o9) (by rw[hs0]) (by rw[hs0]) (by rw[hs0]) (by rw[hs0];show 0<_;omega) (by rw[hs0];show 0<=_;omega)
  have hnm0:s0.nm=nm:=by rw[hs0]
  have hman0:s0.man=m:=by rw[hs0]
  have x49:aL w4 w9 (λy=>X y∨y=q):=(x47.seq (x8.mono λ_ _ h=>h.elim)).seq (x9.mono λ_ _ h=> .inr h)
  refine(aCH h9 (hB.le (by omega)) (by rw[hnm0];exact hb2)).mono ?_
  rintro r w10 ⟨o,X',D',Y',lv2,hv2,rfl,h10,hX',hD',hY',x10,hocl,hon⟩
  obtain⟨bf1,bf2,bf3,bf4,bf5⟩:=M9 (S:=S) (s:=s0)
  rw[hnm0]at bf2 bf3 bf5
  rw[hman0]at bf1
  have hBk:=aEU (n:=2) (s:=s0) hB
  rw[<-hs0']at hO
  have hlogl:(bS S (cY nm)).1.length<=1000000:=by
   unfold bS
   split
   .simp
   .cases hg:bF (cY nm) S.seen with
    |none=>simp
    |some b=>exact hb2 b hg
  generalize fR S s0=B at*
  obtain⟨S2,s2',e2,L⟩:=B
  simp only at h10 hO bf1 bf2 bf3 bf4 bf5 hBk hocl⊢
  have pst:bY n0 w4 q p X (λb=>D b∨b=q) (λb=>b=q) S2 s2' w10:=bY.step x49 (λ_ h=> .inl h) (λ_ h=> .inl h) hYn ⟨X',D',Y',_,_,h10,hX',hD',hY',x10⟩
  by_cases he2:e2=0
  .subst he2
   rw[if_neg (by decide)]at hO
   have n3:((0:Int) !=0)=false:=rfl
   simp(disch:=omega)only[seval,n3]
   refine aBD h10 hBk (by rw[bf2,bf3];exact hb3) (by rw[bf1];exact hm3.symm) hocl hon (by omega) bf4 λr w' hm=>toOpen hO ?_
   generalize KF S2 s2' L=R at*
   obtain⟨S3,so,e3⟩:=R
   cases so with
   |none=>
    obtain⟨k1,s',k2⟩:=hm
    exact⟨k1,s',bY.step x49 (λ_ h=> .inl h) (λ_ h=> .inl h) hYn (bY.step x10 hX' hD' hY' k2)⟩
   |some s'=>
    obtain⟨k0,k1,k2⟩:=hm
    exact⟨k0,k1,bY.step x49 (λ_ h=> .inl h) (λ_ h=> .inl h) hYn (bY.step x10 hX' hD' hY' k2)⟩
  .have n3:(e2 !=0)=true:=bne_iff_ne.2 he2
   rw[if_pos he2]at hO
   simp(disch:=omega)only[seval,n3]
   exact toOpen hO ⟨rfl,_,pst⟩
 cases th with
 |false=>
  have:=tail (w8:=w7) (fn:=false) (by simp) (aL.refl _ _)
  simp(disch:=omega)only[seval]
  exact this
 |true=>
  have e3:IntKind.u64.wrap ((b.length:Nat):Int)=((b.length:Nat):Int):=hU (by omega) (by omega)
  by_cases hle:b.length=m.size
  .have q2:(((b.length:Nat):Int)==((m.size:Nat):Int))=true:=by rw[beq_iff_eq];omega
   simp(disch:=omega)only[seval,e3,k0,q2,f6]
   refine(akM (Vs h7.hv) (by show W.length<=_;omega)).mono ?_
   rintro r w8 ⟨rfl,hw⟩
   rw[hw];clear hw w8
   have:=tail (w8:=w7) (fn:=yV W) (by have:(b.length==m.size)=true:=by rw[beq_iff_eq];exact hle
                                      rw[this];simp) (aL.refl _ _)
   simp(disch:=omega)only[seval]
   exact this
  .have q2:(((b.length:Nat):Int)==((m.size:Nat):Int))=false:=by rw[beq_eq_false_iff_ne];omega
   have:=tail (w8:=w7) (fn:=false) (by have:(b.length==m.size)=false:=by rw[beq_eq_false_iff_ne];exact hle
                                       rw[this];simp) (aL.refl _ _)
   simp(disch:=omega)only[seval,e3,k0,q2]
   exact this
def atT(f:List UInt8)(k i:Nat):List (List UInt8):=(List.range i).map λj=>aX (B4 f.length k j f)
theorem aBz(f:List UInt8)(k i:Nat):atT f k (i+1)=atT f k i++[aX (B4 f.length k i f)]:=by simp[atT,aLd]
theorem aDp(f:List UInt8)(k i:Nat):(atT f k i).length=i:=by simp[atT]
theorem aDq(f:List UInt8)(k:Nat):(jG aX f k).leaves=atT f k (jT f.length k):=rfl
theorem aDr{f:List UInt8}{k:Nat}(hk:1<=k/\k<=65536)(hf:f.length<=1000):Cg (jG aX f k):=by
 have:=apJ (L:=f.length) (show 0<k by omega)
 refine⟨by show f.length<=_;omega,hk,Tf aX f k,by show jT f.length k<=_;omega,λx hx=> ?_⟩
 obtain⟨j,-,rfl⟩:=aKm.1 hx
 exact uA _
theorem aC1 {h:List UInt8}(hl:h.length=32):Go.Instr.fill (λj=>some (j*32,32)) ((Array.range (1*32)).map ((Tryz.t70.zero.get!).cells[·%(Tryz.t70.zero.get!).cells.size]!)) [(0,.agg (h.map gO).toArray)]=some (h.map gO).toArray:=
 match h,hl with
 |[a0,a1,a2,a3,a4,a5,a6,a7,a8,a9,a10,a11,a12,a13,a14,a15,a16,a17,a18,a19,a20,a21,a22,a23,a24,a25,a26,a27,a28,a29,a30,a31],_=>by kernel_rfl
theorem ahQ{f:List UInt8}{bv:aLX}{k:Nat}{w:aLW}(hg:lO w)(hb:Bs w bv f)(hf:f.length<=1000)(hk:1<=k/\k<=65536):
 aG pg Fa #[bv,.int .i64 (k:Nat)] w (λr w'=>∃lv,r= .tuple #[.agg (wA (jG aX f k) lv).toArray,.int .i64 0]/\kW w' w.heap.size 32 lv (jG aX f k).leaves.length (VZ (jG aX f k).leaves)/\aL w w' aT):=by
 refine ahR ?_
 obtain⟨RR,hRR⟩:∃RR:aLX->aLW->Prop,RR=λr w'=>∃lv,r= .tuple #[.agg (wA (jG aX f k) lv).toArray,.int .i64 0]/\kW w' w.heap.size 32 lv (jG aX f k).leaves.length (VZ (jG aX f k).leaves)/\aL w w' aT:=⟨_,rfl⟩
 rw[<-hRR]
 obtain⟨g0,g1⟩:=hg.lt
 have hcn:=apJ (L:=f.length) (show 0<k by omega)
 unfold anN WU WT
 obtain⟨ba,bc,rfl,hbc⟩:=hb.len
 rw[aJy]at hb hbc⊢
 refine sM λw1 o1 x1 s1=> ?_
 have e1:IntKind.u64.wrap ((f.length:Nat):Int)=((f.length:Nat):Int):=hU (by omega) (by omega)
 have e2:IntKind.u32.wrap ((k:Nat):Int)=((k:Nat):Int):=Kp (by omega) (by omega)
 have n1:((0:Int) !=0)=false:=rfl
 simp(disch:=omega)only[aA,mI,jM,aI,ED,Kp,jA,e1,lV]
 refine(apM (by omega) hk.1 hk.2).mono ?_
 rintro r w2 ⟨rfl,hw⟩
 rw[hw];clear hw w2
 rw[if_neg (by omega)]
 simp(disch:=omega)only[x20,x21,aI,Mm,n1,bH]
 refine sM λw2 o2 x2 s2=> ?_
 obtain⟨p,hp⟩:∃p,p=w.heap.size:=⟨_,rfl⟩
 obtain⟨q,hq⟩:∃q,q=w1.heap.size:=⟨_,rfl⟩
 rw[<-hp]at o1⊢
 rw[<-hq]at o2⊢
 refine qG o2 rfl (by simp[one]) (by simp) λw3 o3 x3 s3=> ?_
 have o3:bD w3 q [.int .u64 (f.length:Nat),.int .u32 (k:Nat),.slice none 0 0]:=o3
 have o13:=(o1.ext x2 (λh=>h)).ext x3 (show¬p=q by omega)
 have x03:aL w w3 aT:=(x1.seq x2).trans x3 λy hy h=>by omega
 have z3:w3.heap.size=q+1:=by omega
 unfold Nv Nu WS G3
 try simp only[true_and]
 refine bM.rule (λm (t:aLX) w'=>∃(i:Nat) (lv:aLX),m=jT f.length k-i/\i<=jT f.length k/\t= .int .i64 (i:Nat)/\bD w' q [.int .u64 (f.length:Nat),.int .u32 (k:Nat),lv]/\kW w' (q+1) 32 lv i (VZ (atT f k i))/\aL w3 w' (λy=>y=q∨q<y)) (jT f.length k)
  ⟨0,_,rfl,by omega,rfl,o3,kW.nil _ _ _,aL.refl _ _⟩ ?_
 clear o3
 rintro m t w4 ⟨i,lv,rfl,hi,rfl,o4,hs,x4⟩
 unfold Nt
 have x04:aL w w4 aT:=x03.trans x4 λy hy h=>by omega
 have z4:=x4.size
 by_cases hlt:i<jT f.length k
 .have d1:decide ((i:Int)<((jT f.length k:Nat):Int))=true:=by simp;omega
  have c0:=o4.cell (off:=0)
  simp only[aJz]at c0
  simp(disch:=omega)only[aA,fD,d1,iR,jM,aI,gT,aJC,aO,Result.ok.injEq,Next.value.injEq,and_true,fS,dI,true_and,Ar,BS,c0,bL,cN]
  refine(akH (by omega) hk.1 hk.2 (by omega) hlt).mono ?_
  rintro r w5 ⟨rfl,hw⟩
  rw[hw];clear hw w5
  have hki:=(AH (show 0<k by omega)).1 hlt
  have hse:=Yt hki
  obtain⟨P,hP⟩:∃P,P=k*i:=⟨_,rfl⟩
  obtain⟨N,hN⟩:∃N,N=UY f.length k i:=⟨_,rfl⟩
  rw[<-hP,<-hN]at hse⊢
  have e3:IntKind.u64.wrap ((N:Nat):Int)=((N:Nat):Int):=hU (by omega) (by omega)
  have e4:(P:Int)+(N:Int)=((P+N:Nat):Int):=by omega
  have od:=dB o4
  have c2:=od.cell (off:=2)
  simp only[aJz,aJF]at c2
  have x04d:aL w (dr w4) aT:=x04.seq (aL.dr _ _)
  simp(disch:=omega)only[x30,x31,x32,aI,Mm,n1,bH,jA,e3,true_and,c2,bL,fS,e4,hU,rJ,aJE]
  have hbd:Bs (dr w4) (.slice (dD ba bc P 1) (P+N-P) (bc-P)) (B4 f.length k i f):=by
   have:=Sl.mid (hb.ext x04d (bC _)) (i:=P) (j:=P+N) (by omega) (by omega)
   rw[<-aLf,<-aLz,aKB]at this
   rw[aKB]
   unfold B4
   rw[<-hP,<-hN]
   exact this
  refine(aDk (hg.ext x04d) hbd (by have:=Vu f.length k i f;omega)).mono ?_
  rintro r w5 ⟨rfl,x5⟩
  have o5:=od.ext x5 (λh=>h)
  have c5:=o5.cell (off:=2)
  simp only[aJz,aJF]at c5
  have hll:(aX (B4 f.length k i f)).length=32:=uA _
  simp(disch:=omega)only[c5,bL,true_and]
  refine alF (cells:=((aX (B4 f.length k i f)).map gO).toArray) (by decide) (by decide) ?_ λw6 o6 x6 s6=> ?_
  .exact aC1 hll
  rw[aJV]at o6
  have o65:=o5.ext x6 (λh=>h)
  have c6:=o65.cell (off:=2)
  simp only[aJz,aJF]at c6
  simp(disch:=omega)only[c6,bL,true_and]
  have z5:=x5.size
  have z6:=x6.size
  have zd:(dr w4).heap.size=w4.heap.size:=rfl
  refine Ap ((hs.ext ((aL.dr w4 aT).seq x5) (λ_ _ h=>h)).ext x6 (λ_ _ h=>h)) (o6.cl (off:=0) (n:=1) (by rw[aJy,hll]) (λj hj=>by rw[aJC])) (DN _) (by omega) (by omega) λv7 w7 o7 x7=> ?_
  have o75:=o65.ext x7 (by omega)
  refine U0 o75 (by rcases o7.2 with⟨rfl,_⟩|⟨_,_,_,rfl,_⟩<;>rfl) (by simp) λw8 o8 x8 s8=> ?_
  simp only[aJR,aKe]at o8
  have o78:=o7.ext x8 (λb hb h=>by omega)
  refine⟨jT f.length k-(i+1),by omega,i+1,v7,rfl,by omega,rfl,o8, ?_, ?_⟩
  .rw [aBz]
   show kW w8 (q+1) 32 v7 (i+1) (List.flatMap _ (atT f k i++[aX (B4 f.length k i f)]))
   rw[List.flatMap_append,List.flatMap_singleton]
   exact o78
  .refine (((x4.seq (aL.dr _ _)).seq (x5.mono λ_ _ h=>h.elim)).seq (x6.mono λ_ _ h=>h.elim)).seq (x7.mono λy _ h=> .inr (by omega))|>.seq (x8.mono λy _ h=> .inl h)
 .have d1:decide ((i:Int)<((jT f.length k:Nat):Int))=false:=by simp;omega
  obtain rfl:i=jT f.length k:=by omega
  unfold Ns
  have lm:=fX (off:=0) o4 (by simp)
  have lm:(aB 30 (.pointer (some ⟨q,0,none⟩))).run pg w4= .ok (.value (.agg #[.int .u64 (f.length:Nat),.int .u32 (k:Nat),lv])) w4:=lm
  simp(disch:=omega)only[aA,fD,d1,iR,jM,aI,gT,aJC,aO,Result.ok.injEq,Next.value.injEq,and_true,fS,dI,true_and,Ar,BS,lm,bH]
  have lv1:one lv=true:=by rcases hs.2 with⟨rfl,_⟩|⟨_,_,_,rfl,_⟩<;>rfl
  refine qG (o13.ext x4 (by omega)) rfl (by simp[one];exact lv1) (by simp) λw5 o5 x5 s5=> ?_
  refine TN o5 (by simp[eF]) ?_
  rw[hRR]
  refine⟨lv,rfl, ?_,x04.trans x5 λy hy h=>by omega⟩
  rw[aDq,aDp]
  have o':=hs.ext x5 (λb hb h=>by omega)
  refine⟨o'.1, ?_⟩
  rcases o'.2 with h|⟨b,c,rest,h1,h2,h3⟩
  .exact .inl h
  .exact .inr ⟨b,c,rest,h1,by omega,h3⟩
theorem anR{w:aLW}{S T:Nat->Prop}{sz n:Nat}{v:aLX}{l:List aLX}(h:Di w S sz v n l)(hT:∀b,S b->b<w.heap.size->T b):Di w T sz v n l:=by
 refine⟨h.1, ?_⟩
 rcases h.2 with h2|⟨b,c,rest,h1,h2,h3,h4,h5⟩
 .exact .inl h2
 .exact .inr ⟨b,c,rest,h1,hT b h2 h3.lt,h3,h4,h5⟩
theorem aqD{w:aLW}{b:Nat}{l:List UInt8}(h:bD w b (l.map gO)):Bs w (.slice (some ⟨b,0,none⟩) l.length l.length) l:=
 h.bs (off:=0) (c:=l.length) (aJK _) (λi hi=>by rw[aJC,aJ0,aJA hi]<;>rfl)
theorem aIU{S:Nat->Prop}{v x:aLX}{l m:List UInt8}{w:aLW}(h:Di w S 1 v l.length (l.map gO))(hx:Bs w x m)(hb:∀b,w.heap.size<=b->S b)(hn:l.length+m.length<=100000000){K:aLX->aLW->Prop}
 (hk:∀v' w',Di w' S 1 v' (l++m).length ((l++m).map gO)->aL w w' S->K v' w'):aA pg (eI .append #[22,22] 22 [v,x]) w K:=by
 have hcl:Cl w 1 x m.length (m.map gO):=by have:=hx.cl;rwa [aJy]at this
 refine yG (m:=m.length) (news:=m.map gO) (i:=Tryz.t5) Tryz.underlying22 Tryz.underlying22 Ma rfl rfl rfl h hcl (DN _) hb (by omega) (by rw[show Tryz.t5.bytes=1 from rfl];omega) (by decide) λv3 w3 o3 x3=> ?_
 refine hk v3 w3 ?_ x3
 rw[aJB,aJ7]
 exact o3
theorem ajC{x n:Nat}{w:aLW}(hx:x<2^64)(hn:n<=8):
 aG pg BF #[.int .u64 (x:Nat),.int .i64 (n:Nat)] w (λr w'=>r= .string ⟨(tY x n).toArray⟩/\aL w w' aT):=by
 refine aiD ?_
 unfold anX Xi Xh
 have d1:decide ((n:Int)>8)=false:=decide_eq_false (by omega)
 have d2:decide ((8:Int)<(n:Int))=false:=decide_eq_false (by omega)
 obtain⟨RR,hRR⟩:∃RR:aLX->aLW->Prop,RR=λr w'=>r= .string ⟨(tY x n).toArray⟩/\aL w w' aT:=⟨_,rfl⟩
 rw[<-hRR]
 simp(disch:=omega)only[seval,d1,d2]
 unfold ND NC Xg G7
 refine bM.rule (λm (t:aLX×aLX×aLX) w1=>∃i vo,m=n-i/\t=(.int .u64 (x/256^i:Nat),vo,.int .i64 (i:Nat))/\i<=n/\Di w1 (λy=>w.heap.size<=y) 1 vo (tY x i).length ((tY x i).map gO)/\aL w w1 aT) n
  ⟨0,_,by omega,by rw[Nat.pow_zero,Nat.div_one]<;>rfl,by omega,⟨rfl,.inl ⟨rfl,rfl⟩⟩,aL.refl _ _⟩ ?_
 rintro m t w1 ⟨i,vo,rfl,rfl,hi,hS,x1⟩
 show G6 _ _ (.int .u64 (x/256^i:Nat)) (.int .i64 (n:Nat)) vo (.int .i64 (i:Nat)) w1
 unfold G6
 by_cases hlt:i<n
 rotate_left
 .have d3:decide ((i:Int)<(n:Int))=false:=decide_eq_false (by omega)
  have hin:i=n:=by omega
  rw[hin]at hS
  have hcv:=eK (l:=tY x n) (Vs hS)
  simp(disch:=omega)only[seval,d3]
  unfold NB
  simp(disch:=omega)only[seval,hcv]
  rw[hRR]
  exact⟨rfl,x1⟩
 have d3:decide ((i:Int)<(n:Int))=true:=decide_eq_true (by omega)
 have hle:x/256^i<=x:=aLE _ _
 obtain⟨q,hq⟩:∃q,q=x/256^i:=⟨_,rfl⟩
 rw[<-hq]at hle⊢
 have e1:(q:Int).tmod 256=((q%256:Nat):Int):=rfl
 have e2:(q:Int).tdiv 256=((q/256:Nat):Int):=rfl
 have w2:IntKind.u64.wrap ((q%256:Nat):Int)=((q%256:Nat):Int):=hU (by omega) (by omega)
 have w3:IntKind.u64.wrap ((q/256:Nat):Int)=((q/256:Nat):Int):=hU (by omega) (by omega)
 have w4:IntKind.u8.wrap ((q%256:Nat):Int)=((q%256:Nat):Int):=aCf (by omega) (by omega)
 have e7:(i:Int)+1=((i+1:Nat):Int):=by omega
 simp(disch:=omega)only[seval,d3,e1,w2,w4]
 refine kP (cells:= #[.int .u8 ((q%256:Nat):Int)]) (by decide) (by decide) (by kernel_rfl) λw2' o2 x2 s2=> ?_
 have ho:bD w2' w1.heap.size ([UInt8.ofNat (q%256)].map gO):=by
  have e:([UInt8.ofNat (q%256)].map gO)=[.int .u8 ((q%256:Nat):Int)]:=by
   simp only[aJQ,aLQ,gO]
   rw[aAw (by omega)]
  rw[e];exact o2
 have z1:=x1.size
 have z2:=x2.size
 have S2:Di w2' (λy=>(w.heap.size<=y/\y<w1.heap.size)∨w2'.heap.size<=y) 1 vo _ _:=(anR hS λy hy h=> .inl ⟨hy,h⟩).ext x2 λ_ _ h=>h
 refine aIU S2 (aqD ho) (λy hy=> .inr hy) (by rw[dW];simp;omega) λv3 w3' o3 x3=> ?_
 simp(disch:=omega)only[seval,e2,w3,e7]
 have hs:tY x (i+1)=tY x i++[UInt8.ofNat (q%256)]:=by rw[Ti,<-hq]
 have hp:q/256=x/256^(i+1):=by rw[hq,Nat.div_div_eq_div_mul,aLn]
 refine⟨n-(i+1),by omega,i+1,v3,rfl,by rw[hp],by omega, ?_,(x1.seq x2).trans x3 λy hy h=>by omega⟩
 rw[hs]
 exact anR o3 λy hy _=>by omega
theorem agL{x:ByteArray}{l:List UInt8}(h:lst x=l):x=⟨l.toArray⟩:=by
 subst h
 cases x
 rfl
theorem aCZ{b:List UInt8}{n:Nat}:(⟨b.toArray⟩:ByteArray).extract 0 n=⟨(b.take n).toArray⟩:=by
 refine agL ?_
 rw[RE]
 rfl
theorem asX{b:List UInt8}{n:Nat}:(⟨b.toArray⟩:ByteArray).extract n b.length=⟨(b.drop n).toArray⟩:=by
 refine agL ?_
 rw[RE]
 have:lst (⟨b.toArray⟩:ByteArray)=b:=rfl
 rw[this,aJD (by rw[aJO];omega)]
theorem aBT{b:List UInt8}{n:Nat}{w:aLW}(hn:n<=b.length):aG pg GP #[.agg #[.string ⟨b.toArray⟩,.int .i64 0],.int .i64 (n:Nat)] w (λr w'=>r= .tuple #[.agg #[.string ⟨(b.drop n).toArray⟩,.int .i64 0],.string ⟨(b.take n).toArray⟩]/\aL w w' aT):=by
 refine adC ?_
 obtain⟨RR,hRR⟩:∃RR:aLX->aLW->Prop,RR=λr w'=>r= .tuple #[.agg #[.string ⟨(b.drop n).toArray⟩,.int .i64 0],.string ⟨(b.take n).toArray⟩]/\aL w w' aT:=⟨_,rfl⟩
 rw[<-hRR]
 have hsz:(⟨b.toArray⟩:ByteArray).size=b.length:=by simp[ByteArray.size]
 unfold aiE Uw
 refine cA λw1 o1 x1 s1=> ?_
 have o1:bD w1 w.heap.size [.string ⟨b.toArray⟩,.int .i64 0]:=o1
 obtain⟨db,hdb⟩:∃db,db=w.heap.size:=⟨_,rfl⟩
 rw[<-hdb]at o1⊢
 refine wH λw2 o2 x2 s2=> ?_
 obtain⟨rb,hrb⟩:∃rb,rb=w1.heap.size:=⟨_,rfl⟩
 rw[<-hrb]at o2⊢
 have oD:=o1.ext x2 (λh=>h)
 have c0:w2.cell? ⟨db,0,none⟩=some (.string ⟨b.toArray⟩):=oD.cell (off:=0)
 have c1:w2.cell? ⟨db,1,none⟩=some (.int .i64 0):=oD.cell (off:=1)
 have n1:((0:Int) !=0)=false:=rfl
 have d1:decide (((n:Nat):Int)<0)=false:=by simp
 have d2:decide (((b.length:Nat):Int)<((n:Nat):Int))=false:=by simp only[decide_eq_false_iff_not];omega
 have hnn:(n:Int).toNat=n:=aJE _
 have s1':=λw=>Oy (k:= .i64) (hi:=(n:Int)) ⟨b.toArray⟩ w (by omega) (by rw[hsz];omega)
 have s2':=λw=>Hn (k:= .i64) (lo:=(n:Int)) ⟨b.toArray⟩ w (by omega) (by rw[hsz];omega)
 have t1:=aCZ (b:=b) (n:=n)
 have t2:=asX (b:=b) (n:=n)
 simp(disch:=omega)only[seval,c0,c1,n1,d1,hsz,d2,s1',s2',hnn,t1,t2,aJC]
 refine Z3 (off:=0) oD rfl (by simp) λw3 o3 x3 s3=> ?_
 have o3:bD w3 db [.string ⟨(b.drop n).toArray⟩,.int .i64 0]:=o3
 have ld:(aB 158 (.pointer (some ⟨db,0,none⟩))).run pg w3= .ok (.value (.agg #[.string ⟨(b.drop n).toArray⟩,.int .i64 0])) w3:=uV (off:=0) o3 (by simp)
 simp(disch:=omega)only[seval,ld]
 refine nJ (o2.ext x3 (λhh=>by omega)) rfl (by intro x hx;simp only[aJG,aJJ,or_false]at hx;rcases hx with rfl|rfl<;>rfl) (by simp) λw4 o4 x4 s4=> ?_
 have o4:bD w4 rb [.string ⟨(b.drop n).toArray⟩,.int .i64 0]:=o4
 refine Dp o4 (by simp) ?_
 rw[hRR]
 exact⟨rfl,((x1.seq x2).trans x3 λy hy hh=>by omega).trans x4 λy hy hh=>by omega⟩
end Go.Proofs.YteelnmpbnaohpaaGreatDoor
namespace Go.Proofs.YteelnmpbnaohpaaGreatDoor
open Go Go.En Go.Pu
set_option maxRecDepth 4000
set_option maxHeartbeats 1000000
theorem ayU(w:aLW):aG pg EB #[] w (λr w'=>r= .agg (kN.map u32).toArray/\aL w w' aT):=by
 refine ZC ?_
 unfold abC R0
 refine Ck λw1 o1 x1 s1=> ?_
 simp(disch:=omega)only[seval]
 refine Pk o1 rfl (by simp[one]) (by simp) λw2 o2 x2 s2=> ?_
 refine acU o2 (by simp[eF]) ?_
 exact⟨rfl,x1.trans x2 λy hy h=>by omega⟩
theorem aBc(P:List UInt8)(k:Nat):GW (k+1) P=Kq (GW k P) ((P.drop (64*k)).take 64):=rfl
def Po(i:Nat):List UInt8:=List.replicate i 0
theorem azV(i:Nat):Po (i+1)=Po i++[0]:=aLS
theorem aD3 {L:List UInt8}{w:aLW}(hl:L.length<=900000):
 aG pg M0 #[.string ⟨L.toArray⟩] w (λr w'=>r= .agg ((Yq L).map gO).toArray/\aL w w' aT):=by
 refine alX ?_
 obtain⟨RR,hRR⟩:∃RR:aLX->aLW->Prop,RR=λr w'=>r= .agg ((Yq L).map gO).toArray/\aL w w' aT:=⟨_,rfl⟩
 rw[<-hRR]
 have hsz:(⟨L.toArray⟩:ByteArray).size=L.length:=by simp[ByteArray.size]
 unfold auZ Xv Xu
 refine A0 λw1 o1 x1 s1=> ?_
 have o1:bD w1 w.heap.size (List.replicate 32 (.int .u8 0)):=o1
 obtain⟨sb,hsb⟩:∃sb,sb=w.heap.size:=⟨_,rfl⟩
 rw[<-hsb]at o1⊢
 refine HV λw2 c hsl x2 s2 ⟨rr,o2,hc⟩=> ?_
 obtain⟨bb,hbb⟩:∃bb,bb=w1.heap.size:=⟨_,rfl⟩
 rw[<-hbb]at o2 hsl⊢
 rw[hsz]at hc⊢
 have o2:bD w2 bb (L.map gO++List.replicate rr (.int .u8 0)):=o2
 have os2:kW w2 bb 1 (.slice (some ⟨bb,0,none⟩) L.length c) L.length (L.map gO):=⟨by simp,.inr ⟨bb,c,_,rfl,aJK _,o2,by simp;omega,by omega⟩⟩
 simp(disch:=omega)only[seval]
 refine kP (cells:= #[.int .u8 128]) (by decide) (by decide) (by kernel_rfl) λw3 o3 x3 s3=> ?_
 refine iQ (m:=1) (news:=[.int .u8 128]) (os2.ext x3 (λ_ _ h=>h)) (o3.cl (off:=0) (l:=[.int .u8 128]) (n:=1) rfl (λi hi=>by rw[aJC])) (by simp[one]) (by omega) (by omega) λv4 w4 o4 x4=> ?_
 have x14:aL w1 w4 (λy=>bb<=y):=((x2.mono λ_ _ h=>h.elim).seq (x3.mono λ_ _ h=>h.elim)).seq x4
 have o4:kW w4 bb 1 v4 (L++[128]++Po 0).length ((L++[128]++Po 0).map gO):=by
  have e:(L++[128]++Po 0)=L++[128]:=by simp[Po]
  rw[e,aJB,aJ7]
  exact o4
 unfold Ob Hd
 refine bM.rule (λm (t:aLX) W=>∃i:Nat,m=(119-L.length%64)%64-i/\i<=(119-L.length%64)%64/\kW W bb 1 t (L++[128]++Po i).length ((L++[128]++Po i).map gO)/\aL w1 W (λy=>bb<=y)) ((119-L.length%64)%64) ⟨0,rfl,by omega,o4,x14⟩ ?_
 clear o4 x14
 rintro m t w5 ⟨i,rfl,hi,o5,x5⟩
 obtain⟨ta,tc,rfl⟩:=o5.len
 have hlen:(L++[128]++Po i).length=L.length+1+i:=by simp[Po];omega
 have z5:=x5.size
 unfold Oa
 have q1:(((L++[128]++Po i).length:Nat):Int)+8=((L.length+1+i+8:Nat):Int):=by omega
 have q2:((L.length+1+i+8:Nat):Int).tmod 64=(((L.length+1+i+8)%64:Nat):Int):=rfl
 by_cases hlt:i<(119-L.length%64)%64
 .have n1:((((L.length+1+i+8)%64:Nat):Int) !=0)=true:=by rw[bne_iff_ne];omega
  simp(disch:=omega)only[seval,q1,q2,n1]
  refine kP (cells:= #[.int .u8 0]) (by decide) (by decide) (by kernel_rfl) λw6 o6 x6 s6=> ?_
  refine iQ (m:=1) (news:=[.int .u8 0]) (o5.ext x6 (λ_ _ h=>h)) (o6.cl (off:=0) (l:=[.int .u8 0]) (n:=1) rfl (λi hi=>by rw[aJC])) (by simp[one]) (by omega) (by omega) λv7 w7 o7 x7=> ?_
  refine⟨(119-L.length%64)%64-(i+1),by omega,i+1,rfl,by omega, ?_,(x5.seq (x6.mono λ_ _ h=>h.elim)).seq x7⟩
  rw[azV,<-aJS,aJB,aJ7]
  exact o7
 have n1:((((L.length+1+i+8)%64:Nat):Int) !=0)=false:=by
  have:(L.length+1+i+8)%64=0:=by omega
  rw[this]<;>rfl
 simp(disch:=omega)only[seval,q1,q2,n1]
 obtain rfl:i=(119-L.length%64)%64:=by omega
 unfold NZ Xt
 have e1:IntKind.u64.wrap ((L.length:Nat):Int)=((L.length:Nat):Int):=hU (by omega) (by omega)
 have e2:((L.length:Nat):Int)*8=((8*L.length:Nat):Int):=by omega
 simp(disch:=omega)only[seval,hsz,e1,e2]
 obtain⟨X,hX⟩:∃X,X=8*L.length:=⟨_,rfl⟩
 have hXb:X<=8000000:=by omega
 rw[<-hX]
 obtain⟨Q,hQ⟩:∃Q,Q=L++[128]++Po ((119-L.length%64)%64):=⟨_,rfl⟩
 rw[<-hQ]at o5 hlen⊢
 clear n1 q1 q2 hlt hi e1 e2
 unfold NY NX Xs Hc
 refine bM.rule (λm (t:aLX×aLX) W=>∃(i:Nat) (bv:aLX),m=8-i/\i<=8/\t=(bv,.int .i64 (i:Nat))/\kW W bb 1 bv (Q++beN X i).length ((Q++beN X i).map gO)/\aL w1 W (λy=>bb<=y)) 8 ⟨0,_,rfl,by omega,rfl,by rw[show beN X 0=[]from rfl,aKb];exact o5,x5⟩ ?_
 clear o5 x5
 rintro m t w6 ⟨i,bv,rfl,hi,rfl,o6,x6⟩
 obtain⟨ta,tc,rfl⟩:=o6.len
 have z6:=x6.size
 unfold NW
 by_cases hlt:i<8
 .have d1:decide ((i:Int)<8)=true:=by simp;omega
  have q1:(8:Int)*(i:Int)=((8*i:Nat):Int):=by omega
  have q2:(56:Int)-((8*i:Nat):Int)=((56-8*i:Nat):Int):=by omega
  have q3:IntKind.u64.wrap ((56-8*i:Nat):Int)=((56-8*i:Nat):Int):=hU (by omega) (by omega)
  have q4:=Lx X (56-8*i)
  have q5:min (56-8*i) IntKind.u64.bits=56-8*i:=aJ1 (show 56-8*i<=64 from by omega)
  have q6:IntKind.u8.wrap ((X/2^(56-8*i):Nat):Int)=((X/2^(56-8*i)%256:Nat):Int):=by rw[wu8];omega
  have q7:(i:Int)+1=((i+1:Nat):Int):=by omega
  have hby:Value.int .u8 ((X/2^(56-8*i)%256:Nat):Int)=gO (UInt8.ofNat (X/2^(56-8*i)%256)):=by
   unfold gO
   rw[aKT,Nat.mod_mod]
  have hsl:=arZ X i
  generalize UInt8.ofNat (X/2^(56-8*i)%256)=u at*
  generalize X/2^(56-8*i)%256=y at*
  have hql:(Q++beN X i).length=Q.length+i:=by rw[aJB,aeZ]
  simp(disch:=omega)only[seval,d1,q1,q2,q3,q4,q5,q6,hby]
  refine kP (cells:= #[gO u]) (by decide) (by decide) (by kernel_rfl) λw7 o7 x7 s7=> ?_
  refine iQ (m:=1) (news:=[gO u]) (o6.ext x7 (λ_ _ h=>h)) (o7.cl (off:=0) (l:=[gO u]) (n:=1) rfl (λi hi=>by rw[aJC])) (by simp[one,gO]) (by omega) (by omega) λv8 w8 o8 x8=> ?_
  simp(disch:=omega)only[seval,q7]
  refine⟨8-(i+1),by omega,i+1,_,rfl,by omega,rfl, ?_,(x6.seq (x7.mono λ_ _ h=>h.elim)).seq x8⟩
  rw[hsl,<-aJS,aJB,aJ7]
  exact o8
 have d1:decide ((i:Int)<8)=false:=by simp;omega
 obtain rfl:i=8:=by omega
 simp(disch:=omega)only[seval,d1]
 obtain⟨P,hP⟩:∃P,P=Q++beN X 8:=⟨_,rfl⟩
 have hPp:ayG L=P:=by rw[hP,hQ,hX]<;>rfl
 have hPl:P.length=L.length+1+(119-L.length%64)%64+8:=by rw[hP,aJB,aeZ,hlen]
 rw[<-hP]at o6⊢
 have hbs:Bs w6 (.slice ta P.length tc) P:=o6.sl
 have aS:bD w6 sb (List.replicate 32 (.int .u8 0)):=o1.ext x6 (by omega)
 have x06:aL w w6 aT:=x1.trans x6 λy hy h=>by omega
 clear hX hlt hi d1
 unfold NV Xr
 simp(disch:=omega)only[seval]
 refine Ks λw7 o7 x7 s7=> ?_
 obtain⟨hb,hhb⟩:∃hb,hb=w6.heap.size:=⟨_,rfl⟩
 rw[<-hhb]at o7⊢
 refine Dc o7 rfl (by simp[one]) (by simp) λw8 o8 x8 s8=> ?_
 have o8:bD w8 hb ((GW 0 P).map u32):=o8
 refine(ayU w8).mono ?_
 rintro r w9 ⟨rfl,x9⟩
 refine Ck λwa oa xa sa=> ?_
 obtain⟨kb,hkb⟩:∃kb,kb=w9.heap.size:=⟨_,rfl⟩
 rw[<-hkb]at oa⊢
 refine Pk oa rfl (λy hy=>Ko _ y (by simpa using hy)) (by simp) λwb ob xb sb'=> ?_
 have ob:bD wb kb (kN.map u32):=ob
 have hbl:=o8.lt
 have z9:=x9.size
 have x6b:aL w6 wb aT:=(((x7.trans x8 λy hy h=>by omega).seq x9).seq xa).trans xb λy hy h=>by have:=x7.size;omega
 have oH:bD wb hb ((GW 0 P).map u32):=((o8.ext x9 (λh=>h)).ext xa (λh=>h)).ext xb (by omega)
 have hne:hb≠kb:=by omega
 have hbsb:=hbs.ext x6b (bC _)
 have hPo:¬fI (.slice ta P.length tc) (λy=>y=hb):=λh=>hbs.old (bO h λy hy=>by omega)
 unfold NU NT Xq Hb
 refine bM.rule (λm (t:aLX) W=>∃k:Nat,m=P.length/64-k/\k<=P.length/64/\t= .int .i64 ((64*k:Nat):Int)/\bD W hb ((GW k P).map u32)/\aL wb W (λy=>y=hb)) (P.length/64) ⟨0,rfl,by omega,rfl,oH,aL.refl _ _⟩ ?_
 rintro m t wc ⟨k,rfl,hk,rfl,oc,xc⟩
 unfold NS Xp
 by_cases hlt:k<P.length/64
 .have d1:decide (((64*k:Nat):Int)<((P.length:Nat):Int))=true:=decide_eq_true (by omega)
  simp(disch:=omega)only[seval,d1]
  unfold NQ CN
  refine aD0 (s:=GW k P) (hbsb.ext xc hPo) (by omega) (by omega) oc (An k P) (V5 k P) (ob.ext xc (λh=>hne h.symm)) hne hPo λwd od xd=> ?_
  unfold NF
  have q1:((64*k:Nat):Int)+64=((64*(k+1):Nat):Int):=by omega
  simp(disch:=omega)only[seval,q1]
  refine⟨P.length/64-(k+1),by omega,k+1,rfl,by omega,rfl, ?_,xc.seq xd⟩
  rw[aBc]
  exact od
 have d1:decide (((64*k:Nat):Int)<((P.length:Nat):Int))=false:=decide_eq_false (by omega)
 obtain rfl:k=P.length/64:=by omega
 simp(disch:=omega)only[seval,d1]
 obtain⟨H,hH⟩:∃H,H=GW (P.length/64) P:=⟨_,rfl⟩
 have hHl:H.length=8:=by rw[hH];exact An _ _
 have hHt:Cf H:=by rw[hH];exact V5 _ _
 have hsha:Yq L=Zt H 32:=by unfold Yq;rw[hPp,hH]
 rw[<-hH]at oc
 have x0c:aL w wc aT:=(x06.seq x6b).trans xc λy hy h=>by have:=x06.size;omega
 have aS:=(aS.ext x6b (λh=>h)).ext xc (show¬sb=hb by have:=aS.lt;omega)
 clear d1 hlt hk
 unfold RX aaZ
 refine A0 λwd od xd sd=> ?_
 have od:bD wd wc.heap.size (List.replicate 32 (.int .u8 0)):=od
 obtain⟨ob',hob'⟩:∃ob',ob'=wc.heap.size:=⟨_,rfl⟩
 rw[<-hob']at od⊢
 have oHd:=oc.ext xd (λh=>h)
 have oSd:=aS.ext xd (λh=>h)
 have hcl:=oc.lt
 have scl:=aS.lt
 unfold RW RV aaY J5
 refine bM.rule (λm (t:aLX) W=>∃i:Nat,m=32-i/\i<=32/\t= .int .i64 (i:Nat)/\bD W ob' ((Zt H i).map gO++List.replicate (32-i) (Value.int .u8 0))/\aL wd W (λy=>y=ob')) 32 ⟨0,rfl,by omega,rfl,by simpa[Zt]using od,aL.refl _ _⟩ ?_
 rintro m t we ⟨i,rfl,hi,rfl,oe,xe⟩
 unfold RU
 by_cases hlt:i<32
 .have d1:decide ((i:Int)<32)=true:=by simp;omega
  have q0:(i:Int).tdiv 4=((i/4:Nat):Int):=by rw[aLy (by omega)];omega
  have q1:(i:Int).tmod 4=((i%4:Nat):Int):=by rw[Int.tmod_eq_emod_of_nonneg (by omega)];omega
  have q2:(8:Int)*((i%4:Nat):Int)=((i%4*8:Nat):Int):=by omega
  have q3:(24:Int)-((i%4*8:Nat):Int)=((24-i%4*8:Nat):Int):=by omega
  have q4:IntKind.u64.wrap ((24-i%4*8:Nat):Int)=((24-i%4*8:Nat):Int):=hU (by omega) (by omega)
  have q5:=Lx (H.getD (i/4) 0) (24-i%4*8)
  have q6:min (24-i%4*8) IntKind.u32.bits=24-i%4*8:=aJ1 (show 24-i%4*8<=32 from by omega)
  have q7:IntKind.u8.wrap ((H.getD (i/4) 0/2^(24-i%4*8):Nat):Int)=((H.getD (i/4) 0/2^(24-i%4*8)%256:Nat):Int):=by rw[wu8];omega
  have q8:(i:Int)+1=((i+1:Nat):Int):=by omega
  have hin:(i:Int).toNat=i:=aJE _
  have hi4:((i/4:Nat):Int).toNat=i/4:=aJE _
  have c1:=(oHd.ext xe (show¬hb=ob' by omega)).cell (off:=i/4)
  rw[vX (by omega)]at c1
  have hby:Value.int .u8 ((H.getD (i/4) 0/2^(24-i%4*8)%256:Nat):Int)=gO (UInt8.ofNat (H.getD (i/4) 0/2^(24-i%4*8)%256)):=by
   unfold gO
   rw[aKT,Nat.mod_mod]
  have hsl:=anS H i
  generalize UInt8.ofNat (H.getD (i/4) 0/2^(24-i%4*8)%256)=u at*
  generalize H.getD (i/4) 0/2^(24-i%4*8)%256=y at*
  simp(disch:=omega)only[seval,d1,q0,q1,q2,q3,q4,q5,q6,q7,hin,hi4,c1,hby,aJC]
  refine akK oe rfl (by simp[ID];omega) λwf of_ xf sf=> ?_
  simp(disch:=omega)only[seval,q8]
  refine⟨32-(i+1),by omega,i+1,rfl,by omega,rfl, ?_,xe.seq xf⟩
  rw[hsl,aJ7]
  obtain⟨m,hm⟩:∃m,32-i=m+1:=⟨32-i-1,by omega⟩
  rw[hm,aKf _ _ (by simp[ID]),aJy,ID,aKO,aLD,aJR]at of_
  rw[show 32-(i+1)=m from by omega,aJS]
  exact of_
 have d1:decide ((i:Int)<32)=false:=by simp;omega
 obtain rfl:i=32:=by omega
 rw[aKO,aLp,aKb,<-hsha]at oe
 have hl32:((Yq L).map gO).length=32:=by rw[aJy];exact uA _
 have lo:=aaQ (off:=0) oe (by omega)
 rw[aJU,aJD (by omega)]at lo
 unfold RT
 simp(disch:=omega)only[seval,d1,lo]
 refine FL (oSd.ext xe (show¬sb=ob' by omega)) (by rw[aKG];exact hl32) (λy hy=>DN _ y (by simpa using hy)) (by simp) λwg og xg sg=> ?_
 rw[aJV,tL _ _ (by rw[hl32];simp)]at og
 refine Fm og (by omega) ?_
 rw[aJU,aJD (by omega),hRR]
 exact⟨rfl,((x0c.seq xd).trans xe λy hy h=>by have:=x0c.size;omega).trans xg λy hy h=>by omega⟩
theorem aIV(l:List UInt8):(⟨#[0]⟩:ByteArray)++(⟨l.toArray⟩:ByteArray)=⟨(0::l).toArray⟩:=by
 refine agL ?_
 rw[ahO]
 rfl
theorem aBR{l:List UInt8}{w:aLW}(hl:l.length<=800000):
 aG pg GQ #[.string ⟨l.toArray⟩] w (λr w'=>r= .agg ((aX l).map gO).toArray/\aL w w' aT):=by
 refine adT ?_
 unfold aiJ Uy
 refine A0 λw1 o1 x1 s1=> ?_
 have o1:bD w1 w.heap.size (List.replicate 32 (.int .u8 0)):=o1
 have hcat:=λ(t:TypeId) (ox oy:Operand) (w:aLW)=>aqG (P:=pg) (w:=w) (t:=t) (ox:=ox) (oy:=oy) ⟨#[0]⟩ ⟨l.toArray⟩ (by show((1+l.toArray.size:Nat):Int)<=_;simp;omega)
 simp only[aIV]at hcat
 simp(disch:=omega)only[seval,hcat]
 refine(aD3 (L:=0::l) (by simp;omega)).mono ?_
 rintro r w2 ⟨rfl,x2⟩
 have hl32:((Yq (0::l)).map gO).length=32:=by rw[aJy];exact uA _
 refine FL (o1.ext x2 (λh=>h)) (by rw[aKG];exact hl32) (λy hy=>DN _ y (by simpa using hy)) (by simp) λw3 o3 x3 s3=> ?_
 rw[aJV,tL _ _ (by rw[hl32];simp)]at o3
 refine Fm o3 (by omega) ?_
 rw[aJU,aJD (by omega)]
 exact⟨rfl,(x1.seq x2).trans x3 λy hy h=>by omega⟩
end Go.Proofs.YteelnmpbnaohpaaGreatDoor
namespace Go.Pu
open Go.En
def b1 (x:Nat):Nat:=if x%2=1 then x/2^^^2197175160 else x/2
def b1N:Nat->Nat->Nat
 |0,x=>x
 |k+1,x=>b1 (b1N k x)
theorem apG(x y:Nat):b1 (x^^^y)=b1 x^^^b1 y:=by
 unfold b1
 have h1:(x^^^y)%2=x%2^^^y%2:=Nat.xor_mod_two_pow (n:=1)
 have h2:(x^^^y)/2=x/2^^^y/2:=Nat.xor_div_two
 rw[h1,h2]
 rcases Nat.mod_two_eq_zero_or_one x with hx|hx<;>rcases Nat.mod_two_eq_zero_or_one y with hy|hy
 .rw [hx,hy];simp
 .rw [hx,hy];simp[aLA]
 .rw [hx,hy]
  rw[if_pos (by decide),if_pos rfl,if_neg (by decide),aLA,Nat.xor_comm (y/2),<-aLA]
 .rw [hx,hy]
  rw[if_neg (by decide),if_pos rfl,if_pos rfl,aLA,<-aLA 2197175160,Nat.xor_comm 2197175160,aLA,Nat.xor_self,Nat.xor_zero]
theorem apF(a:Nat):b1 (2*a)=a:=by
 unfold b1
 rw[if_neg (by omega)];omega
theorem aFT(x:Nat):x=16*(x/16)^^^(x%16):=by
 apply Nat.eq_of_testBit_eq
 intro i
 have h1:16*(x/16)=2^4*(x/2^4):=rfl
 have h2:x%16=x%2^4:=rfl
 rw[Nat.testBit_xor,h1,h2,Nat.testBit_mod_two_pow,Nat.testBit_two_pow_mul]
 by_cases hi:i<4
 .rw [decide_eq_true hi,decide_eq_false (by omega)];simp
 .rw [decide_eq_false hi,decide_eq_true (by omega),Nat.testBit_div_two_pow]
  simp[show i-4+4=i from by omega]
theorem anJ(x:Nat):b1 (b1 (b1 (b1 x)))=aaK x:=by
 have hr:x%16<16:=aLk _ (by decide)
 have h16:∀r:Fin 16,b1 (b1 (b1 (b1 r.val)))=hN.getD r.val 0:=by decide
 have hq:b1 (b1 (b1 (b1 (16*(x/16)))))=x/16:=by
  rw[show 16*(x/16)=2*(8*(x/16))from by omega,apF,show 8*(x/16)=2*(4*(x/16))from by omega,apF,show 4*(x/16)=2*(2*(x/16))from by omega,apF,apF]
 have hand:x&&&15=x%16:=Nat.and_two_pow_sub_one_eq_mod x 4
 unfold aaK
 rw[hand]
 conv=>lhs;rw[aFT x]
 rw[apG,apG,apG,apG,hq,h16 ⟨x%16,hr⟩]
theorem aBf(x:Nat)(c:UInt8):b1N 8 (x^^^c.toNat)=aBi x c:=by
 unfold aBi
 rw[<-anJ,<-anJ]
 rfl
end Go.Pu
namespace Go.Proofs.YteelnmpbnaohpaaGreatDoor
open Go Go.En Go.Pu
set_option maxRecDepth 4000
theorem aHI{x:Nat}(h:x<iO):b1 x<iO:=by
 unfold b1
 split
 .exact Af (Nat.lt_of_le_of_lt (aLE _ _) h) (by decide)
 .exact Nat.lt_of_le_of_lt (aLE _ _) h
theorem aCD{x:Nat}(h:x<iO):∀k,b1N k x<iO
 |0=>h
 |k+1=>aHI (aCD h k)
theorem aD1 {s:List UInt8}{w:aLW}(hl:s.length<=1000000000):aG pg M1 #[.string ⟨s.toArray⟩] w (λr w'=>r= .int .u32 (aY s:Nat)/\w'=w):=by
 refine alY ?_
 obtain⟨RR,hRR⟩:∃RR:aLX->aLW->Prop,RR=λr w'=>r= .int .u32 (aY s:Nat)/\w'=w:=⟨_,rfl⟩
 rw[<-hRR]
 have hM:iO=4294967296:=rfl
 have hsz:(⟨s.toArray⟩:ByteArray).size=s.length:=by simp[ByteArray.size]
 unfold avA Xz Xy Of Oe Xx He
 refine bM.rule (λm (t:aLX×aLX) w'=>∃i:Nat,m=s.length-i/\i<=s.length/\t=(.int .u32 (TF 4294967295 (s.take i):Nat),.int .i64 (i:Nat))/\w'=w) s.length ⟨0,rfl,by omega,rfl,rfl⟩ ?_
 rintro m t w1 ⟨i,rfl,hi,rfl,hw⟩
 rw[hw];clear hw w1
 have hg:=afD (x:=4294967295) (by decide) (s.take i)
 unfold Od Xw
 by_cases hlt:i<s.length
 .have d1:decide ((i:Int)<(s.length:Int))=true:=by simp;omega
  have hin:(i:Int).toNat=i:=aJE _
  have hix:=λw=>BR (k:= .i64) (a:=(i:Int)) ⟨s.toArray⟩ w (by omega) (by rw[hin,hsz];exact hlt)
  have hel:((⟨s.toArray⟩:ByteArray)[(i:Int).toNat]'(by rw[hin];show i<ByteArray.size _;rw[hsz];exact hlt))=s[i]:=by
   simp only[hin];rfl
  have hel2:((⟨s.toArray⟩:ByteArray)[i]'(by show i<ByteArray.size _;rw[hsz];exact hlt))=s[i]:=rfl
  have hc:=(s[i]).toNat_lt
  have e1:IntKind.u32.wrap (((s[i]).toNat:Nat):Int)=(((s[i]).toNat:Nat):Int):=Kp (by omega) (by omega)
  obtain⟨G,hG⟩:∃G,G=TF 4294967295 (s.take i):=⟨_,rfl⟩
  rw[<-hG]at hg⊢
  have e2:=fF hg (Hv s[i])
  obtain⟨x0,hx0⟩:∃x0,x0=G^^^(s[i]).toNat:=⟨_,rfl⟩
  have hx0l:x0<iO:=by rw[hx0];exact Af hg (Hv _)
  rw[<-hx0]at e2
  unfold Oc R5 abE
  simp(disch:=omega)only[seval,hsz,d1,hix,hin,hel2,e1,e2]
  unfold J6
  refine bM.rule (λm (t:aLX×aLX) w'=>∃k:Nat,m=8-k/\k<=8/\t=(.int .u32 (b1N k x0:Nat),.int .i64 (k:Nat))/\w'=w) 8 ⟨0,rfl,by omega,rfl,rfl⟩ ?_
  rintro m t w1 ⟨k,rfl,hk,rfl,hw⟩
  rw[hw];clear hw w1
  have hb:=aCD hx0l k
  obtain⟨y,hy⟩:∃y,y=b1N k x0:=⟨_,rfl⟩
  have hs:b1N (k+1) x0=b1 y:=by rw[hy]<;>rfl
  rw[<-hy]at hb⊢
  unfold R4 abD
  by_cases hk8:k<8
  .have d2:decide ((k:Int)<8)=true:=by simp;omega
   have q1:(k:Int)+1=((k+1:Nat):Int):=by omega
   have m1:(y:Int).tmod 2=((y%2:Nat):Int):=rfl
   have m2:(y:Int).tdiv 2=((y/2:Nat):Int):=rfl
   have w1:IntKind.u32.wrap ((y%2:Nat):Int)=((y%2:Nat):Int):=Kp (by omega) (by omega)
   have w2:IntKind.u32.wrap ((y/2:Nat):Int)=((y/2:Nat):Int):=Kp (by omega) (by omega)
   unfold R3
   by_cases ho:y%2=1
   .have k1:(((y%2:Nat):Int)==1)=true:=by rw[ho]<;>rfl
    have e3:aeY .u32 ((y/2:Nat):Int) 2197175160=((y/2^^^2197175160:Nat):Int):=fF (a:=y/2) (b:=2197175160) (by omega) (by decide)
    have hs2:b1 y=y/2^^^2197175160:=by unfold b1;rw[if_pos ho]
    simp(disch:=omega)only[seval,d2,m1,m2,w1,w2,k1,e3,q1]
    exact⟨8-(k+1),by omega,k+1,rfl,by omega,by rw[hs,hs2]⟩
   .have k1:(((y%2:Nat):Int)==1)=false:=by rw[beq_eq_false_iff_ne];omega
    have hs2:b1 y=y/2:=by unfold b1;rw[if_neg ho]
    simp(disch:=omega)only[seval,d2,m1,m2,w1,w2,k1,q1]
    exact⟨8-(k+1),by omega,k+1,rfl,by omega,by rw[hs,hs2]⟩
  .have d2:decide ((k:Int)<8)=false:=by simp;omega
   have q1:(i:Int)+1=((i+1:Nat):Int):=by omega
   have hk8':k=8:=by omega
   unfold R2
   simp(disch:=omega)only[seval,d2,q1]
   refine⟨s.length-(i+1),by omega,i+1,rfl,by omega, ?_⟩
   rw[hy,hk8',hx0,aBf,aJZ hlt,amY,hG]
 .have d1:decide ((i:Int)<(s.length:Int))=false:=by simp;omega
  rw[aJD (by omega)]at hg⊢
  have e3:aeY .u32 ((TF 4294967295 s:Nat):Int) 4294967295=((TF 4294967295 s^^^4294967295:Nat):Int):=fF (a:=TF 4294967295 s) (b:=4294967295) hg (by decide)
  unfold R1
  simp(disch:=omega)only[seval,hsz,d1,e3]
  rw[hRR]
  refine⟨?_,rfl⟩
  unfold aY
  rw[Nat.xor_comm]
theorem aBS{b:List UInt8}{w:aLW}(hn:8<=b.length):aG pg B8 #[.agg #[.string ⟨b.toArray⟩,.int .i64 0],.int .i64 8] w (λr w'=>r= .tuple #[.agg #[.string ⟨(b.drop 8).toArray⟩,.int .i64 0],.int .u64 (Dk (b.take 8):Nat)]/\aL w w' aT):=by
 refine Xf ?_
 obtain⟨RR,hRR⟩:∃RR:aLX->aLW->Prop,RR=λr w'=>r= .tuple #[.agg #[.string ⟨(b.drop 8).toArray⟩,.int .i64 0],.int .u64 (Dk (b.take 8):Nat)]/\aL w w' aT:=⟨_,rfl⟩
 rw[<-hRR]
 unfold Xe Mo Mn
 refine cA λw1 o1 x1 s1=> ?_
 have o1:bD w1 w.heap.size [.string ⟨b.toArray⟩,.int .i64 0]:=o1
 obtain⟨db,hdb⟩:∃db,db=w.heap.size:=⟨_,rfl⟩
 rw[<-hdb]at o1⊢
 refine wH λw2 o2 x2 s2=> ?_
 obtain⟨rb,hrb⟩:∃rb,rb=w1.heap.size:=⟨_,rfl⟩
 rw[<-hrb]at o2⊢
 have oD:=o1.ext x2 (λh=>h)
 have c1:w2.cell? ⟨db,1,none⟩=some (.int .i64 0):=oD.cell (off:=1)
 have k1:((0:Int)==0)=true:=rfl
 have d1:decide ((8:Int)<1)=false:=rfl
 have d2:decide ((8:Int)<8)=false:=rfl
 simp(disch:=omega)only[aA,mC,aJC,aI,GZ,c1,bL,RP,k1,uT,jH,if_true,gS,fD,d1,pP,aJI,if_false,vU,d2,bH]
 unfold Ge O4
 have ld:(aB 158 (.pointer (some ⟨db,0,none⟩))).run pg w2= .ok (.value (.agg #[.string ⟨b.toArray⟩,.int .i64 0])) w2:=uV (off:=0) oD (by simp)
 simp(disch:=omega)only[aA,ld,aI]
 refine(aBT (n:=8) hn).mono ?_
 rintro r w3 ⟨rfl,x3⟩
 simp(disch:=omega)only[x20,x21,aI]
 refine nJ (oD.ext x3 (λh=>h)) rfl (by intro x hx;simp only[aJG,aJJ,or_false]at hx;rcases hx with rfl|rfl<;>rfl) (by simp) λw4 o4 x4 s4=> ?_
 have o4:bD w4 db [.string ⟨(b.drop 8).toArray⟩,.int .i64 0]:=o4
 have oR:=(o2.ext x3 (λh=>h)).ext x4 (by omega)
 have x04:aL w w4 aT:=((x1.seq x2).seq x3).trans x4 λy hy hh=>by omega
 unfold Gc Gb O3 AQ
 obtain⟨s,hs⟩:∃s,s=b.take 8:=⟨_,rfl⟩
 have hsl:s.length=8:=by rw[hs,aJL];omega
 rw[<-hs]at hRR⊢
 have hsz:(⟨s.toArray⟩:ByteArray).size=8:=by simp[ByteArray.size,hsl]
 refine bM.rule (λm (t:aLX×aLX×aLX) W=>∃i:Nat,m=8-i/\i<=8/\t=(.int .u64 (Dk (s.take i):Nat),.int .u64 (256^i%2^64:Nat),.int .i64 (i:Nat))/\W=w4) 8 ⟨0,rfl,by omega,rfl,rfl⟩ ?_
 rintro m t W ⟨i,rfl,hi,rfl,hW⟩
 rw[hW];clear hW W
 unfold Ga
 have z8:(⟨s.toArray⟩:ByteArray).size=8:=hsz
 by_cases hlt:i<8
 .have d3:decide ((i:Int)<((8:Nat):Int))=true:=by simp;omega
  have hin:(i:Int).toNat=i:=aJE _
  have hil:i<s.length:=by omega
  have hix:=λw=>BR (k:= .i64) (a:=(i:Int)) ⟨s.toArray⟩ w (by omega) (by rw[hin,hsz];exact hlt)
  have hel:((⟨s.toArray⟩:ByteArray)[(i:Int).toNat]'(by rw[hin];show i<ByteArray.size _;rw[hsz];exact hlt))=s[i]:=by
   simp only[hin];rfl
  have hel2:((⟨s.toArray⟩:ByteArray)[i]'(by show i<ByteArray.size _;rw[hsz];exact hlt))=s[i]:=rfl
  have hc:=(s[i]).toNat_lt
  have e1:IntKind.u64.wrap (((s[i]).toNat:Nat):Int)=(((s[i]).toNat:Nat):Int):=hU (by omega) (by omega)
  have hp:Dk (s.take (i+1))=Dk (s.take i)+256^i*(s[i]).toNat:=by
   rw[aJZ hil,Zr,aJL,aJ1 (by omega)]
  have hpl:=G4 (s.take (i+1))
  rw[aJL,aJ1 (by omega)]at hpl
  have hpw:256^(i+1)<=2^64:=by
   have:256^(i+1)<=256^8:=aK7 (by decide) (by omega)
   exact this
  have hpl:=aKa hpl hpw
  have hM:256^i%2^64=256^i:=aKh (by rw[aLn]at hpw;have:=Nat.pow_pos (n:=i) (show 0<256 by decide);omega)
  have hMs:256^(i+1)%2^64=256^i*256%2^64:=by rw[aLn]
  rw[hM]
  have h64:(2:Nat)^64=18446744073709551616:=rfl
  rw[h64]at hpw hMs
  rw[aLn]at hpw
  generalize 256^i=M at*
  obtain⟨c,e0⟩:∃c,(s[i]).toNat=c:=⟨_,rfl⟩
  rw[e0]at hc e1 hp
  obtain⟨P,hP⟩:∃P,P=Dk (s.take i):=⟨_,rfl⟩
  rw[<-hP]at hp⊢
  obtain⟨Q,hQ⟩:∃Q,Q=M*c:=⟨_,rfl⟩
  rw[<-hQ]at hp
  have e2:(c:Int)*(M:Int)=(Q:Int):=by rw[hQ,aLH,Int.natCast_mul]
  have e3:IntKind.u64.wrap (Q:Int)=(Q:Int):=hU (by omega) (by omega)
  have e4:(P:Int)+(Q:Int)=((P+Q:Nat):Int):=by omega
  have e5:IntKind.u64.wrap ((P+Q:Nat):Int)=((P+Q:Nat):Int):=hU (by omega) (by omega)
  have e6:IntKind.u64.wrap ((M:Int)*256)=((M*256%18446744073709551616:Nat):Int):=by
   rw[show(M:Int)*256=((M*256:Nat):Int)by omega,aJa];omega
  have e7:(i:Int)+1=((i+1:Nat):Int):=by omega
  simp(disch:=omega)only[aA,mM,z8,hix,hin,hel2,e0,Xb,e6,fS,e7,dI,aI,AK,e1,e2,e3,e4,e5,fD,d3,and_true,cN]
  refine⟨8-(i+1),by omega,i+1,rfl,by omega, ?_⟩
  rw[hp,h64,hMs]
 obtain rfl:i=8:=by omega
 have d3:decide (((8:Nat):Int)<((8:Nat):Int))=false:=rfl
 rw[aJD (by omega)]
 have ld4:(aB 158 (.pointer (some ⟨db,0,none⟩))).run pg w4= .ok (.value (.agg #[.string ⟨(b.drop 8).toArray⟩,.int .i64 0])) w4:=uV (off:=0) o4 (by simp)
 unfold F9
 simp(disch:=omega)only[aA,mM,z8,Xb,hU,fS,dI,aI,fD,d3,ld4,bH]
 refine nJ oR rfl (by intro x hx;simp only[aJG,aJJ,or_false]at hx;rcases hx with rfl|rfl<;>rfl) (by simp) λw5 o5 x5 s5=> ?_
 have o5:bD w5 rb [.string ⟨(b.drop 8).toArray⟩,.int .i64 0]:=o5
 refine Dp o5 (by simp) ?_
 rw[hRR]
 exact⟨rfl,x04.trans x5 λy hy hh=>by omega⟩
theorem aHN{A B:List UInt8}{t:TypeId}{ox oy:Operand}{w:aLW}(hl:A.length+B.length<=1000000):(aE .add t ox oy (.string ⟨A.toArray⟩) (.string ⟨B.toArray⟩)).run pg w= .ok (.value (.string ⟨(A++B).toArray⟩)) w:=by
 have h1:=aqG (P:=pg) (t:=t) (ox:=ox) (oy:=oy) (w:=w) ⟨A.toArray⟩ ⟨B.toArray⟩ (by
  have e1:(⟨A.toArray⟩:ByteArray).size=A.length:=by simp[ByteArray.size]
  have e2:(⟨B.toArray⟩:ByteArray).size=B.length:=by simp[ByteArray.size]
  rw[e1,e2];omega)
 rw[h1]
 have:(⟨A.toArray⟩:ByteArray)++(⟨B.toArray⟩:ByteArray)=⟨(A++B).toArray⟩:=by
  refine agL ?_
  rw[ahO]
  rfl
 rw[this]
theorem aH2 {k:Nat}(hk:k<256):[UInt8.ofNat k]=tY k 1:=by
 rw[Ti,Nat.pow_zero,Nat.div_one,aKh hk]<;>rfl
def aqM(k v:Nat):List UInt8:=if k=1∨k=2 then mN aY k v else[]
theorem avC{k v:Nat}{w:aLW}(hk:k<256)(hv:v<2^64):
 aG pg BG #[alW k v] w (λr w'=>r= .string ⟨(aqM k v).toArray⟩/\aL w w' aT):=by
 refine aiU ?_
 obtain⟨RR,hRR⟩:∃RR:aLX->aLW->Prop,RR=λr w'=>r= .string ⟨(aqM k v).toArray⟩/\aL w w' aT:=⟨_,rfl⟩
 rw[<-hRR]
 unfold aoA XN XM
 refine cA λw1 o1 x1 s1=> ?_
 have o1:bD w1 w.heap.size (oF (k,v)):=o1
 obtain⟨db,hdb⟩:∃db,db=w.heap.size:=⟨_,rfl⟩
 rw[<-hdb]at o1⊢
 have c0:w1.cell? ⟨db,0,none⟩=some (.int .u8 (k:Nat)):=o1.cell (off:=0)
 have c1:w1.cell? ⟨db,1,none⟩=some (.int .u64 (v:Nat)):=o1.cell (off:=1)
 by_cases hk12:k=1∨k=2
 rotate_left
 .have n1:(((k:Nat):Int) !=1)=true:=by rw[bne_iff_ne];omega
  have n2:(((k:Nat):Int) !=2)=true:=by rw[bne_iff_ne];omega
  simp(disch:=omega)only[aA,fH,aI,fB,aJC,aO,Result.ok.injEq,Next.value.injEq,and_true,true_and,BS,As,c0,bL,Mm,n1,uT,jH,if_true,gS,n2,cN]
  rw[hRR]
  refine⟨?_,x1⟩
  unfold aqM
  rw[if_neg hk12]
 have tail:∀w2,aL w1 w2 aT->Hh RR (.string ⟨(Fs k v).toArray⟩) w2:=by
  intro w2 x2
  unfold Hh
  have hH:(Fs k v).length=9:=by unfold Fs;rw[aJB,dW,dW]
  refine(aD1 (s:=Fs k v) (by omega)).mono ?_
  rintro r w3 ⟨rfl,hw⟩
  rw[hw];clear hw w3
  have hcr:=aAg (Fs k v)
  have hM:iO=4294967296:=rfl
  have e2:IntKind.u64.wrap ((aY (Fs k v):Nat):Int)=((aY (Fs k v):Nat):Int):=hU (by omega) (by omega)
  simp(disch:=omega)only[aA,yY,e2,aI]
  refine(ajC (x:=aY (Fs k v)) (n:=4) (by omega) (by omega)).mono ?_
  rintro r w3 ⟨rfl,x3⟩
  have hcat:=λ(t:TypeId) (ox oy:Operand) (w:aLW)=>aHN (A:=Fs k v) (B:=tY (aY (Fs k v)) 4) (t:=t) (ox:=ox) (oy:=oy) (w:=w) (by rw[hH,dW];omega)
  simp(disch:=omega)only[hcat,aI]
  rw[hRR]
  refine⟨?_,(x1.seq x2).seq x3⟩
  unfold aqM
  rw[if_pos hk12]
  rfl
 have n1:k=1->(((k:Nat):Int) !=1)=false:=λh=>by rw[h]<;>rfl
 have hcat:=λ(t:TypeId) (ox oy:Operand) (w:aLW)=>aHN (A:=[UInt8.ofNat k]) (B:=tY v 8) (t:=t) (ox:=ox) (oy:=oy) (w:=w) (by rw[dW];simp)
 have hA:[UInt8.ofNat k]++tY v 8=Fs k v:=by rw[aH2 hk]<;>rfl
 rw[hA]at hcat
 have hb1:([UInt8.ofNat k].map gO)=[.int .u8 (k:Nat)]:=by
  simp only[aJQ,aLQ,gO]
  rw[aAw hk]
 have hn:(((k:Nat):Int) !=1)=true->(((k:Nat):Int) !=2)=false:=λh=>by
  rw[bne_iff_ne]at h
  rcases hk12 with rfl|rfl
  .exact absurd rfl h
  .rfl
 have od:=o1.ext (aL.dr w1 aT) (λh=>h)
 have cd0:(dr w1).cell? ⟨db,0,none⟩=some (.int .u8 (k:Nat)):=od.cell (off:=0)
 have cd1:(dr w1).cell? ⟨db,1,none⟩=some (.int .u64 (v:Nat)):=od.cell (off:=1)
 have own1:∀{w2 w3:aLW},bD w3 w2.heap.size #[Value.int .u8 (k:Nat)].toList->Bs w3 (.slice (some ⟨w2.heap.size,0,none⟩) 1 1) [UInt8.ofNat k]:=λ{w2 w3} h=>aqD (l:=[UInt8.ofNat k]) (by rw[hb1];exact h)
 cases hk1:(((k:Nat):Int) !=1)
 case' true=>
  have hn:=hn hk1
  simp(disch:=omega)only[aA,fH,aI,fB,aJC,aO,Result.ok.injEq,Next.value.injEq,and_true,true_and,BS,As,c0,bL,Mm,hk1,uT,jH,if_true,gS,hn,bH]
 case' false=>simp(disch:=omega)only[aA,fH,aI,fB,aJC,aO,Result.ok.injEq,Next.value.injEq,and_true,true_and,BS,As,c0,bL,Mm,hk1,wY,jH,aJI,if_false,bH,jS]
 all_goals
  refine Qs ?_ ?_
  .simp (disch:=omega)only[cd0,bL,aI,true_and]
   refine kP (cells:= #[.int .u8 (k:Nat)]) (by decide) (by decide) (by kernel_rfl) λw2 o2 x2 s2=> ?_
   have hcv:=eK (own1 o2)
   have c2:w2.cell? ⟨db,1,none⟩=some (.int .u64 (v:Nat)):=(od.ext x2 (λh=>h)).cell (off:=1)
   simp(disch:=omega)only[hcv,c2,bL,cd1,Result.ok.injEq,Next.value.injEq,and_true,aI,true_and]
   refine(ajC (x:=v) (n:=8) (by omega) (by omega)).mono ?_
   rintro r w3 ⟨rfl,x3⟩
   have hcv3:=eK ((own1 o2).ext x3 (bC _))
   simp(disch:=omega)only[hcv3,hcat,aI,true_and]
   exact tail _ (((aL.dr w1 aT).seq x2).seq x3)
  .simp (disch:=omega)only[cd0,bL,cd1,aI,true_and]
   refine(ajC (x:=v) (n:=8) (by omega) (by omega)).mono ?_
   rintro r w3 ⟨rfl,x3⟩
   have c3:w3.cell? ⟨db,0,none⟩=some (.int .u8 (k:Nat)):=(od.ext x3 (λh=>h)).cell (off:=0)
   simp(disch:=omega)only[c3,bL,true_and]
   refine kP (cells:= #[.int .u8 (k:Nat)]) (by decide) (by decide) (by kernel_rfl) λw2 o2 x2 s2=> ?_
   have hcv:=eK (own1 o2)
   simp(disch:=omega)only[hcv,aI,hcat,true_and]
   exact tail _ (((aL.dr w1 aT).seq x3).seq x2)
theorem aAm{b:List UInt8}{i j:Nat}:(⟨b.toArray⟩:ByteArray).extract i j=⟨((b.drop i).take (j-i)).toArray⟩:=by
 refine agL ?_
 rw[RE]
 rfl
theorem aHi{a b:List UInt8}:((⟨a.toArray⟩:ByteArray).toList==(⟨b.toArray⟩:ByteArray).toList)=(a==b):=by
 rw[Tp]
 by_cases h:a=b
 .subst h;simp
 .have h2:(⟨a.toArray⟩:ByteArray)≠⟨b.toArray⟩:=λe=>h (by injection e with e;injection e)
  rw[decide_eq_false h2]
  simp[h]
theorem aBQ{p:List UInt8}(hp:p.length=13):(aqM (rdK p) (rdV p)==p)=L7 aY p:=by
 unfold aqM L7
 by_cases h:rdK p=1∨rdK p=2
 .have:(rdK p==1||rdK p==2)=true:=by rw[aKq,beq_iff_eq,beq_iff_eq];exact h
  rw[if_pos h,this,aKH]
 .have:(rdK p==1||rdK p==2)=false:=by rw[aLi,beq_eq_false_iff_ne,beq_eq_false_iff_ne];omega
  rw[if_neg h,this,aKC,beq_eq_false_iff_ne]
  intro e
  rw[<-e]at hp
  cases hp
theorem aD2 {l:List UInt8}{w:aLW}(hl:l.length<=1000000000):
 aG pg GS #[.string ⟨l.toArray⟩] w (λr w'=>∃o,r= .tuple #[o,.int .i64 ((13*(fY aY l).length:Nat):Int)]/\anW w' w.heap.size o (fY aY l)/\aL w w' aT):=by
 refine aeD ?_
 obtain⟨RR,hRR⟩:∃RR:aLX->aLW->Prop,RR=λr w'=>∃o,r= .tuple #[o,.int .i64 ((13*(fY aY l).length:Nat):Int)]/\anW w' w.heap.size o (fY aY l)/\aL w w' aT:=⟨_,rfl⟩
 rw[<-hRR]
 have hsz:(⟨l.toArray⟩:ByteArray).size=l.length:=by simp[ByteArray.size]
 unfold aiV UO UN Lo EV
 refine bM.rule (λm (t:aLX×aLX) W=>∃(R:List (Nat×Nat)) (o:aLX),m=l.length-13*R.length/\13*R.length<=l.length/\t=(o,.int .i64 ((13*R.length:Nat):Int))/\fY aY l=R++fY aY (l.drop (13*R.length))/\anW W w.heap.size o R/\aL w W aT) l.length
  ⟨[],_,rfl,by simp,rfl,rfl,⟨rfl,.inl ⟨rfl,rfl⟩⟩,aL.refl _ _⟩ ?_
 rintro m t w1 ⟨R,o,rfl,hR,rfl,hled,ho,x1⟩
 obtain⟨at',hat⟩:∃a,a=13*R.length:=⟨_,rfl⟩
 rw[<-hat]at hR hled⊢
 have fin:fY aY (l.drop at')=[]->∀w2,aL w1 w2 aT->RR (.tuple #[o,.int .i64 ((at':Nat):Int)]) w2:=by
  intro h w2 x2
  rw[h,aKb]at hled
  rw[hRR,hled,hat]
  exact⟨o,rfl,ho.ext x2 (λ_ _ h=>h),x1.seq x2⟩
 have q1:((at':Nat):Int)+13=((at'+13:Nat):Int):=by omega
 have q2:((at':Nat):Int)+1=((at'+1:Nat):Int):=by omega
 unfold Ln
 by_cases hlt:at'+13<=l.length
 rotate_left
 .have d1:decide (((at'+13:Nat):Int)<=((l.length:Nat):Int))=false:=decide_eq_false (by omega)
  unfold Lm
  simp(disch:=omega)only[seval,q1,hsz,d1]
  refine fin ?_ _ (aL.refl _ _)
  by_cases hne:l.drop at'=[]
  .rw [hne]<;>rfl
  .rw [Zk hne,if_neg]
   intro hg
   have:=Td aY hg
   rw[aJL,aJO]at this
   omega
 have d1:decide (((at'+13:Nat):Int)<=((l.length:Nat):Int))=true:=decide_eq_true (by omega)
 obtain⟨p,hp⟩:∃p,p=(l.drop at').take 13:=⟨_,rfl⟩
 have hpl:p.length=13:=by rw[hp,aJL,aJO];omega
 have hne:l.drop at'≠[]:=λh=>by have:=congrArg List.length h;rw[aJO]at this;simp at this;omega
 have hstep:=Zk (cf:=aY) hne
 rw[<-hp,aLb]at hstep
 have hin:((at'+1:Nat):Int).toNat=at'+1:=aJE _
 have hia:((at':Nat):Int).toNat=at':=aJE _
 have hib:((at'+13:Nat):Int).toNat=at'+13:=aJE _
 have s1:=λw=>Hn (k:= .i64) (lo:=((at'+1:Nat):Int)) ⟨l.toArray⟩ w (by omega) (by rw[hsz];omega)
 have t1:=asX (b:=l) (n:=at'+1)
 have s2:=λw=>C6 (k:= .i64) (k':= .i64) (lo:=((at':Nat):Int)) (hi:=((at'+13:Nat):Int)) ⟨l.toArray⟩ w (by omega) (by omega) (by rw[hsz];omega)
 have t2:=aAm (b:=l) (i:=at') (j:=at'+13)
 rw[aKB,<-hp]at t2
 simp(disch:=omega)only[seval,q1,q2,hsz,d1,s1,s2,t1,t2,hin,hia,hib,lU]
 refine(aBS (b:=l.drop (at'+1)) (by rw[aJO];omega)).mono ?_
 rintro r w2 ⟨rfl,x2⟩
 have hV:Dk ((l.drop (at'+1)).take 8)=rdV p:=by
  unfold rdV
  rw[if_neg (by omega),hp,List.drop_take,List.take_take,aLb,aJ1 (by decide)]
 rw[hV]
 have hV64:rdV p<2^64:=by
  rw[<-hV]
  have:=G4 ((l.drop (at'+1)).take 8)
  rw[aJL,aJO,aJ1 (by omega)]at this
  omega
 have hatl:at'<l.length:=by omega
 have hK:(l[at']).toNat=rdK p:=by
  unfold rdK
  have e:p.take 1=[l[at']]:=by
   rw[hp,List.take_take,aJ1 (by decide),List.take_one,List.head?_drop,aJA hatl]
   rfl
  rw[e]
  show _=(l[at']).toNat+256*0
  omega
 have hK256:rdK p<256:=by rw[<-hK];exact(l[at']).toNat_lt
 have hgd:=aBQ hpl
 obtain⟨K,hKe⟩:∃K,K=rdK p:=⟨_,rfl⟩
 obtain⟨V,hVe⟩:∃V,V=rdV p:=⟨_,rfl⟩
 rw[<-hVe,<-hKe]at hstep hgd
 rw[<-hVe]at hV64⊢
 rw[<-hKe]at hK256 hK
 simp(disch:=omega)only[seval]
 refine wH λw3 o3 x3 z3=> ?_
 refine nJ o3 rfl (by intro x hx;simp only[aJG,aJJ,or_false]at hx;rcases hx with rfl|rfl<;>rfl) (by simp) λw4 o4 x4 z4=> ?_
 have hix:=λw=>BR (k:= .i64) (a:=((at':Nat):Int)) ⟨l.toArray⟩ w (by omega) (by rw[hia,hsz];exact hatl)
 have hel:((⟨l.toArray⟩:ByteArray)[((at':Nat):Int).toNat]'(by rw[hia];show at'<ByteArray.size _;rw[hsz];exact hatl))=l[at']:=by
  simp only[hia];rfl
 have hel2:((⟨l.toArray⟩:ByteArray)[at']'(by show at'<ByteArray.size _;rw[hsz];exact hatl))=l[at']:=rfl
 simp(disch:=omega)only[seval,hix,hia,hel2,hK]
 refine Qv λw5 o5 x5 z5=> ?_
 refine Qk o5 rfl (by intro x hx;simp only[aJG,aJJ,or_false]at hx;rcases hx with rfl|rfl<;>rfl) (by simp) λw6 o6 x6 z6=> ?_
 obtain⟨rb,hrb⟩:∃rb,rb=w4.heap.size:=⟨_,rfl⟩
 rw[<-hrb]at o6 x6⊢
 have o6:bD w6 rb (oF (K,V)):=o6
 have zz2:=x2.size
 have x16:aL w1 w6 aT:=(((x2.seq x3).trans x4 λy hy h=>by omega).seq x5).trans x6 λy hy h=>by omega
 have lr6:(aB 123 (.pointer (some ⟨rb,0,none⟩))).run pg (dr w6)= .ok (.value (alW K V)) (dr w6):=uX (off:=0) (o6.ext (aL.dr w6 aT) (λh=>h)) (by simp)
 simp(disch:=omega)only[seval,lr6]
 refine(avC hK256 hV64).mono ?_
 rintro r w7 ⟨rfl,x7⟩
 have k1:=aHi (a:=aqM K V) (b:=p)
 have x17:=(x16.seq (aL.dr w6 aT)).seq x7
 cases hg:L7 aY p with
 |false=>
  rw[hgd,hg]at k1
  simp(disch:=omega)only[seval,q1,s2,t2,hia,hib,Zw,k1]
  refine fin ?_ _ (x17)
  rw[hstep,hg]<;>rfl
 |true=>
  rw[hgd,hg]at k1
  rw[hg,if_pos rfl]at hstep
  have o7:=o6.ext ((aL.dr w6 aT).seq x7) (λh=>h)
  have lr7:(aB 123 (.pointer (some ⟨rb,0,none⟩))).run pg w7= .ok (.value (alW K V)) w7:=uX (off:=0) o7 (by simp)
  simp(disch:=omega)only[seval,q1,s2,t2,hia,hib,Zw,k1,lr7]
  refine LO (cells:= #[.int .u8 (K:Nat),.int .u64 (V:Nat)]) (by decide) (by decide) (by kernel_rfl) λw8 o8 x8 z8=> ?_
  have o8:bD w8 w7.heap.size (oF (K,V)):=o8
  have x18:=x17.seq x8
  have S8:Di w8 (λb=>w.heap.size<=b) 2 o _ _:=ho.ext x18 (λ_ _ h=>h)
  have zz1:=x1.size
  have zz8:=x18.size
  refine yG (m:=1) (news:=oF (K,V)) (i:=Tryz.t123) Tryz.underlying120 Tryz.underlying120 Zc rfl rfl rfl S8 (o8.cl (off:=0) (n:=1) rfl (λi hi=>by rw[aJC])) (by simp[one]) (λb hb=>by omega) (by omega) (by rw[show Tryz.t123.bytes=16 from rfl];omega) (by decide) λv' w9 o9 x9=> ?_
  refine⟨l.length-13*(R++[(K,V)]).length,by rw[aJB];simp;omega,R++[(K,V)],v',rfl,by rw[aJB];simp;omega,by rw[aJB,hat]<;>rfl, ?_, ?_,((x1.seq x18).trans x9 λy hy h=>by omega)⟩
  .rw [hled,hstep,aJS,aJB,hat]<;>rfl
  .unfold anW
   rw[aJB,List.flatMap_append]
   simpa using(show Di w9 (λb=>w.heap.size<=b) 2 v' (R.length+1) (R.flatMap oF++oF (K,V))from o9)
end Go.Proofs.YteelnmpbnaohpaaGreatDoor

/- Parts of the proof of DiskPlays: merged and given short names by a program of ours. -/
import Derived.WalkKit
import Derived.ProofKit
import Derived.OpenShut
import Derived.Laws.Strings
import Derived.Shelf.SlMaps.Clone
import Derived.Sort.AssemblyPlain
import Derived.Test.YtmhokapokchneaaZgA
set_option linter.unusedVariables false
set_option linter.unusedSimpArgs false
open Array renaming getElem?_eq_getElem → U2, getElem?_setIfInBounds_self_of_lt → U4, getElem?_setIfInBounds_ne → U5, length_toList → V5, getElem?_modify → VJ, getElem?_toList → VK, getElem?_eq_none → Vc
open Bool renaming and_eq_true → UT, false_eq_true → UY, not_false → VT, not_true → VV, or_eq_true → Vo
open Int renaming toNat_natCast → U3
open List renaming getElem?_eq_getElem → U1, length_cons → U6, set_cons_zero → U7, getElem?_append_left → U8, length_append → UO, getElem?_cons_zero → UP, getElem?_cons_succ → UR, length_map → UU, map_cons → UW, mem_cons_of_mem → UX, mem_cons → UZ, mem_append_right → V2, size_toArray → V7, cons_append → V9, take_append_drop → VA, pairwise_cons → VB, append_assoc → VE, map_append → VF, take_succ_eq_append_getElem → VH, getElem?_toArray → VL, mem_append_left → VN, mem_of_getElem? → VO, nodup_cons → VP, flatMap_cons → VQ, getElem?_append_right → VR, sum_cons → VS, getElem_mem → VU, append_nil → VW, length_nil → VY, mem_singleton → VZ, mem_cons_self → Va, length_take → Vd, length_eq_zero_iff → Ve, length_set → Vf, set_cons_succ → Vi, take_of_length_le → Vj, mem_map → Vl, nil_append → Vm, mem_nil_iff → Vn, eraseIdx_cons_succ → Vr, length_drop → Vs, getElem?_map → Vt, map_congr_left → Vu, drop_eq_getElem_cons → Vv, mem_append → Vw, getElem?_eq_none → Vy, length_replicate → Vz, length_filter_le → Wb, length_singleton → Wc, mem_filter → Wf, mem_of_mem_take → Wg, pairwise_append → Wh, set_append_left → Wi
open List.cons renaming injEq → VX
open Nat renaming le_refl → U0, zero_add → UQ, mul_le_mul_right → V3, min_eq_left → V6, add_mul → V8, add_assoc → VC, le_trans → VG, lt_of_lt_of_le → Vb, lt_or_ge → Vk, add_zero → Wj, ne_of_lt → Wk, zero_mul → Wl
open Option renaming getD_some → VI, map_some → Vx
open Option.some renaming injEq → V1, inj → Vp
open UInt8 renaming lt_iff_toNat_lt → Wd
namespace Go.En
open Go
def Cl(w:Wm)(sz:Nat)(v:Wn)(n:Nat)(l:List Wn):Prop:=
 ∃a c,v= .slice a n c/\l.length=n*sz/\(0<n->∃b off,a=some ⟨b,off,none⟩/\∀i,i<l.length->w.cell? ⟨b,off+i,none⟩=l[i]?)
def zC(w:Wm)(base sz:Nat)(v:Wn)(n:Nat)(l:List Wn):Prop:=
 l.length=n*sz/\((v= .slice none 0 0/\n=0)∨
   ∃b c rest,v= .slice (some ⟨b,0,none⟩) n c/\base<=b/\bE w b (l++rest)/\(l++rest).length=c*sz/\n<=c)
def Kt(w:Wm)(S:Nat->Prop)(sz:Nat)(v:Wn)(n:Nat)(l:List Wn):Prop:=
 l.length=n*sz/\((v= .slice none 0 0/\n=0)∨
   ∃b c rest,v= .slice (some ⟨b,0,none⟩) n c/\S b/\bE w b (l++rest)/\(l++rest).length=c*sz/\n<=c)
theorem Sl.cl {w:Wm}{v:Wn}{l:List Wn}(h:Sl w v l):Cl w 1 v l.length l:=by
 obtain⟨a,n,c,rfl,rfl,hc,h⟩:=h
 exact⟨a,c,rfl,by omega,λh0=>h h0⟩
theorem bE.cl {w:Wm}{b sz n c off:Nat}{cs l:List Wn}(h:bE w b cs)(hl:l.length=n*sz)(hcs:∀i,i<l.length->cs[off+i]?=l[i]?):Cl w sz (.slice (some ⟨b,off,none⟩) n c) n l:=
 ⟨_,_,rfl,hl,λ_=>⟨b,off,rfl,λi hi=>by rw[h.cell,hcs i hi]⟩⟩
theorem zC.nil (w:Wm)(base sz:Nat):zC w base sz (.slice none 0 0) 0 []:=⟨by simp,.inl ⟨rfl,rfl⟩⟩
theorem zC.ext {w w':Wm}{base sz n:Nat}{v:Wn}{l:List Wn}{M:Nat->Prop}(h:zC w base sz v n l)(hx:aJ w w' M)(hM:∀b,base<=b->¬M b):zC w' base sz v n l:=by
 refine⟨h.1, ?_⟩
 rcases h.2 with h2|⟨b,c,rest,h1,h2,h3,h4,h5⟩
 .exact .inl h2
 .exact .inr ⟨b,c,rest,h1,h2,h3.ext hx (hM b h2),h4,h5⟩
theorem zC.cl {w:Wm}{base sz n:Nat}{v:Wn}{l:List Wn}(h:zC w base sz v n l):Cl w sz v n l:=by
 rcases h.2 with⟨rfl,rfl⟩|⟨b,c,rest,rfl,h2,h3,h4,h5⟩
 .exact ⟨_,_,rfl,h.1,λh=>by omega⟩
 .refine ⟨_,_,rfl,h.1,λ_=>⟨b,0,rfl,λi hi=> ?_⟩⟩
  rw[h3.cell,UQ,U8 hi]
theorem zC.sl {w:Wm}{base n:Nat}{v:Wn}{l:List Wn}(h:zC w base 1 v n l):Sl w v l:=by
 have hl:=h.1
 rcases h.2 with⟨rfl,rfl⟩|⟨b,c,rest,rfl,h2,h3,h4,h5⟩
 .exact ⟨_,_,_,rfl,by omega,by omega,λh=>by omega⟩
 .refine ⟨_,_,_,rfl,by omega,h5,λ_=>⟨b,0,rfl,λi hi=> ?_⟩⟩
  rw[h3.cell,UQ,U8 (by omega)]
section
variable{P:Program}{w:Wm}{t e:TypeId}
theorem GS{b off:Nat}{l:List Wn}(h:∀i,i<l.length->w.cell? ⟨b,off+i,none⟩=l[i]?):(loadCells ⟨b,off,none⟩ l.length).run P w= .ok l.toArray w:=by
 have:=GU (P:=P) h l.length (U0 _)
 rwa [List.take_length]at this
theorem wU{sz n:Nat}{v:Wn}{l:List Wn}(h:Cl w sz v n l):(Builtin.firstCells sz n v).run P w= .ok l.toArray w:=by
 obtain⟨x,c,rfl,hl,hh⟩:=h
 cases x with
 |none=>
  have:n=0:=by
   rcases Nat.eq_zero_or_pos n with h|h
   .exact h
   .obtain ⟨b,off,e,_⟩:=hh h;cases e
  subst this
  have:l=[]:=Ve.1 (by omega)
  subst this
  simp[Builtin.firstCells]
 |some x=>
  simp only[Builtin.firstCells]
  rw[<-hl]
  by_cases h0:0<n
  .obtain ⟨b,off,e,h2⟩:=hh h0
   have e:=Vp e;subst e
   exact GS h2
  .have:n=0:=by omega
   subst this
   have:l=[]:=Ve.1 (by omega)
   subst this
   simp[loadCells,loadCellsFrom]
theorem Cb(zs:Array Wn)(n:Nat):(Builtin.zeroCells zs n).size=n*zs.size:=by simp[Builtin.zeroCells]
theorem xI(vs:List Wn):∀(UN rest:List Wn),vs.length<=rest.length->nG (UN++rest) UN.length vs=UN++vs++rest.drop vs.length:=by
 induction vs with
 |nil=>intro UN rest _;simp[nG]
 |cons v vs ih=>
  intro UN rest h
  cases rest with
  |nil=>simp at h
  |cons r rest=>
   have:=ih (UN++[v]) rest (by simpa using h)
   simp only[nG,UO,U6,VY,VE,V9,Vm]at this⊢
   rw[List.drop_succ_cons,<-this,List.set_append_right _ _ (U0 _),Nat.sub_self,U7,UQ]
theorem MM{S:Nat->Prop}{sz n m:Nat}{i:TypeInfo}{z:Wn}{ty t2 e2:TypeId}(hu:P.underlying t=some (.slice e))(hu2:P.underlying t2=some (.slice e2))(hi:P.info? e=some i)(hsz:i.size=sz)(hz:i.zero=some z)(hzs:z.cells.size=sz)
 {v x:Wn} {l news:List Wn} (h:Kt w S sz v n l) (hx:Cl w sz x m news) (hone:∀y∈news,one y=true) (hb:∀b,w.heap.size<=b->S b)
 (hn:n+m<=9223372036854775807) (hbytes:(n+m)*i.bytes<=140737488355328) (_hpos:i.bytes≠0)
 {K:Wn->Wm->Prop} (hk:∀v' w',Kt w' S sz v' (n+m) (l++news)->aJ w w' S->Cl w' sz v n l->K v' w'):aB P (lG .append #[t,t2] ty [v,x]) w K:=by
 have hlx:(Builtin.lenOf x).run P w= .ok m w:=by
  obtain⟨a,c,rfl,_⟩:=hx;simp[Builtin.lenOf]
 have hnl:=hx.choose_spec.choose_spec.2.1
 have hfx:=wU (P:=P) hx
 have hmax:IntKind.i64.max=9223372036854775807:=by decide
 have hnot:¬(((n+m:Nat):Int)>IntKind.i64.max/\(False∨i.bytes=0)):=by rw[hmax];omega
 have hz':∀w,(zeroValue e).run P w= .ok z w:=λw=>by simp[zeroValue,typeInfo,hi,hz]
 have hlen:=h.1
 rcases h.2 with⟨rfl,rfl⟩|⟨b,c,rest,rfl,h2,h3,h4,h5⟩
 .
  have hl0:l=[]:=Ve.1 (by omega)
  subst hl0
  by_cases hm:m=0
  .subst hm
   have hn0:news=[]:=Ve.1 (by omega)
   subst hn0
   have:(lG .append #[t,t2] ty [.slice none 0 0,x]).run P w= .ok (.value (.slice none 0 0)) w:=by
    unfold lG builtin
    simp only[Builtin.append_,VL,UP,UR]
    simp only[underlying,Sem.run_bind,run_program,Result.andThen_ok,hu,hu2,Sem.run_pure,eZ hi,hsz,UY,if_false,hlx,U0,Wj,if_true,VT,hfx]
   unfold aB
   rw[this]
   exact hk _ _ ⟨by simp,.inl ⟨rfl,by omega⟩⟩ (aJ.refl _ _) ⟨none,0,rfl,hlen,λh=>absurd h (by omega)⟩
  .have hfit:=growslice_fits (need:=0+m) (old:=0) (bytes:=i.bytes) (by omega) (by omega)
   have hfit':¬(Builtin.nextslicecap (0+m) 0*i.bytes>2^48):=by omega
   have hle:¬(0+m<=0):=by omega
   have hq:(Question.appendCap (0+m) 0 e).forced=false:=rfl
   obtain⟨r,hr⟩:∃r,(Question.appendCap (0+m) 0 e).cut (w.tape w.drawn (.appendCap (0+m) 0 e))=m+r:=
    ⟨(w.tape w.drawn (.appendCap (0+m) 0 e))%(2^63-(0+m)),by simp only[Question.cut];omega⟩
   have:(lG .append #[t,t2] ty [.slice none 0 0,x]).run P w= .ok (.value (.slice (some ⟨w.heap.size,0,none⟩) (0+m) (m+r))) ((dr w).alloc (.cells (news++(Builtin.zeroCells z.cells (m+r-(0+m))).toList).toArray e)):=by
    have hfx':=wU (P:=P) (w:=dr w) hx
    unfold lG builtin
    simp only[Builtin.append_,VL,UP,UR]
    simp only[underlying,typeInfo,Sem.run_bind,run_program,Result.andThen_ok,hu,hu2,hi,Sem.run_pure,eZ hi,hsz,UY,if_false,hlx,hle,VT,if_true,hnot,hfit',run_choose,hq,hr,run_askRoom]
    change((Sem.run P _ (dr w)).andThen _).andThen _=_
    simp only[Sem.run_bind,hfx',run_firstCells_none,Result.andThen_ok,hz',Sem.run_pure,newRow,run_newObj]
    have e1:(#[]++news.toArray++Builtin.zeroCells z.cells (m+r-(0+m)):Array Wn)=(news++(Builtin.zeroCells z.cells (m+r-(0+m))).toList).toArray:=by
     apply Array.ext';simp
    rw[e1]
    rfl
   unfold aB
   rw[this]
   refine hk _ _ ⟨by simp only[Vm];rw[hnl,UQ],.inr ⟨w.heap.size,m+r,(Builtin.zeroCells z.cells (m+r-(0+m))).toList,by rw[UQ],hb _ (U0 _),bE.alloc (dr w) _ _, ?_,by omega⟩⟩ ((aJ.dr w _).seq (aJ.alloc _ _ _)) ⟨none,0,rfl,hlen,λh=>absurd h (by omega)⟩
   simp only[Vm,UO,V5,Cb,hzs,hnl]
   rw[show m+r-(0+m)=r from by omega,V8]
 .by_cases hc:n+m<=c
  .
   have hroom:news.length<=rest.length:=by
    rw[UO,hlen]at h4
    have:(n+m)*sz<=c*sz:=V3 _ hc
    rw[V8]at this;omega
   obtain⟨w',s1,s2,s3,s4,_⟩:=AG (P:=P) (M:=S) h2 news w (n*sz) 0 (l++rest) h3 (by rw[UO,hlen];omega) hone
   have:(lG .append #[t,t2] ty [.slice (some ⟨b,0,none⟩) n c,x]).run P w= .ok (.value (.slice (some ⟨b,0,none⟩) (n+m) c)) w':=by
    unfold lG builtin
    simp only[Builtin.append_,VL,UP,UR]
    simp only[underlying,Sem.run_bind,run_program,Result.andThen_ok,hu,hu2,Sem.run_pure,eZ hi,hsz,UY,if_false,hlx,hc,if_true,VT,hfx,Bd,UQ,s1]
   unfold aB
   rw[this]
   rw[Wj,<-hlen,xI _ _ _ hroom]at s2
   refine hk _ _ ⟨by rw[UO,hlen,hnl,V8],.inr ⟨b,c,rest.drop news.length,rfl,h2,s2, ?_,hc⟩⟩ s3 ⟨_,_,rfl,hlen,λ_=>⟨b,0,rfl,λi hi=>by
    rw[s2.cell,UQ,VE,U8 hi]⟩⟩
   rw[<-h4];simp;omega
  .
   have hfit:=growslice_fits (need:=n+m) (old:=c) (bytes:=i.bytes) (by omega) hbytes
   have hfit':¬(Builtin.nextslicecap (n+m) c*i.bytes>2^48):=by omega
   have hq:(Question.appendCap (n+m) c e).forced=false:=rfl
   obtain⟨r,hr⟩:∃r,(Question.appendCap (n+m) c e).cut (w.tape w.drawn (.appendCap (n+m) c e))=n+m+r:=
    ⟨(w.tape w.drawn (.appendCap (n+m) c e))%(2^63-(n+m)),by simp only[Question.cut]⟩
   have hold:Cl (dr w) sz (.slice (some ⟨b,0,none⟩) n c) n l:=⟨_,_,rfl,hlen,λ_=>⟨b,0,rfl,λi hi=>by
    show w.cell? _=_
    rw[h3.cell,UQ,U8 hi]⟩⟩
   have:(lG .append #[t,t2] ty [.slice (some ⟨b,0,none⟩) n c,x]).run P w= .ok (.value (.slice (some ⟨w.heap.size,0,none⟩) (n+m) (n+m+r))) ((dr w).alloc (.cells (l++news++(Builtin.zeroCells z.cells (n+m+r-(n+m))).toList).toArray e)):=by
    have hfx':=wU (P:=P) (w:=dr w) hx
    have hfo:=wU (P:=P) hold
    unfold lG builtin
    simp only[Builtin.append_,VL,UP,UR]
    simp only[underlying,typeInfo,Sem.run_bind,run_program,Result.andThen_ok,hu,hu2,hi,Sem.run_pure,eZ hi,hsz,UY,if_false,hlx,hc,VT,if_true,hnot,hfit',run_choose,hq,hr,run_askRoom]
    change((Sem.run P _ (dr w)).andThen _).andThen _=_
    simp only[Sem.run_bind,hfx',hfo,Result.andThen_ok,hz',Sem.run_pure,newRow,run_newObj]
    have e1:(l.toArray++news.toArray++Builtin.zeroCells z.cells (n+m+r-(n+m)):Array Wn)=(l++news++(Builtin.zeroCells z.cells (n+m+r-(n+m))).toList).toArray:=by
     apply Array.ext';simp
    rw[e1]
    rfl
   unfold aB
   rw[this]
   refine hk _ _ ⟨by rw[UO,hlen,hnl,V8],.inr ⟨w.heap.size,n+m+r,_,rfl,hb _ (U0 _),bE.alloc (dr w) _ _, ?_,by omega⟩⟩ ((aJ.dr w _).seq (aJ.alloc _ _ _)) ⟨_,_,rfl,hlen,λ_=>⟨b,0,rfl,λi hi=>by
    have o9:=h3.ext ((aJ.dr w bR).seq (aJ.alloc (dr w) (.cells (l++news++(Builtin.zeroCells z.cells (n+m+r-(n+m))).toList).toArray e) bR)) (λh=>h)
    rw[o9.cell,UQ,U8 hi]⟩⟩
   simp only[UO,V5,Cb,hzs,hnl,hlen]
   rw[show n+m+r-(n+m)=r from by omega,V8,V8]
theorem Eh{S:Nat->Prop}{sz n m:Nat}{i:TypeInfo}{z:Wn}{ty t2 e2:TypeId}(hu:P.underlying t=some (.slice e))(hu2:P.underlying t2=some (.slice e2))(hi:P.info? e=some i)(hsz:i.size=sz)(hz:i.zero=some z)(hzs:z.cells.size=sz)
 {v x:Wn} {l news:List Wn} (h:Kt w S sz v n l) (hx:Cl w sz x m news) (hone:∀y∈news,one y=true) (hb:∀b,w.heap.size<=b->S b)
 (hn:n+m<=9223372036854775807) (hbytes:(n+m)*i.bytes<=140737488355328) (_hpos:i.bytes≠0)
 {K:Wn->Wm->Prop} (hk:∀v' w',Kt w' S sz v' (n+m) (l++news)->aJ w w' S->K v' w'):aB P (lG .append #[t,t2] ty [v,x]) w K:=
 MM hu hu2 hi hsz hz hzs h hx hone hb hn hbytes _hpos λv' w' a b _=>hk v' w' a b
theorem Gm{base sz n m:Nat}{i:TypeInfo}{z:Wn}{ty t2 e2:TypeId}(hu:P.underlying t=some (.slice e))(hu2:P.underlying t2=some (.slice e2))(hi:P.info? e=some i)(hsz:i.size=sz)(hz:i.zero=some z)(hzs:z.cells.size=sz)
 {v x:Wn} {l news:List Wn} (h:zC w base sz v n l) (hx:Cl w sz x m news) (hone:∀y∈news,one y=true) (hb:base<=w.heap.size)
 (hn:n+m<=9223372036854775807) (hbytes:(n+m)*i.bytes<=140737488355328) (_hpos:i.bytes≠0)
 {K:Wn->Wm->Prop} (hk:∀v' w',zC w' base sz v' (n+m) (l++news)->aJ w w' (λy=>base<=y)->K v' w'):aB P (lG .append #[t,t2] ty [v,x]) w K:=
 Eh (S:=λy=>base<=y) hu hu2 hi hsz hz hzs h hx hone (λ_ h=>VG hb h) hn hbytes _hpos hk
end
section
variable{P:Program}{w:Wm}{t e:TypeId}
theorem AH{i:TypeInfo}{z:Wn}{n:Nat}{ps:List (Nat×Wn)}{cells:Array Wn}(hu:P.underlying t=some (.slice e))(hi:P.info? e=some i)(hz:i.zero=some z)
 (h1:¬n*i.size>2^24) (h0:¬n*i.size=0) (hf:Instr.fill (λj=>some (j*i.size,i.size)) ((Array.range (n*i.size)).map (z.cells[·%z.cells.size]!)) ps=some cells)
 {K:Wn->Wm->Prop} (hk:∀w',bE w' w.heap.size cells.toList->aJ w w' bR->w'.heap.size=w.heap.size+1->K (.slice (some ⟨w.heap.size,0,none⟩) n n) w'):
 aB P (bZ t n ps) w K:=by
 have hz':(zeroValue e).run P w= .ok z w:=by simp[zeroValue,typeInfo,hi,hz]
 have:(bZ t n ps).run P w= .ok (.value (.slice (some ⟨w.heap.size,0,none⟩) n n)) (w.alloc (.cells cells.toList.toArray e)):=by
  unfold bZ;rw[kE]
  simp only[Instr.buildSlice,underlying,pure_bind,Sem.run_bind,run_program,Result.andThen_ok,hu,Sem.run_pure,eZ hi,h1,h0,if_false,hz',hf,newRow,run_newObj]
  rfl
 unfold aB
 rw[this]
 exact hk _ (bE.alloc _ _ _) (aJ.alloc _ _ _) (by simp)
theorem bE.mark {b:Nat}{cs:List Wn}(h:bE w b cs):bE (w.freeze ⟨b,cs.length,none⟩ 1) b cs:=by
 have hb:=h.lt
 obtain⟨T,lo,hi,h,k⟩:=h
 by_cases hlh:(lo==hi)=true
 .refine ⟨T,cs.length,cs.length+1, ?_,.inl (U0 _)⟩
  show(w.heap.modify b _)[b]?=_
  rw[VJ,if_pos rfl,h]
  have hlh:lo=hi:=by simpa using hlh
  simp[hlh]
 .refine ⟨T,min lo cs.length,max hi (cs.length+1), ?_,.inl ?_⟩
  .show (w.heap.modify b _)[b]?=_
   rw[VJ,if_pos rfl,h]
   have hlh:¬lo=hi:=by simpa using hlh
   simp[hlh]
  .rcases k with k|k
   .omega
   .exfalso;apply hlh;rw[k];simp
theorem aJ.mark (w:Wm)(a:Addr):aJ w (w.freeze a 1) (λy=>y=a.block):=
 ⟨rfl,rfl,rfl,by show _<=(w.heap.modify _ _).size;simp,λb hb hn=>by
  show(w.heap.modify a.block _)[b]?=_
  rw[VJ]
  rw[if_neg (λh=>hn h.symm)]⟩
theorem R8 (hu:P.underlying t=some (.slice e))(he:P.underlying e=some (.int .u8)){b off n c:Nat}{cs:List Wn}(ho:bE w b cs)
 {K:Wn->Wm->Prop} (hk:∀w',bE w' b cs->aJ w w' (λy=>y=b)->w'.heap.size=w.heap.size->K (.slice (some ⟨b,off,none⟩) n c) w'):
 aB P (rH t t (.slice (some ⟨b,off,none⟩) n c)) w K:=by
 obtain⟨T,hs⟩:∃T,w.shape? b=some (T,cs.length):=by
  obtain⟨T,lo,hi,h,_⟩:=ho
  exact⟨T,by unfold World.shape?;rw[h];simp⟩
 have:(rH t t (.slice (some ⟨b,off,none⟩) n c)).run P w= .ok (.value (.slice (some ⟨b,off,none⟩) n c)) (w.freeze ⟨b,cs.length,none⟩ 1):=by
  unfold rH;rw[kE]
  simp[convert,underlying,hu,he,markStringish,shape,freeze,Sem.run,hs]
 unfold aB
 rw[this]
 exact hk _ ho.mark (aJ.mark w _) (by show(w.heap.modify _ _).size=_;simp)
end
section
variable{P:Program}{w:Wm}{t e:TypeId}
structure I2 {κ:Type}[DecidableEq κ](P:Program)(t:TypeId)(enc:κ->Wn):Prop where
 eq:∀a b (w:Wm),(Op.equal t (enc a) (enc b)).run P w= .ok (decide (a=b)) w
 now:∃d,P.underlying t=some d/\∀a b,Instr.sameNow d (enc a) (enc b)=none∨Instr.sameNow d (enc a) (enc b)=some (decide (a=b))
 chk:∀(e:Bool) a (w:Wm),(Instr.checkKey e 10000 t (enc a)).run P w= .ok () w
 stay:∀a,Instr.sameBits 10000 (enc a) (enc a)=true
def CF{κ:Type}[DecidableEq κ](k:κ):List (κ×Wn)->Option Wn
 |[]=>none
 |p::r=>if k=p.1 then some p.2 else CF k r
def NO{κ:Type}[DecidableEq κ](k:κ)(v:Wn):List (κ×Wn)->List (κ×Wn)
 |[]=>[(k,v)]
 |p::r=>if k=p.1 then(k,v)::r else p::NO k v r
theorem R9 {κ:Type}[DecidableEq κ]{k:κ}{v:Wn}{l:List (κ×Wn)}{p:κ×Wn}(h:p∈NO k v l):p=(k,v)∨p∈l:=by
 induction l with
 |nil=>simp[NO]at h;exact .inl h
 |cons q r ih=>
  simp only[NO]at h
  split at h
  .rcases UZ.1 h with h|h
   .exact .inl h
   .exact .inr (UX _ h)
  .rcases UZ.1 h with h|h
   .exact .inr (h▸Va)
   .rcases ih h with h|h
    .exact .inl h
    .exact .inr (UX _ h)
def Grown(es:Array MapEntry)(clock:Nat):Prop:=(es.toList.map (·.born)).Pairwise (·<·)/\∀e∈es.toList,e.born<clock
def Mp{κ:Type}(w:Wm)(m:Nat)(enc:κ->Wn)(l:List (κ×Wn)):Prop:=
 ∃es clock,w.heap[m]?=some (.map es clock)/\es.toList.map (λe=>(e.key,e.val))=l.map (λp=>(enc p.1,p.2))/\Grown es clock/\(l.map (·.1)).Nodup
theorem Nd{es:Array MapEntry}{c:Nat}(h:Grown es c)(k v:Wn):Grown (es.push ⟨k,v,c⟩) (c+1):=by
 obtain⟨h1,h2⟩:=h
 refine⟨?_, ?_⟩
 .rw [Array.toList_push,VF,Wh]
  refine⟨h1,by simp,λa ha b hb=> ?_⟩
  simp at hb
  subst hb
  obtain⟨e,he,rfl⟩:=Vl.1 ha
  exact h2 e he
 .intro e he
  rw[Array.toList_push]at he
  rcases Vw.1 he with he|he
  .have:=h2 e he;omega
  .simp at he;subst he;exact Nat.lt_succ_self c
theorem Nf{es es':Array MapEntry}{c:Nat}(h:Grown es c)(he:es'.toList.map (·.born)=es.toList.map (·.born)):Grown es' c:=by
 refine⟨by rw[he];exact h.1,λe h'=> ?_⟩
 have:e.born∈es'.toList.map (·.born):=Vl.2 ⟨e,h',rfl⟩
 rw[he]at this
 obtain⟨x,hx,hxe⟩:=Vl.1 this
 rw[<-hxe];exact h.2 x hx
theorem MR{κ:Type}[DecidableEq κ]{k:κ}{v:Wn}:∀{l:List (κ×Wn)},(l.map (·.1)).Nodup->((NO k v l).map (·.1)).Nodup
 |[],_=>by simp[NO]
 |p::r,h=>by
  simp only[NO]
  have h':=h
  rw[UW,VP]at h
  split
  .rename_i e
   rw[UW,VP]
   exact⟨λhm=>h.1 (e▸hm),h.2⟩
  .rename_i e
   rw[UW,VP]
   refine⟨λhm=> ?_,MR h.2⟩
   obtain⟨q,hq,hqe⟩:=Vl.1 hm
   rcases R9 hq with h1|h1
   .rw [h1]at hqe;exact e hqe
   .exact h.1 (Vl.2 ⟨q,h1,hqe⟩)
theorem Mp.lt {κ:Type}{m:Nat}{enc:κ->Wn}{l:List (κ×Wn)}(h:Mp w m enc l):m<w.heap.size:=by
 obtain⟨es,c,h,_⟩:=h
 rcases Vk m w.heap.size with h'|h'
 .exact h'
 .rw [Vc h']at h;cases h
theorem Mp.ext {κ:Type}{w w':Wm}{m:Nat}{enc:κ->Wn}{l:List (κ×Wn)}{M:Nat->Prop}(h:Mp w m enc l)(hx:aJ w w' M)(hM:¬M m):Mp w' m enc l:=by
 have:=h.lt
 obtain⟨es,c,h,k⟩:=h
 exact⟨es,c,by rw[hx.keep m this hM];exact h,k⟩
theorem Mp.dr {κ:Type}{w:Wm}{m:Nat}{enc:κ->Wn}{l:List (κ×Wn)}(h:Mp w m enc l):Mp (dr w) m enc l:=h
def BV{κ:Type}[DecidableEq κ](k:κ):List (κ×Wn)->Nat->Option (Nat×Wn)
 |[],_=>none
 |p::r,i=>if k=p.1 then some (i,p.2)else BV k r (i+1)
theorem Jp{κ:Type}[DecidableEq κ](k:κ):∀(l:List (κ×Wn)) (i:Nat),(BV k l i).map (·.2)=CF k l:=by
 intro l
 induction l with
 |nil=>intro i;rfl
 |cons p r ih=>intro i;simp only[BV,CF];split<;>simp[ih]
variable{κ:Type}[DecidableEq κ]{enc:κ->Wn}
theorem sX{r:Nat}{es:Array MapEntry}{c:Nat}(hb:w.heap[r]?=some (.map es c)):(getObj r).run P w= .ok (.map es c) w:=by simp[getObj,Sem.run,hb]
theorem Cz{r:Nat}{es:Array MapEntry}{c:Nat}(o:Obj)(hb:w.heap[r]?=some (.map es c)):(setObj r o).run P w= .ok () {w with heap:=w.heap.setIfInBounds r o}:=by simp[setObj,Sem.run,hb]
theorem Jh(K:I2 P t enc)(k:κ):∀(es:List MapEntry) (l:List (κ×Wn)) (i:Nat),es.map (λe=>(e.key,e.val))=l.map (λp=>(enc p.1,p.2))→
 (Instr.findAsking t (enc k) es i).run P w= .ok (BV k l i) w:=by
 intro es
 induction es with
 |nil=>intro l i h;cases l with
  |nil=>rfl
  |cons p r=>simp at h
 |cons x es ih=>
  intro l i h
  cases l with
  |nil=>simp at h
  |cons p r=>
   simp only[UW,VX,Prod.mk.injEq]at h
   obtain⟨⟨h1,h2⟩,h3⟩:=h
   simp only[Instr.findAsking,Sem.run_bind,h1,K.eq,Result.andThen_ok,BV]
   by_cases hx:k=p.1
   .simp [hx,h2]
   .simp only[hx,decide_false,UY,if_false]
    exact ih r (i+1) h3
theorem Ld{d:TypeDesc}(hn:∀a b,Instr.sameNow d (enc a) (enc b)=none∨Instr.sameNow d (enc a) (enc b)=some (decide (a=b)))(k:κ):∀(es:List MapEntry) (l:List (κ×Wn)) (i:Nat) (r:Option (Nat×Wn)),es.map (λe=>(e.key,e.val))=l.map (λp=>(enc p.1,p.2))→
 Instr.findNow d (enc k) es i=some r->r=BV k l i:=by
 intro es
 induction es with
 |nil=>intro l i r h hr;cases l with
  |nil=>simp[Instr.findNow]at hr;exact hr.symm
  |cons p r=>simp at h
 |cons x es ih=>
  intro l i r h hr
  cases l with
  |nil=>simp at h
  |cons p q=>
   simp only[UW,VX,Prod.mk.injEq]at h
   obtain⟨⟨h1,h2⟩,h3⟩:=h
   simp only[Instr.findNow,h1]at hr
   rcases hn k p.1 with hh|hh
   .rw [hh]at hr;cases hr
   .rw [hh]at hr
    simp only[BV]
    by_cases hx:k=p.1
    .simp only[hx,decide_true,V1]at hr
     rw[if_pos hx,<-hr,h2]
    .simp only[hx,decide_false]at hr
     rw[if_neg hx]
     exact ih q (i+1) r h3 hr
theorem A0 (K:I2 P t enc)(k:κ)(es:List MapEntry)(l:List (κ×Wn))(h:es.map (λe=>(e.key,e.val))=l.map (λp=>(enc p.1,p.2))):
 (Instr.findKey t (enc k) es).run P w= .ok (BV k l 0) w:=by
 obtain⟨d,hd,hn⟩:=K.now
 unfold Instr.findKey
 simp only[underlying,Sem.run_bind,run_program,Result.andThen_ok,hd,Sem.run_pure]
 cases hr:Instr.findNow d (enc k) es 0 with
 |none=>exact Jh K k es l 0 h
 |some r=>rw[Ld hn k es l 0 r h hr]<;>rfl
theorem S8 {kt et:TypeId}{i:TypeInfo}{z:Wn}(hu:P.underlying t=some (.map kt et))(hi:P.info? et=some i)(hz:i.zero=some z)(K:I2 P kt enc){m:Nat}{l:List (κ×Wn)}(hm:Mp w m enc l)(k:κ):
 (uY t (.map (some m)) (enc k) true).run P w= .ok (.value (.tuple #[(CF k l).getD z,.bool (CF k l).isSome])) w:=by
 obtain⟨es,c,hb,he,_⟩:=hm
 unfold uY;rw[kE]
 unfold Instr.lookup
 simp only[underlying,Sem.run_bind,run_program,Result.andThen_ok,hu,Sem.run_pure,sX hb,K.chk,A0 K k es.toList l he,<-Jp k l 0]
 cases BV k l 0 with
 |none=>simp[zeroValue,typeInfo,hi,hz]
 |some p=>simp
omit [DecidableEq κ]in
theorem Pm{K:Wn->Wm->Prop}(enc:κ->Wn)(hk:∀w',Mp w' w.heap.size enc ([]:List (κ×Wn))->aJ w w' bR->w'.heap.size=w.heap.size+1->K (.map (some w.heap.size)) w'):aB P (HV t none) w K:=by
 have:(HV t none).run P w= .ok (.value (.map (some w.heap.size))) (w.alloc (.map #[] 0)):=by
  unfold HV;rw[kE]
  simp[Instr.makeMap]
 unfold aB
 rw[this]
 exact hk _ ⟨#[],0,by show(w.heap.push _)[w.heap.size]?=_;simp,rfl,⟨by simp,by simp⟩,by simp⟩ (aJ.alloc _ _ _) (by simp)
theorem Pk{kt et:TypeId}(hu:P.underlying t=some (.map kt et))(Ke:I2 P kt enc){m:Nat}{l:List (κ×Wn)}(hm:Mp w m enc l)(k:κ)(v:Wn){K:Wn->Wm->Prop}
 (hk:∀w',Mp w' m enc (NO k v l)->aJ w w' (λy=>y=m)->w'.heap.size=w.heap.size->K undef w'):aB P (Gk t (.map (some m)) (enc k) v) w K:=by
 have hlt:=hm.lt
 obtain⟨es,c,hb,he,hgr,hnd⟩:=hm
 have hext:∀o,aJ w {w with heap:=w.heap.setIfInBounds m o} (λy=>y=m):=λo=>
  ⟨rfl,rfl,rfl,by simp,λb hb hn=>by
   show(w.heap.setIfInBounds m o)[b]?=_
   rw[U5 (λe=>hn e.symm)]⟩
 have key:∃es' c',(Gk t (.map (some m)) (enc k) v).run P w= .ok .skip {w with heap:=w.heap.setIfInBounds m (.map es' c')}/\es'.toList.map (λe=>(e.key,e.val))=((NO k v l).map λp=>(enc p.1,p.2))/\Grown es' c':=by
  have gen:∀(es:List MapEntry) (l:List (κ×Wn)) (i:Nat),es.map (λe=>(e.key,e.val))=l.map (λp=>(enc p.1,p.2))→
      (BV k l i=none->∀b,(es++[(⟨enc k,v,b⟩:MapEntry)]).map (λe=>(e.key,e.val))=(NO k v l).map λp=>(enc p.1,p.2))/\
      (∀j x,BV k l i=some (j,x)->i<=j/\∃old,es[j-i]?=some old/\old.key=enc k/\(es.set (j-i) ({old with key:=enc k,val:=v}:MapEntry)).map (λe=>(e.key,e.val))=(NO k v l).map λp=>(enc p.1,p.2)):=by
   intro es
   induction es with
   |nil=>
    intro l i h
    cases l with
    |nil=>exact⟨λ_ b=>rfl,λj x h=>by simp[BV]at h⟩
    |cons p r=>simp at h
   |cons x es ih=>
    intro l i h
    cases l with
    |nil=>simp at h
    |cons p r=>
     simp only[UW,VX,Prod.mk.injEq]at h
     obtain⟨⟨h1,h2⟩,h3⟩:=h
     simp only[BV,NO]
     by_cases hx:k=p.1
     .rw [if_pos hx,if_pos hx]
      refine⟨λh=>by(cases h),λj y h=> ?_⟩
      cases h
      refine⟨U0 _,x,by simp,by rw[h1,hx], ?_⟩
      simp[h3]
     .rw [if_neg hx,if_neg hx]
      obtain⟨a,b⟩:=ih r (i+1) h3
      refine⟨λh q=> ?_,λj y h=> ?_⟩
      .simp only[V9,UW,a h q,h1,h2]
      .obtain ⟨hj,old,o1,o2,o3⟩:=b j y h
       refine⟨by omega,old, ?_,o2, ?_⟩
       .rw [show j-i=(j-(i+1))+1 from by omega,UR];exact o1
       .rw [show j-i=(j-(i+1))+1 from by omega,Vi]
        simp only[UW,o3,h1,h2]
  obtain⟨g1,g2⟩:=gen es.toList l 0 he
  unfold Gk
  rw[TN]
  unfold Instr.mapUpdate
  simp only[underlying,Sem.run_bind,run_program,Result.andThen_ok,hu,Sem.run_pure,sX hb,Ke.chk,A0 Ke k es.toList l he]
  cases hi:BV k l 0 with
  |none=>
   refine⟨es.push ⟨enc k,v,c⟩,c+1, ?_,by simpa using g1 hi c,Nd hgr _ _⟩
   simp only[Cz _ hb,Result.andThen_ok]
  |some q=>
   obtain⟨j,x⟩:=q
   obtain⟨_,old,o1,o2,o3⟩:=g2 j x hi
   rw[Nat.sub_zero]at o1 o3
   have o1':es[j]?=some old:=by simpa using o1
   refine⟨es.modify j λe=>{e with key:=enc k,val:=v},c, ?_, ?_,Nf hgr ?_⟩
   .simp only[o1',Vx,VI,o2,Instr.keyThatStays,Ke.stay,if_true,Sem.run_pure,Result.andThen_ok,Cz _ hb,Sem.run_bind]
   .have hj:j<es.toList.length:=by
     rcases Vk j es.toList.length with h|h
     .exact h
     .rw [Vy h]at o1;cases o1
    rw[<-o3]
    congr 1
    apply List.ext_getElem?
    intro y
    rw[VK,VJ,List.getElem?_set]
    by_cases hy:j=y
    .subst hy
     have hj':j<es.size:=by simpa using hj
     have e1:es[j]=old:=by rw[U2 hj']at o1';exact Vp o1'
     simp[hj',e1]
    .simp [hy]
   .apply List.ext_getElem?
    intro y
    rw[Vt,Vt,VK,VK,VJ]
    split
    .rename_i h;subst h
     cases es[j]?<;>rfl
    .rfl
 obtain⟨es',c',h1,h2,h3⟩:=key
 unfold aB
 rw[h1]
 refine hk _ ⟨es',c',by show(w.heap.setIfInBounds m _)[m]?=_;rw[U4 hlt],h2,h3,MR hnd⟩ (hext _) (by simp)
theorem Ep(hu:P.underlying t=some .string):I2 P t (λs:ByteArray=>Value.string s):=by
 have hb:∀a b:ByteArray,(a==b)=decide (a=b):=λa b=>by
  have h1:(a==b)=(a.data==b.data):=rfl
  rw[h1,Bool.eq_iff_iff,beq_iff_eq,decide_eq_true_eq]
  exact⟨λh=>by cases a;cases b;simp only at h;rw[h],λh=>h▸rfl⟩
 refine⟨λa b w=> ?_,⟨_,hu,λa b=> .inr (by simp[Instr.sameNow,hb])⟩,λc a w=> ?_,λa=> ?_⟩
 .unfold Op.equal Op.maxDepth Op.equalIn
  simp only[underlying,Sem.run_bind,run_program,Result.andThen_ok,hu,Sem.run_pure,hb]
 .unfold Instr.checkKey
  simp only[underlying,Sem.run_bind,run_program,Result.andThen_ok,hu,Sem.run_pure]
 .simp [Instr.sameBits,hb]
theorem Lj{d:TypeDesc}{i:TypeInfo}(hu:P.underlying t=some d)(hd:OQ d=true)(hi:P.info? t=some i){b off:Nat}{l:List Wn}(hl:i.size=l.length)(h:∀j,j<l.length->w.cell? ⟨b,off+j,none⟩=l[j]?):
 (aD t (.pointer (some ⟨b,off,none⟩))).run P w= .ok (.value (.agg l.toArray)) w:=by
 unfold aD
 rw[kE]
 simp only[Instr.loadAt,Instr.sureAddr,loadVar,pure_bind,Sem.run_bind,Em hu,hd,Result.andThen_ok,if_true,eZ hi,hl,GS h,Sem.run_pure]
end
theorem aP{w:Wm}{b:Nat}{cs:List Wn}(h:bE w b cs):bE (dr w) b cs:=h.ext (aJ.dr w bR) (λh=>h)
theorem Sl.dr {w:Wm}{v:Wn}{l:List Wn}(h:Sl w v l):Sl (dr w) v l:=h
theorem Sl.open {w:Wm}{v:Wn}{l:List UInt8}(h:Bs w v l)(h0:0<l.length):∃b off c,v= .slice (some ⟨b,off,none⟩) l.length c/\l.length<=c/\∀i,(h:i<l.length)->w.cell? ⟨b,off+i,none⟩=some (zD l[i]):=by
 obtain⟨a,n,c,rfl,hn,hc,h⟩:=h
 simp only[UU]at hn
 subst hn
 obtain⟨b,off,rfl,hh⟩:=h h0
 exact⟨b,off,c,rfl,hc,λi hi=>by rw[hh i hi];simp[hi]⟩
theorem Sl.len {w:Wm}{v:Wn}{l:List Wn}(h:Sl w v l):∃a c,v= .slice a l.length c/\l.length<=c:=by
 obtain⟨a,n,c,rfl,rfl,hc,_⟩:=h
 exact⟨a,c,rfl,hc⟩
theorem kD(v:Wn):¬CR v bR:=by unfold CR bR;split<;>simp
theorem NG{b o m l:Nat}(h:l≠m):lN (some ⟨b,o,none⟩) m l 1=some ⟨b,o+l,none⟩:=by
 unfold lN;rw[if_neg (λe=>h e.symm)];simp[Bd]
theorem kS{v:Wn}{M N:Nat->Prop}(h:CR v M)(hm:∀b,M b->N b):CR v N:=by
 unfold CR at*
 split at h
 .exact hm _ h
 .exact h
theorem zC.len {w:Wm}{b sz n:Nat}{v:Wn}{l:List Wn}(h:zC w b sz v n l):∃a c,v= .slice a n c:=by
 rcases h.2 with⟨rfl,rfl⟩|⟨x,c,r,rfl,_⟩
 .exact ⟨_,_,rfl⟩
 .exact ⟨_,_,rfl⟩
theorem Sl.nil (w:Wm):Sl w (.slice none 0 0) []:=⟨none,0,0,rfl,rfl,U0 _,λh=>absurd h (by simp)⟩
theorem bE.whole {w:Wm}{b c:Nat}{l:List UInt8}(h:bE w b (l.map zD))(hc:l.length<=c):Bs w (.slice (some ⟨b,0,none⟩) l.length c) l:=
 h.bs hc λi hi=>by rw[UQ];simp[hi]
section
variable{P:Program}{w:Wm}{t e:TypeId}
variable{κ:Type}[DecidableEq κ]{enc:κ->Wn}
theorem RY{kt et:TypeId}{i:TypeInfo}{z:Wn}(hu:P.underlying t=some (.map kt et))(hi:P.info? et=some i)(hz:i.zero=some z)(K:I2 P kt enc){m:Nat}{l:List (κ×Wn)}(hm:Mp w m enc l)(k:κ):
 (uY t (.map (some m)) (enc k) false).run P w= .ok (.value ((CF k l).getD z)) w:=by
 obtain⟨es,c,hb,he,_⟩:=hm
 unfold uY;rw[kE]
 unfold Instr.lookup
 simp only[underlying,Sem.run_bind,run_program,Result.andThen_ok,hu,Sem.run_pure,sX hb,K.chk,A0 K k es.toList l he,<-Jp k l 0]
 cases BV k l 0 with
 |none=>simp[zeroValue,typeInfo,hi,hz]
 |some p=>simp
def del{κ:Type}[DecidableEq κ](k:κ):List (κ×Wn)->List (κ×Wn)
 |[]=>[]
 |p::r=>if k=p.1 then r else p::del k r
theorem Oj{k:κ}:∀l:List (κ×Wn),(del k l).Sublist l
 |[]=> .slnil
 |p::r=>by
  simp only[del]
  split
  .exact List.sublist_cons_self _ _
  .exact (Oj r).cons_cons p
theorem L9 {k:κ}:∀{es:List MapEntry} {l:List (κ×Wn)} {i:Nat},es.map (λe=>(e.key,e.val))=l.map (λp=>(enc p.1,p.2))→
 (BV k l i=none->del k l=l)/\(∀j x,BV k l i=some (j,x)->i<=j/\(es.eraseIdx (j-i)).map (λe=>(e.key,e.val))=(del k l).map (λp=>(enc p.1,p.2)))
 |es,[],i,h=>⟨λ_=>rfl,λj x h=>by simp[BV]at h⟩
 |[],p::r,i,h=>by simp at h
 |x::es,p::r,i,h=>by
  rw[UW,UW,VX]at h
  obtain⟨h1,h2⟩:=h
  simp only[BV,del]
  by_cases hk:k=p.1
  .rw [if_pos hk,if_pos hk]
   refine⟨λh=>by(cases h),λj y h=> ?_⟩
   cases h
   exact⟨U0 _,by simp[h2]⟩
  .rw [if_neg hk,if_neg hk]
   obtain⟨a,b⟩:=L9 (k:=k) (i:=i+1) h2
   refine⟨λh=>by rw[a h],λj y h=> ?_⟩
   obtain⟨c,d⟩:=b j y h
   refine⟨by omega, ?_⟩
   rw[show j-i=(j-(i+1))+1 from by omega,Vr,UW,UW,d,h1]
theorem NL{kt et kt2 ty:TypeId}(hu:P.underlying t=some (.map kt et))(Ke:I2 P kt enc){m:Nat}{l:List (κ×Wn)}(hm:Mp w m enc l)(k:κ){K:Wn->Wm->Prop}
 (hk:∀w',Mp w' m enc (del k l)->aJ w w' (λy=>y=m)->w'.heap.size=w.heap.size->K (.tuple #[]) w'):aB P (lG .delete #[t,kt2] ty [.map (some m),enc k]) w K:=by
 have hlt:=hm.lt
 obtain⟨es,c,hb,he,hgr,hnd⟩:=hm
 have hext:∀o,aJ w {w with heap:=w.heap.setIfInBounds m o} (λy=>y=m):=λo=>
  ⟨rfl,rfl,rfl,by simp,λb hb hn=>by
   show(w.heap.setIfInBounds m o)[b]?=_
   rw[U5 (λe=>hn e.symm)]⟩
 have key:∃es',(lG .delete #[t,kt2] ty [.map (some m),enc k]).run P w= .ok (.value (.tuple #[])) {w with heap:=w.heap.setIfInBounds m (.map es' c)}/\es'.toList.map (λe=>(e.key,e.val))=((del k l).map λp=>(enc p.1,p.2))/\Grown es' c:=by
  obtain⟨g1,g2⟩:=L9 (k:=k) (i:=0) he
  unfold lG builtin
  simp only[Builtin.delete_,VL,UP,UR]
  simp only[underlying,Sem.run_bind,run_program,Result.andThen_ok,hu,Sem.run_pure,sX hb,Ke.chk,A0 Ke k es.toList l he]
  cases hi:BV k l 0 with
  |none=>
   refine⟨es, ?_,by rw[g1 hi];exact he,hgr⟩
   simp only[Cz _ hb,Result.andThen_ok,Sem.run_pure,Sem.run_bind]
  |some q=>
   obtain⟨j,x⟩:=q
   obtain⟨_,g3⟩:=g2 j x hi
   rw[Nat.sub_zero]at g3
   have htl:(es.eraseIdxIfInBounds j).toList=es.toList.eraseIdx j:=by
    simp
   refine⟨es.eraseIdxIfInBounds j, ?_,by rw[htl];exact g3, ?_, ?_⟩
   .simp only[Cz _ hb,Result.andThen_ok,Sem.run_pure,Sem.run_bind]
   .rw [htl];exact hgr.1.sublist ((List.eraseIdx_sublist _ _).map _)
   .intro e he'
    rw[htl]at he'
    exact hgr.2 e ((List.eraseIdx_sublist _ _).subset he')
 obtain⟨es',h1,h2,h3⟩:=key
 unfold aB
 rw[h1]
 exact hk _ ⟨es',c,by show(w.heap.setIfInBounds m _)[m]?=_;rw[U4 hlt],h2,h3,hnd.sublist ((Oj l).map _)⟩ (hext _) (by simp)
theorem CP:∀{l:List MapEntry} {i:Nat} (hi:i<l.length),(l.map (·.born)).Pairwise (·≠·)->(l.filter λe=>decide (e.born≠(l[i]).born))=l.eraseIdx i
 |[],i,hi,_=>by simp at hi
 |x::l,0,hi,h=>by
  rw[UW,VB]at h
  rw[List.getElem_cons_zero,List.filter_cons_of_neg (by simp),List.eraseIdx_cons_zero,List.filter_eq_self]
  intro a ha
  have:=h.1 a.born (Vl.2 ⟨a,ha,rfl⟩)
  simpa usingλe=>this e.symm
 |x::l,i+1,hi,h=>by
  rw[UW,VB]at h
  have hi':i<l.length:=by simpa using hi
  have:=h.1 (l[i]).born (Vl.2 ⟨l[i],VU hi',rfl⟩)
  rw[List.getElem_cons_succ,List.filter_cons_of_pos (by simpa using this),Vr,CP hi' h.2]
theorem xA{α β:Type}(f:α->β):∀(l:List α) (i:Nat),(l.eraseIdx i).map f=(l.map f).eraseIdx i
 |[],i=>by simp
 |x::l,0=>by simp
 |x::l,i+1=>by rw[Vr,UW,UW,Vr,xA f l i]
def Rp{κ:Type}(w:Wm)(it m:Nat)(enc:κ->Wn)(rest:List (κ×Wn)):Prop:=
 ∃es clock seen,w.heap[m]?=some (.map es clock)/\w.heap[it]?=some (.mapIter (some m) clock seen clock)/\Grown es clock/\
  (es.toList.filter λe=> !seen.contains e.born).map (λe=>(e.key,e.val))=rest.map λp=>(enc p.1,p.2)
theorem Rp.ext {κ:Type}{w w':Wm}{it m:Nat}{enc:κ->Wn}{rest:List (κ×Wn)}{M:Nat->Prop}(h:Rp w it m enc rest)(hx:aJ w w' M)(hm:¬M m)(hi:¬M it):Rp w' it m enc rest:=by
 obtain⟨es,c,seen,h1,h2,h3⟩:=h
 have lt:∀{b:Nat} {o:Obj},w.heap[b]?=some o->b<w.heap.size:=λ{b o} h=>by
  rcases Vk b w.heap.size with h'|h'
  .exact h'
  .rw [Vc h']at h;cases h
 exact⟨es,c,seen,by rw[hx.keep m (lt h1) hm];exact h1,by rw[hx.keep it (lt h2) hi];exact h2,h3⟩
theorem find_born:∀{l:List MapEntry} {e:MapEntry},(l.map (·.born)).Pairwise (·<·)->e∈l->l.find? (λx=>x.born==e.born)=some e
 |[],e,_,h=>by simp at h
 |x::l,e,hp,h=>by
  rw[UW,VB]at hp
  rw[List.find?_cons]
  rcases UZ.1 h with rfl|h
  .simp
  .have:=hp.1 e.born (Vl.2 ⟨e,h,rfl⟩)
   have hb:(x.born==e.born)=false:=by simp;omega
   rw[hb]
   exact find_born hp.2 h
def Ts{κ:Type}(w:Wm)(it m:Nat)(enc:κ->Wn)(p:κ×Wn):Prop:=
 ∃es clock c0 seen e,w.heap[m]?=some (.map es clock)/\w.heap[it]?=some (.mapIter (some m) c0 seen clock)/\seen.back?=some e.born/\es.find? (λx=>x.born==e.born)=some e/\e.key=enc p.1/\e.val=p.2
omit [DecidableEq κ]in
theorem Ts.ext {w w':Wm}{it m:Nat}{p:κ×Wn}{M:Nat->Prop}(h:Ts w it m enc p)(hx:aJ w w' M)(hm:¬M m)(hi:¬M it):Ts w' it m enc p:=by
 obtain⟨es,c,c0,seen,e,h1,h2,h3⟩:=h
 have lt:∀{b:Nat} {o:Obj},w.heap[b]?=some o->b<w.heap.size:=λ{b o} h=>by
  rcases Vk b w.heap.size with h'|h'
  .exact h'
  .rw [Vc h']at h;cases h
 exact⟨es,c,c0,seen,e,by rw[hx.keep m (lt h1) hm];exact h1,by rw[hx.keep it (lt h2) hi];exact h2,h3⟩
omit [DecidableEq κ]in
theorem Ow{it m:Nat}{p:κ×Wn}(h:Ts w it m enc p):(Ls (.pointer (some ⟨it,0,none⟩))).run P w= .ok (.value (.tuple #[enc p.1,p.2])) w:=by
 obtain⟨es,c,c0,seen,e,h1,h2,h3,h4,h5,h6⟩:=h
 have hgi:(getObj it).run P w= .ok (.mapIter (some m) c0 seen c) w:=by simp[getObj,Sem.run,h2]
 unfold Ls;rw[kE]
 simp only[Instr.entry,Sem.run_bind,hgi,Result.andThen_ok,h3,sX h1,bne_self_eq_false,UY,if_false,h4,Sem.run_pure,h5,h6]
omit [DecidableEq κ]in
theorem Pn{kt et:TypeId}(hu:P.underlying t=some (.map kt et)){m:Nat}{l:List (κ×Wn)}(hm:Mp w m enc l){K:Wn->Wm->Prop}
 (hk:∀w',Rp w' w.heap.size m enc l->aJ w w' bR->w'.heap.size=w.heap.size+1->K (.pointer (some ⟨w.heap.size,0,none⟩)) w'):aB P (HW t (.map (some m))) w K:=by
 have hlt:=hm.lt
 obtain⟨es,c,hb,he,hgr,hnd⟩:=hm
 have:(HW t (.map (some m))).run P w= .ok (.value (.pointer (some ⟨w.heap.size,0,none⟩))) (w.alloc (.mapIter (some m) c #[] c)):=by
  unfold HW;rw[kE]
  simp only[Instr.range,underlying,Sem.run_bind,run_program,Result.andThen_ok,hu,Sem.run_pure,sX hb,run_newObj]
  rfl
 unfold aB
 rw[this]
 refine hk _ ⟨es,c,#[], ?_, ?_,hgr, ?_⟩ (aJ.alloc _ _ _) (by simp)
 .show (w.heap.push _)[m]?=_
  rw[Array.getElem?_push,if_neg (by omega)];exact hb
 .show (w.heap.push _)[w.heap.size]?=_
  simp
 .rw [<-he]
  congr 1
  rw[List.filter_eq_self]
  intro a _
  simp
omit [DecidableEq κ]in
theorem MO{it m:Nat}{ty:TypeId}{rest:List (κ×Wn)}(h:Rp w it m enc rest)(hne:it≠m){K:Wn->Wm->Prop}
 (h0:rest=[]->K (.tuple #[.bool false]) w)
 (hk:∀w' (j:Nat) (hj:j<rest.length),Rp w' it m enc (rest.eraseIdx j)->Ts w' it m enc rest[j]->aJ w w' (λy=>y=it)->w'.heap.size=w.heap.size->K (.tuple #[.bool true,enc rest[j].1,rest[j].2]) w'):
 aB P (MH (.pointer (some ⟨it,0,none⟩)) false ty) w K:=by
 obtain⟨es,c,seen,hm,hi,hgr,hr⟩:=h
 have hlt:it<w.heap.size:=by
  rcases Vk it w.heap.size with h'|h'
  .exact h'
  .rw [Vc h']at hi;cases hi
 have hgi:(getObj it).run P w= .ok (.mapIter (some m) c seen c) w:=by simp[getObj,Sem.run,hi]
 have hnot:(!seen.isEmpty&& !es.isEmpty&&es.all λe=>decide (e.born≥c))=false:=by
  cases hes:es.toList with
  |nil=>
   have:es= #[]:=by rw[<-Array.toArray_toList (xs:=es),hes]
   subst this;simp
  |cons x r=>
   have hx:x∈es.toList:=by rw[hes];simp
   have:=hgr.2 x hx
   have:(es.all λe=>decide (e.born≥c))=false:=by
    rw[Array.all_eq_false']
    exact⟨x,by simpa using hx,by simp;omega⟩
   rw[this];simp
 have hold:((es.filter λe=> !seen.contains e.born).filter λe=>decide (e.born<c))=es.filter λe=> !seen.contains e.born:=by
  rw[Array.filter_eq_self]
  intro a ha
  have:=hgr.2 a (by simpa using(Array.mem_filter.1 ha).1)
  simpa using this
 have hnew:((es.filter λe=> !seen.contains e.born).filter λe=>decide (e.born≥c))= #[]:=by
  rw[Array.filter_eq_empty_iff]
  intro a ha
  have:=hgr.2 a (by simpa using(Array.mem_filter.1 ha).1)
  simp;omega
 have hll:(es.filter λe=> !seen.contains e.born).toList=es.toList.filter λe=> !seen.contains e.born:=by simp
 generalize hL:(es.filter λe=> !seen.contains e.born)=L at*
 have hlen:L.size=rest.length:=by
  have:=congrArg List.length hr
  rw[UU,UU,<-hll]at this
  simpa using this
 have hrun:(MH (.pointer (some ⟨it,0,none⟩)) false ty).run P w=((choose (.mapNext ((if L.isEmpty then#[none]else#[])++(L++ #[]).map some).size)).run P w).andThen λi w=>
     ((match((if L.isEmpty then#[none]else#[])++(L++ #[]).map some)[i]? with
       |some (some e)=>do
        setObj it (.mapIter (some m) c (seen.push e.born) c)
        pure (.tuple #[.bool true,e.key,e.val])
       |some none=>pure (.tuple #[.bool false])
       |none=>stuck "Next: no such candidate" :Sem Wn).run P w).andThen λv w=> .ok (.value v) w:=by
  unfold MH;rw[kE]
  simp only[Instr.next,Sem.run_bind,hgi,Result.andThen_ok,sX hm,hnot,UY,if_false,hL,hold,hnew]
  cases(choose (.mapNext ((if L.isEmpty then#[none]else#[])++(L++ #[]).map some).size)).run P w with
  |ok a w'=>rfl
  |_=>rfl
 unfold aB
 rw[hrun]
 by_cases hz:L.size=0
 .have hLe:L= #[]:=Array.eq_empty_of_size_eq_zero hz
  subst hLe
  have hre:rest=[]:=Ve.1 (by omega)
  have hf:(Question.mapNext 1).forced=true:=rfl
  simp only[Array.isEmpty_empty,if_true,Array.append_empty,Array.map_empty,V7,Wc,run_choose,hf]
  exact h0 hre
 .have hLe:L.isEmpty=false:=by
   simp[Array.isEmpty];intro h;subst h;simp at hz
  have hsz:((if L.isEmpty then#[none]else#[])++(L++ #[]).map some).size=L.size:=by rw[hLe];simp
  have hat:∀i (h:i<L.size),((if L.isEmpty then#[none]else#[])++(L++ #[]).map some)[i]?=some (some L[i]):=by
   intro i h;rw[hLe];simp[h]
  obtain⟨i,w',hi',hw',hch⟩:∃i w',i<L.size/\(w'=w∨w'=dr w)/\(choose (.mapNext ((if L.isEmpty then#[none]else#[])++(L++ #[]).map some).size)).run P w= .ok i w':=by
   rw[hsz,run_choose]
   by_cases hf:(Question.mapNext L.size).forced=true
   .rw [if_pos hf]
    exact⟨0,w,by omega,.inl rfl,rfl⟩
   .rw [if_neg hf]
    exact⟨_,dr w,Nat.mod_lt _ (by omega),.inr rfl,rfl⟩
  rw[hch]
  have hi2:w'.heap[it]?=some (.mapIter (some m) c seen c):=by rcases hw' with rfl|rfl<;>exact hi
  have hm2:w'.heap[m]?=some (.map es c):=by rcases hw' with rfl|rfl<;>exact hm
  have hx0:aJ w w' (λy=>y=it):=by
   rcases hw' with rfl|rfl
   .exact aJ.refl _ _
   .exact aJ.dr _ _
  have hset:(setObj it (.mapIter (some m) c (seen.push (L[i]).born) c)).run P w'= .ok () {w' with heap:=w'.heap.setIfInBounds it (.mapIter (some m) c (seen.push (L[i]).born) c)}:=by simp[setObj,Sem.run,hi2]
  simp only[Result.andThen_ok,hat i hi',Sem.run_bind,hset,Sem.run_pure]
  have hri:i<rest.length:=by omega
  have hkv:((L[i]).key,(L[i]).val)=(enc rest[i].1,rest[i].2):=by
   have:=congrArg (λ(x:List (Wn×Wn))=>x[i]?) hr
   simp only[<-hll,Vt]at this
   rw[VK,U2 hi',U1 hri]at this
   simpa using this
  obtain⟨hk1,hk2⟩:=Prod.mk.inj hkv
  have hkk:(Value.tuple #[.bool true,L[i].key,L[i].val])= .tuple #[.bool true,enc rest[i].1,rest[i].2]:=by rw[hk1,hk2]
  rw[hkk]
  have hsize:({w' with heap:=w'.heap.setIfInBounds it (.mapIter (some m) c (seen.push (L[i]).born) c)}:Wm).heap.size=w.heap.size:=by
   rcases hw' with rfl|rfl
   .simp
   .simp;rfl
  have hwlt:it<w'.heap.size:=by rcases hw' with rfl|rfl<;>exact hlt
  have hwm:({w' with heap:=w'.heap.setIfInBounds it (.mapIter (some m) c (seen.push (L[i]).born) c)}:Wm).heap[m]?=some (.map es c):=by
   show(w'.heap.setIfInBounds it _)[m]?=_
   rw[U5 hne];exact hm2
  have hwi:({w' with heap:=w'.heap.setIfInBounds it (.mapIter (some m) c (seen.push (L[i]).born) c)}:Wm).heap[it]?=some (.mapIter (some m) c (seen.push (L[i]).born) c):=by
   show(w'.heap.setIfInBounds it _)[it]?=_
   rw[U4 hwlt]
  have hmemL:L[i]∈es.toList:=by
   have hm0:L[i]∈es.filter λe=> !seen.contains e.born:=by rw[hL];exact Array.getElem_mem hi'
   simpa using(Array.mem_filter.1 hm0).1
  have hcur:Ts ({w' with heap:=w'.heap.setIfInBounds it (.mapIter (some m) c (seen.push (L[i]).born) c)}:Wm) it m enc rest[i]:=
   ⟨es,c,c,_,L[i],hwm,hwi,by simp,by rw[<-Array.find?_toList];exact find_born hgr.1 hmemL,hk1,hk2⟩
  refine hk _ i hri ⟨es,c,seen.push (L[i]).born, ?_, ?_,hgr, ?_⟩ hcur (hx0.seq ⟨rfl,rfl,rfl,by simp,λb hb hn=>by
   show(w'.heap.setIfInBounds it _)[b]?=_
   rw[U5 (λe=>hn e.symm)]⟩) hsize
  .show (w'.heap.setIfInBounds it _)[m]?=_
   rw[U5 hne];exact hm2
  .show (w'.heap.setIfInBounds it _)[it]?=_
   rw[U4 hwlt]
  .
   have hfil:(es.toList.filter λe=> !(seen.push (L[i]).born).contains e.born)=(es.toList.filter λe=> !seen.contains e.born).filter λe=>decide (e.born≠(L[i]).born):=by
    rw[List.filter_filter]
    congr 1
    funext e
    simp only[Array.contains_push]
    by_cases h:e.born=(L[i]).born
    .simp [h]
    .have h':¬(L[i]).born=e.born:=λx=>h x.symm
     simp[h,h']
   have hLi:L[i]=L.toList[i]'(by simpa using hi'):=by simp
   rw[hfil,<-hll,hLi,CP,xA,hll,hr,<-xA]
   rw[hll]
   exact(hgr.1.imp (λh=>Wk h)).sublist ((List.filter_sublist).map _)
end
end Go.En
namespace Go.Proofs.Ytmhokapokchneaa
open Go Go.En
set_option maxRecDepth 4000
theorem Ic{ty:TypeId}(x:Option Addr)(n c:Nat)(w:Wm):(lG .len #[23] ty [.slice x n c]).run pg w= .ok (.value (.int .i64 n)) w:=Gb Try.underlying23 x n c
theorem Lf:(pg).info? 5=some Try.t5:=by kernel_rfl
theorem B8 {k k':IntKind}{lo hi:Int}(a:Option Addr)(n c:Nat)(w:Wm)(h0:0<=lo)(h1:lo<=hi)(h2:hi<=c):(wJ 23 (.slice a n c) (some (.int k lo)) (some (.int k' hi)) none).run pg w= .ok (.value (.slice (lN a c (lo.toNat) 1) (hi.toNat-lo.toNat) (c-lo.toNat))) w:=Lk Try.underlying23 Lf _ n c h0 h1 h2
theorem Jw{ty:TypeId}(x:Option Addr)(n c:Nat)(w:Wm):(lG .len #[22] ty [.slice x n c]).run pg w= .ok (.value (.int .i64 n)) w:=Gb Try.underlying22 x n c
theorem RJ:(pg).info? 4=some Try.t4:=by kernel_rfl
theorem Jo{k:IntKind}{a:Int}(b o n c:Nat)(w:Wm)(h0:0<=a)(h1:a<n):(aL 22 (.slice (some ⟨b,o,none⟩) n c) (.int k a)).run pg w= .ok (.value (.pointer (some ⟨b,o+a.toNat,none⟩))) w:=HC rfl Try.underlying22 RJ b o n c h0 h1
theorem zF(x:Addr)(w:Wm):(aD 4 (.pointer (some x))).run pg w=Ni (w.cell? x) w (Nb pg 4 x w):=IB Try.underlying4 rfl x w
theorem HZ{n:Nat}{ps:List (Nat×Wn)}{cells:Array Wn}{w:Wm}(h1:¬n*1>2^24)(h0:¬n*1=0)(hf:Go.Instr.fill (λj=>some (j*1,1)) ((Array.range (n*1)).map ((Try.t5.zero.get!).cells[·%(Try.t5.zero.get!).cells.size]!)) ps=some cells){K:Wn->Wm->Prop}(hk:∀w',bE w' w.heap.size cells.toList->aJ w w' bR->w'.heap.size=w.heap.size+1->K (.slice (some ⟨w.heap.size,0,none⟩) n n) w'):aB pg (bZ 23 n ps) w K:=AH (i:=Try.t5) Try.underlying23 Lf rfl h1 h0 hf hk
theorem xO{base n m:Nat}{ty:TypeId}{w:Wm}{v x:Wn}{l news:List Wn}(h:zC w base 1 v n l)(hx:Cl w 1 x m news)(hone:∀y∈news,one y=true)(hb:base<=w.heap.size)(hbytes:(n+m)*1<=140737488355328){K:Wn->Wm->Prop}(hk:∀v' w',zC w' base 1 v' (n+m) (l++news)->aJ w w' (λy=>base<=y)->K v' w'):aB pg (lG .append #[23,23] ty [v,x]) w K:=Gm (i:=Try.t5) Try.underlying23 Try.underlying23 Lf rfl rfl rfl h hx hone hb (by omega) hbytes (by decide) hk
theorem H8 {k:IntKind}{a:Int}(b o n c:Nat)(w:Wm)(h0:0<=a)(h1:a<n):(aL 23 (.slice (some ⟨b,o,none⟩) n c) (.int k a)).run pg w= .ok (.value (.pointer (some ⟨b,o+a.toNat,none⟩))) w:=HC rfl Try.underlying23 Lf b o n c h0 h1
theorem Mc(x:Addr)(w:Wm):(aD 5 (.pointer (some x))).run pg w=Ni (w.cell? x) w (Nb pg 5 x w):=IB Try.underlying5 rfl x w
theorem Q0 {b off:Nat}{cs:List Wn}{w:Wm}{v:Wn}{K:Wn->Wm->Prop}(ho:bE w b cs)(hv:one v=true)(h:off<cs.length)(hk:∀w',bE w' b (cs.set off v)->aJ w w' (λx=>x=b)->w'.heap.size=w.heap.size->K undef w'):aB pg (aO 5 (.pointer (some ⟨b,off,none⟩)) v) w K:=mM Lf rfl ho hv h hk
theorem Kv{ox oy:Operand}(c d:Bool)(w:Wm):(aE .eql 4 ox oy (.bool c) (.bool d)).run pg w= .ok (.value (.bool (c==d))) w:=S4 c d Try.underlying4
theorem kP{l:List UInt8}{v:Wn}{w:Wm}(h:Bs w v l):(rH 23 9 v).run pg w= .ok (.value (.string ⟨l.toArray⟩)) w:=QH Try.underlying23 Try.underlying9 Try.underlying5 h
theorem Cj{k:IntKind}(a:Int)(w:Wm):(rH 5 3 (.int k a)).run pg w= .ok (.value (.int .i64 (IntKind.i64.wrap a))) w:=Ga Try.underlying5 Try.underlying3
theorem Mk{k:IntKind}{n:Int}{w:Wm}{K:Wn->Wm->Prop}(h0:0<=n)(hn:1*n<=2^48)(hk:∀w',bE w' w.heap.size (List.replicate n.toNat (.int .u8 0))->aJ w w' bR->w'.heap.size=w.heap.size+1->K (.slice (some ⟨w.heap.size,0,none⟩) n.toNat n.toNat) w'):aB pg (Ee 23 (.int k n) (.int k n)) w K:=Q2 (i:=Try.t5) Try.underlying23 Lf rfl rfl rfl h0 hn (by omega) hk
theorem Oq:(pg).info? 41=some Try.t41:=by kernel_rfl
theorem bY{w:Wm}{K:Wn->Wm->Prop}(hk:∀w',bE w' w.heap.size [(.int .i64 0),(.slice none 0 0),(.slice none 0 0),(.int .i64 0),(.bool false)]->aJ w w' bR->w'.heap.size=w.heap.size+1->K (.pointer (some ⟨w.heap.size,0,none⟩)) w'):aB pg (lM 41) w K:=Ey (i:=Try.t41) Oq rfl hk
theorem iS{b off:Nat}{cs:List Wn}{w:Wm}{xs:Array Wn}{K:Wn->Wm->Prop}(ho:bE w b cs)(hs:xs.size=5)(hv:∀x∈xs.toList,one x=true)(h:off+5<=cs.length)(hk:∀w',bE w' b (nG cs off xs.toList)->aJ w w' (λx=>x=b)->w'.heap.size=w.heap.size->K undef w'):aB pg (aO 41 (.pointer (some ⟨b,off,none⟩)) (.agg xs)) w K:=HX (v:= .agg xs) Oq ho hs hv h hk
theorem B1 {ox oy:Operand}(x:Option Addr)(w:Wm):(aE .eql 25 ox oy (.pointer x) (.pointer none)).run pg w= .ok (.value (.bool x.isNone)) w:=S9 Try.underlying25 x
theorem Kw{ox oy:Operand}(c d:Bool)(w:Wm):(aE .neq 4 ox oy (.bool c) (.bool d)).run pg w= .ok (.value (.bool (!(c==d)))) w:=S5 c d Try.underlying4
theorem rA{ty:TypeId}(x:Option Addr)(n c:Nat)(w:Wm):(lG .len #[37] ty [.slice x n c]).run pg w= .ok (.value (.int .i64 n)) w:=Gb Try.underlying37 x n c
theorem Sh:(pg).info? 45=some Try.t45:=by kernel_rfl
theorem qZ{k:IntKind}{a:Int}(b o n c:Nat)(w:Wm)(h0:0<=a)(h1:a<n):(aL 37 (.slice (some ⟨b,o,none⟩) n c) (.int k a)).run pg w= .ok (.value (.pointer (some ⟨b,o+a.toNat*6,none⟩))) w:=Eu rfl Try.underlying37 Sh b o n c h0 h1
theorem Oo:(pg).info? 23=some Try.t23:=by kernel_rfl
theorem oU(b o:Nat)(w:Wm):(aF 45 (.pointer (some ⟨b,o,none⟩)) 4).run pg w= .ok (.value (.pointer (some ⟨b,o+4,none⟩))) w:=eC (i:=4) Try.underlying45 rfl Oo (by decide) _
theorem Ib(x:Addr)(w:Wm):(aD 23 (.pointer (some x))).run pg w=Ni (w.cell? x) w (Nb pg 23 x w):=IB Try.underlying23 rfl x w
theorem Hw:(pg).info? 9=some Try.t9:=by kernel_rfl
theorem pO(b o:Nat)(w:Wm):(aF 45 (.pointer (some ⟨b,o,none⟩)) 1).run pg w= .ok (.value (.pointer (some ⟨b,o+1,none⟩))) w:=eC (i:=1) Try.underlying45 rfl Hw (by decide) _
theorem nD(x:Addr)(w:Wm):(aD 9 (.pointer (some x))).run pg w=Ni (w.cell? x) w (Nb pg 9 x w):=IB Try.underlying9 rfl x w
theorem pE{ty:TypeId}(x:ByteArray)(w:Wm):(lG .len #[9] ty [.string x]).run pg w= .ok (.value (.int .i64 x.size)) w:=S7 Try.underlying9 x
theorem oX(b o:Nat)(w:Wm):(aF 45 (.pointer (some ⟨b,o,none⟩)) 2).run pg w= .ok (.value (.pointer (some ⟨b,o+2,none⟩))) w:=eC (i:=2) Try.underlying45 rfl Hw (by decide) _
theorem Iy:(pg).info? 3=some Try.t3:=by kernel_rfl
theorem qU(b o:Nat)(w:Wm):(aF 45 (.pointer (some ⟨b,o,none⟩)) 3).run pg w= .ok (.value (.pointer (some ⟨b,o+3,none⟩))) w:=eC (i:=3) Try.underlying45 rfl Iy (by decide) _
theorem tA(x:Addr)(w:Wm):(aD 3 (.pointer (some x))).run pg w=Ni (w.cell? x) w (Nb pg 3 x w):=IB Try.underlying3 rfl x w
theorem cC{b off:Nat}{cs:List Wn}{w:Wm}(ho:bE w b cs)(h:off+5<=cs.length):(aD 41 (.pointer (some ⟨b,off,none⟩))).run pg w= .ok (.value (.agg ((cs.drop off).take 5).toArray)) w:=IV Try.underlying41 rfl Oq ho h
theorem BW{b off:Nat}{l:List Wn}{w:Wm}(hl:l.length=6)(h:∀j,j<l.length->w.cell? ⟨b,off+j,none⟩=l[j]?):(aD 45 (.pointer (some ⟨b,off,none⟩))).run pg w= .ok (.value (.agg l.toArray)) w:=Lj Try.underlying45 rfl Sh hl.symm h
theorem Cn{ty:TypeId}(x:Option Addr)(n c:Nat)(w:Wm):(lG .len #[53] ty [.slice x n c]).run pg w= .ok (.value (.int .i64 n)) w:=Gb Try.underlying53 x n c
theorem La{b off n c:Nat}{cs:List Wn}{w:Wm}(ho:bE w b cs){K:Wn->Wm->Prop}(hk:∀w',bE w' b cs->aJ w w' (λy=>y=b)->w'.heap.size=w.heap.size->K (.slice (some ⟨b,off,none⟩) n c) w'):aB pg (rH 23 23 (.slice (some ⟨b,off,none⟩) n c)) w K:=R8 Try.underlying23 Try.underlying5 ho hk
theorem Fo{w:Wm}{K:Wn->Wm->Prop}(hk:∀w',Mp w' w.heap.size (λs:ByteArray=>Value.string s) ([]:List (ByteArray×Wn))->aJ w w' bR->w'.heap.size=w.heap.size+1->K (.map (some w.heap.size)) w'):aB pg (HV 57 none) w K:=Pm _ hk
theorem xP(n0:Int)(m1:Option Nat)(m2:Option Nat)(n3:Int)(w:Wm):(lA 60 [(0,(.int .i64 n0)),(1,(.map m1)),(2,(.map m2)),(4,(.int .i64 n3))]).run pg w= .ok (.value (.agg #[(.int .i64 n0),(.map m1),(.map m2),(.slice none 0 0),(.int .i64 n3),(.bool false)])) w:=by kernel_rfl
theorem Qg:(pg).info? 57=some Try.t57:=by kernel_rfl
theorem AY(b o:Nat)(w:Wm):(aF 60 (.pointer (some ⟨b,o,none⟩)) 2).run pg w= .ok (.value (.pointer (some ⟨b,o+2,none⟩))) w:=eC (i:=2) Try.underlying60 rfl Qg (by decide) _
theorem Fk(x:Addr)(w:Wm):(aD 57 (.pointer (some x))).run pg w=Ni (w.cell? x) w (Nb pg 57 x w):=IB Try.underlying57 rfl x w
theorem wZ{w:Wm}{m:Nat}{l:List (ByteArray×Wn)}(hm:Mp w m (λs:ByteArray=>Value.string s) l)(k:ByteArray):(uY 57 (.map (some m)) ((λs:ByteArray=>Value.string s) k) true).run pg w= .ok (.value (.tuple #[(CF k l).getD (.slice none 0 0),.bool (CF k l).isSome])) w:=S8 Try.underlying57 Oo rfl (Ep Try.underlying9) hm k
theorem Jv{w:Wm}{m:Nat}{l:List (ByteArray×Wn)}(hm:Mp w m (λs:ByteArray=>Value.string s) l)(k:ByteArray):(uY 57 (.map (some m)) ((λs:ByteArray=>Value.string s) k) false).run pg w= .ok (.value ((CF k l).getD (.slice none 0 0))) w:=RY Try.underlying57 Oo rfl (Ep Try.underlying9) hm k
theorem AX(b o:Nat)(w:Wm):(aF 60 (.pointer (some ⟨b,o,none⟩)) 0).run pg w= .ok (.value (.pointer (some ⟨b,o,none⟩))) w:=eC (i:=0) Try.underlying60 rfl Iy (by decide) _
theorem qT(n0:Int)(s1:ByteArray)(n2:Int)(a3:Option Addr)(l3 c3:Nat)(w:Wm):(lA 65 [(0,(.int .i64 n0)),(1,(.string s1)),(3,(.int .i64 n2)),(4,(.slice a3 l3 c3))]).run pg w= .ok (.value (.agg #[(.int .i64 n0),(.string s1),(.string ⟨#[]⟩),(.int .i64 n2),(.slice a3 l3 c3)])) w:=by kernel_rfl
theorem Si:(pg).info? 58=some Try.t58:=by kernel_rfl
theorem Ag(b o:Nat)(w:Wm):(aF 60 (.pointer (some ⟨b,o,none⟩)) 3).run pg w= .ok (.value (.pointer (some ⟨b,o+3,none⟩))) w:=eC (i:=3) Try.underlying60 rfl Si (by decide) _
theorem xV(x:Addr)(w:Wm):(aD 58 (.pointer (some x))).run pg w=Ni (w.cell? x) w (Nb pg 58 x w):=IB Try.underlying58 rfl x w
theorem xY{ty:TypeId}(x:Option Addr)(n c:Nat)(w:Wm):(lG .len #[58] ty [.slice x n c]).run pg w= .ok (.value (.int .i64 n)) w:=Gb Try.underlying58 x n c
theorem KA:(pg).info? 65=some Try.t65:=by kernel_rfl
theorem xU{k:IntKind}{a:Int}(b o n c:Nat)(w:Wm)(h0:0<=a)(h1:a<n):(aL 58 (.slice (some ⟨b,o,none⟩) n c) (.int k a)).run pg w= .ok (.value (.pointer (some ⟨b,o+a.toNat*5,none⟩))) w:=Eu rfl Try.underlying58 KA b o n c h0 h1
theorem kZ{b off:Nat}{cs:List Wn}{w:Wm}(ho:bE w b cs)(h:off+5<=cs.length):(aD 65 (.pointer (some ⟨b,off,none⟩))).run pg w= .ok (.value (.agg ((cs.drop off).take 5).toArray)) w:=IV Try.underlying65 rfl KA ho h
theorem Gy{w:Wm}{K:Wn->Wm->Prop}(hk:∀w',bE w' w.heap.size [(.int .i64 0),(.string ⟨#[]⟩),(.string ⟨#[]⟩),(.int .i64 0),(.slice none 0 0)]->aJ w w' bR->w'.heap.size=w.heap.size+1->K (.pointer (some ⟨w.heap.size,0,none⟩)) w'):aB pg (lM 65) w K:=Ey (i:=Try.t65) KA rfl hk
theorem Gl{b off:Nat}{cs:List Wn}{w:Wm}{xs:Array Wn}{K:Wn->Wm->Prop}(ho:bE w b cs)(hs:xs.size=5)(hv:∀x∈xs.toList,one x=true)(h:off+5<=cs.length)(hk:∀w',bE w' b (nG cs off xs.toList)->aJ w w' (λx=>x=b)->w'.heap.size=w.heap.size->K undef w'):aB pg (aO 65 (.pointer (some ⟨b,off,none⟩)) (.agg xs)) w K:=HX (v:= .agg xs) KA ho hs hv h hk
theorem AZ(b o:Nat)(w:Wm):(aF 60 (.pointer (some ⟨b,o,none⟩)) 1).run pg w= .ok (.value (.pointer (some ⟨b,o+1,none⟩))) w:=eC (i:=1) Try.underlying60 rfl Qg (by decide) _
theorem FL{b off:Nat}{cs:List Wn}{w:Wm}{v:Wn}{K:Wn->Wm->Prop}(ho:bE w b cs)(hv:one v=true)(h:off<cs.length)(hk:∀w',bE w' b (cs.set off v)->aJ w w' (λx=>x=b)->w'.heap.size=w.heap.size->K undef w'):aB pg (aO 57 (.pointer (some ⟨b,off,none⟩)) v) w K:=mM Qg rfl ho hv h hk
theorem qL{b off:Nat}{cs:List Wn}{w:Wm}{v:Wn}{K:Wn->Wm->Prop}(ho:bE w b cs)(hv:one v=true)(h:off<cs.length)(hk:∀w',bE w' b (cs.set off v)->aJ w w' (λx=>x=b)->w'.heap.size=w.heap.size->K undef w'):aB pg (aO 58 (.pointer (some ⟨b,off,none⟩)) v) w K:=mM Si rfl ho hv h hk
theorem AW(b o:Nat)(w:Wm):(aF 60 (.pointer (some ⟨b,o,none⟩)) 4).run pg w= .ok (.value (.pointer (some ⟨b,o+4,none⟩))) w:=eC (i:=4) Try.underlying60 rfl Iy (by decide) _
theorem Eg{b off:Nat}{cs:List Wn}{w:Wm}{v:Wn}{K:Wn->Wm->Prop}(ho:bE w b cs)(hv:one v=true)(h:off<cs.length)(hk:∀w',bE w' b (cs.set off v)->aJ w w' (λx=>x=b)->w'.heap.size=w.heap.size->K undef w'):aB pg (aO 3 (.pointer (some ⟨b,off,none⟩)) v) w K:=mM Iy rfl ho hv h hk
theorem AV(b o:Nat)(w:Wm):(aF 60 (.pointer (some ⟨b,o,none⟩)) 5).run pg w= .ok (.value (.pointer (some ⟨b,o+5,none⟩))) w:=eC (i:=5) Try.underlying60 rfl RJ (by decide) _
theorem IX{b off:Nat}{cs:List Wn}{w:Wm}{v:Wn}{K:Wn->Wm->Prop}(ho:bE w b cs)(hv:one v=true)(h:off<cs.length)(hk:∀w',bE w' b (cs.set off v)->aJ w w' (λx=>x=b)->w'.heap.size=w.heap.size->K undef w'):aB pg (aO 4 (.pointer (some ⟨b,off,none⟩)) v) w K:=mM RJ rfl ho hv h hk
theorem vH(n0:Int)(s1:ByteArray)(w:Wm):(lA 65 [(0,(.int .i64 n0)),(1,(.string s1))]).run pg w= .ok (.value (.agg #[(.int .i64 n0),(.string s1),(.string ⟨#[]⟩),(.int .i64 0),(.slice none 0 0)])) w:=by kernel_rfl
theorem iR{b off:Nat}{cs:List Wn}{w:Wm}(ho:bE w b cs)(h:off+5<=cs.length){K:Wn->Prop}(hk:K (.agg ((cs.drop off).take 5).toArray)):Iq pg 41 (.pointer (some ⟨b,off,none⟩)) w K:=RM Try.underlying41 rfl Oq ho h hk
theorem vI(w:Wm):(lA 41 []).run pg w= .ok (.value (.agg #[(.int .i64 0),(.slice none 0 0),(.slice none 0 0),(.int .i64 0),(.bool false)])) w:=by kernel_rfl
theorem rQ(n0:Int)(n1:Int)(w:Wm):(lA 41 [(0,(.int .i64 n0)),(3,(.int .i64 n1))]).run pg w= .ok (.value (.agg #[(.int .i64 n0),(.slice none 0 0),(.slice none 0 0),(.int .i64 n1),(.bool false)])) w:=by kernel_rfl
theorem pN(b o:Nat)(w:Wm):(aF 45 (.pointer (some ⟨b,o,none⟩)) 0).run pg w= .ok (.value (.pointer (some ⟨b,o,none⟩))) w:=eC (i:=0) Try.underlying45 rfl Iy (by decide) _
theorem oT(n0:Int)(s1:ByteArray)(n2:Int)(s3:ByteArray)(w:Wm):(lA 71 [(0,(.int .i64 n0)),(1,(.string s1)),(3,(.int .i64 n2)),(4,(.string s3))]).run pg w= .ok (.value (.agg #[(.int .i64 n0),(.string s1),(.string ⟨#[]⟩),(.int .i64 n2),(.string s3)])) w:=by kernel_rfl
theorem pT(n0:Int)(s1:ByteArray)(s2:ByteArray)(w:Wm):(lA 71 [(0,(.int .i64 n0)),(1,(.string s1)),(2,(.string s2))]).run pg w= .ok (.value (.agg #[(.int .i64 n0),(.string s1),(.string s2),(.int .i64 0),(.string ⟨#[]⟩)])) w:=by kernel_rfl
theorem rS(n0:Int)(s1:ByteArray)(w:Wm):(lA 71 [(0,(.int .i64 n0)),(1,(.string s1))]).run pg w= .ok (.value (.agg #[(.int .i64 n0),(.string s1),(.string ⟨#[]⟩),(.int .i64 0),(.string ⟨#[]⟩)])) w:=by kernel_rfl
theorem qV(b o:Nat)(w:Wm):(aF 41 (.pointer (some ⟨b,o,none⟩)) 3).run pg w= .ok (.value (.pointer (some ⟨b,o+3,none⟩))) w:=eC (i:=3) Try.underlying41 rfl Iy (by decide) _
theorem TF:(pg).info? 22=some Try.t22:=by kernel_rfl
theorem pM(b o:Nat)(w:Wm):(aF 45 (.pointer (some ⟨b,o,none⟩)) 5).run pg w= .ok (.value (.pointer (some ⟨b,o+5,none⟩))) w:=eC (i:=5) Try.underlying45 rfl TF (by decide) _
theorem Ju(x:Addr)(w:Wm):(aD 22 (.pointer (some x))).run pg w=Ni (w.cell? x) w (Nb pg 22 x w):=IB Try.underlying22 rfl x w
theorem tQ{ty:TypeId}(x:Option Addr)(n c:Nat)(w:Wm):(lG .len #[38] ty [.slice x n c]).run pg w= .ok (.value (.int .i64 n)) w:=Gb Try.underlying38 x n c
theorem Sg:(pg).info? 39=some Try.t39:=by kernel_rfl
theorem rT(b o:Nat)(w:Wm):(aF 41 (.pointer (some ⟨b,o,none⟩)) 2).run pg w= .ok (.value (.pointer (some ⟨b,o+2,none⟩))) w:=eC (i:=2) Try.underlying41 rfl Sg (by decide) _
theorem tO(x:Addr)(w:Wm):(aD 39 (.pointer (some x))).run pg w=Ni (w.cell? x) w (Nb pg 39 x w):=IB Try.underlying39 rfl x w
theorem tR{ty:TypeId}(x:Option Addr)(n c:Nat)(w:Wm):(lG .len #[39] ty [.slice x n c]).run pg w= .ok (.value (.int .i64 n)) w:=Gb Try.underlying39 x n c
theorem GM{k:IntKind}{a:Int}(b o n c:Nat)(w:Wm)(h0:0<=a)(h1:a<n):(aL 53 (.slice (some ⟨b,o,none⟩) n c) (.int k a)).run pg w= .ok (.value (.pointer (some ⟨b,o+a.toNat,none⟩))) w:=HC rfl Try.underlying53 Hw b o n c h0 h1
theorem Jq:(pg).info? 78=some Try.t78:=by kernel_rfl
theorem jL{k:IntKind}{a:Int}(b o n c:Nat)(w:Wm)(h0:0<=a)(h1:a<n):(aL 38 (.slice (some ⟨b,o,none⟩) n c) (.int k a)).run pg w= .ok (.value (.pointer (some ⟨b,o+a.toNat*2,none⟩))) w:=Eu rfl Try.underlying38 Jq b o n c h0 h1
theorem qY(b o:Nat)(w:Wm):(aF 78 (.pointer (some ⟨b,o,none⟩)) 0).run pg w= .ok (.value (.pointer (some ⟨b,o,none⟩))) w:=eC (i:=0) Try.underlying78 rfl Hw (by decide) _
theorem bH(b o:Nat)(w:Wm):(aF 41 (.pointer (some ⟨b,o,none⟩)) 4).run pg w= .ok (.value (.pointer (some ⟨b,o+4,none⟩))) w:=eC (i:=4) Try.underlying41 rfl RJ (by decide) _
theorem gR(b o:Nat)(w:Wm):(aF 78 (.pointer (some ⟨b,o,none⟩)) 1).run pg w= .ok (.value (.pointer (some ⟨b,o+1,none⟩))) w:=eC (i:=1) Try.underlying78 rfl Hw (by decide) _
theorem B2 {ox oy:Operand}(x:Option Addr)(w:Wm):(aE .neq 25 ox oy (.pointer x) (.pointer none)).run pg w= .ok (.value (.bool (!x.isNone))) w:=Ta Try.underlying25 x
theorem tI(n0:Int)(s1:ByteArray)(s2:ByteArray)(w:Wm):(lA 65 [(0,(.int .i64 n0)),(1,(.string s1)),(2,(.string s2))]).run pg w= .ok (.value (.agg #[(.int .i64 n0),(.string s1),(.string s2),(.int .i64 0),(.slice none 0 0)])) w:=by kernel_rfl
theorem FI{w:Wm}{m:Nat}{l:List (ByteArray×Wn)}(hm:Mp w m (λs:ByteArray=>Value.string s) l){K:Wn->Wm->Prop}(hk:∀w',Rp w' w.heap.size m (λs:ByteArray=>Value.string s) l->aJ w w' bR->w'.heap.size=w.heap.size+1->K (.pointer (some ⟨w.heap.size,0,none⟩)) w'):aB pg (HW 57 (.map (some m))) w K:=Pn Try.underlying57 hm hk
theorem Dp{n:Nat}{ps:List (Nat×Wn)}{cells:Array Wn}{w:Wm}(h1:¬n*5>2^24)(h0:¬n*5=0)(hf:Go.Instr.fill (λj=>some (j*5,5)) ((Array.range (n*5)).map ((Try.t65.zero.get!).cells[·%(Try.t65.zero.get!).cells.size]!)) ps=some cells){K:Wn->Wm->Prop}(hk:∀w',bE w' w.heap.size cells.toList->aJ w w' bR->w'.heap.size=w.heap.size+1->K (.slice (some ⟨w.heap.size,0,none⟩) n n) w'):aB pg (bZ 58 n ps) w K:=AH (i:=Try.t65) Try.underlying58 KA rfl h1 h0 hf hk
theorem FK{ox oy:Operand}(x:Option Addr)(n c:Nat)(w:Wm):(aE .eql 23 ox oy (.slice x n c) (.slice none 0 0)).run pg w= .ok (.value (.bool x.isNone)) w:=RZ Try.underlying23 x n c
theorem uQ(b o:Nat)(w:Wm):(aF 65 (.pointer (some ⟨b,o,none⟩)) 1).run pg w= .ok (.value (.pointer (some ⟨b,o+1,none⟩))) w:=eC (i:=1) Try.underlying65 rfl Hw (by decide) _
theorem uP(b o:Nat)(w:Wm):(aF 65 (.pointer (some ⟨b,o,none⟩)) 0).run pg w= .ok (.value (.pointer (some ⟨b,o,none⟩))) w:=eC (i:=0) Try.underlying65 rfl Iy (by decide) _
theorem xT(b o:Nat)(w:Wm):(aF 65 (.pointer (some ⟨b,o,none⟩)) 3).run pg w= .ok (.value (.pointer (some ⟨b,o+3,none⟩))) w:=eC (i:=3) Try.underlying65 rfl Iy (by decide) _
theorem tK(b o:Nat)(w:Wm):(aF 65 (.pointer (some ⟨b,o,none⟩)) 4).run pg w= .ok (.value (.pointer (some ⟨b,o+4,none⟩))) w:=eC (i:=4) Try.underlying65 rfl Oo (by decide) _
theorem Dv{ty:TypeId}{w:Wm}{b off dl c:Nat}{cs:List Wn}(ho:bE w b cs)(hl:off+dl<=cs.length){v:Wn}{l:List Wn}(h:Sl w v l)(hv:∀x∈l,one x=true){K:Wn->Wm->Prop}(hk:∀w',bE w' b (nG cs off (l.take (min l.length dl)))->aJ w w' (λx=>x=b)->w'.heap.size=w.heap.size->K (.int .i64 (min l.length dl:Nat)) w'):aB pg (lG .copy #[23,23] ty [.slice (some ⟨b,off,none⟩) dl c,v]) w K:=Q1 Try.underlying23 Lf rfl ho hl h hv hk
theorem Ef{k:IntKind}{lo:Int}(a:Option Addr)(n c:Nat)(w:Wm)(h0:0<=lo)(h1:lo<=n):(wJ 23 (.slice a n c) (some (.int k lo)) none none).run pg w= .ok (.value (.slice (lN a c (lo.toNat) 1) (n-lo.toNat) (c-lo.toNat))) w:=JC Try.underlying23 Lf _ n c h0 h1
theorem Fp{w:Wm}{m:Nat}{l:List (ByteArray×Wn)}(hm:Mp w m (λs:ByteArray=>Value.string s) l)(k:ByteArray)(v:Wn){K:Wn->Wm->Prop}(hk:∀w',Mp w' m (λs:ByteArray=>Value.string s) (NO k v l)->aJ w w' (λy=>y=m)->w'.heap.size=w.heap.size->K undef w'):aB pg (Gk 57 (.map (some m)) ((λs:ByteArray=>Value.string s) k) v) w K:=Pk Try.underlying57 (Ep Try.underlying9) hm k v hk
theorem Fc{ty:TypeId}{w:Wm}{m:Nat}{l:List (ByteArray×Wn)}(hm:Mp w m (λs:ByteArray=>Value.string s) l)(k:ByteArray){K:Wn->Wm->Prop}(hk:∀w',Mp w' m (λs:ByteArray=>Value.string s) (del k l)->aJ w w' (λy=>y=m)->w'.heap.size=w.heap.size->K (.tuple #[]) w'):aB pg (lG .delete #[57,9] ty [.map (some m),.string k]) w K:=NL Try.underlying57 (Ep Try.underlying9) hm k hk
theorem tL(b o:Nat)(w:Wm):(aF 65 (.pointer (some ⟨b,o,none⟩)) 2).run pg w= .ok (.value (.pointer (some ⟨b,o+2,none⟩))) w:=eC (i:=2) Try.underlying65 rfl Hw (by decide) _
theorem Ma:(pg).info? 71=some Try.t71:=by kernel_rfl
theorem De{b off:Nat}{l:List Wn}{w:Wm}(hl:l.length=5)(h:∀j,j<l.length->w.cell? ⟨b,off+j,none⟩=l[j]?):(aD 71 (.pointer (some ⟨b,off,none⟩))).run pg w= .ok (.value (.agg l.toArray)) w:=Lj Try.underlying71 rfl Ma hl.symm h
theorem pH{b off:Nat}{cs:List Wn}{w:Wm}(ho:bE w b cs)(h:off+5<=cs.length):(aD 71 (.pointer (some ⟨b,off,none⟩))).run pg w= .ok (.value (.agg ((cs.drop off).take 5).toArray)) w:=IV Try.underlying71 rfl Ma ho h
theorem fU{base n m:Nat}{ty:TypeId}{w:Wm}{v x:Wn}{l news:List Wn}(h:zC w base 5 v n l)(hx:Cl w 5 x m news)(hone:∀y∈news,one y=true)(hb:base<=w.heap.size)(hbytes:(n+m)*64<=140737488355328){K:Wn->Wm->Prop}(hk:∀v' w',zC w' base 5 v' (n+m) (l++news)->aJ w w' (λy=>base<=y)->K v' w'):aB pg (lG .append #[39,39] ty [v,x]) w K:=Gm (i:=Try.t71) Try.underlying39 Try.underlying39 Ma rfl rfl rfl h hx hone hb (by omega) hbytes (by decide) hk
theorem BM{n:Nat}{ps:List (Nat×Wn)}{cells:Array Wn}{w:Wm}(h1:¬n*5>2^24)(h0:¬n*5=0)(hf:Go.Instr.fill (λj=>some (j*5,5)) ((Array.range (n*5)).map ((Try.t71.zero.get!).cells[·%(Try.t71.zero.get!).cells.size]!)) ps=some cells){K:Wn->Wm->Prop}(hk:∀w',bE w' w.heap.size cells.toList->aJ w w' bR->w'.heap.size=w.heap.size+1->K (.slice (some ⟨w.heap.size,0,none⟩) n n) w'):aB pg (bZ 39 n ps) w K:=AH (i:=Try.t71) Try.underlying39 Ma rfl h1 h0 hf hk
theorem nO{b off:Nat}{cs:List Wn}{w:Wm}{v:Wn}{K:Wn->Wm->Prop}(ho:bE w b cs)(hv:one v=true)(h:off<cs.length)(hk:∀w',bE w' b (cs.set off v)->aJ w w' (λx=>x=b)->w'.heap.size=w.heap.size->K undef w'):aB pg (aO 39 (.pointer (some ⟨b,off,none⟩)) v) w K:=mM Sg rfl ho hv h hk
theorem Sf:(pg).info? 38=some Try.t38:=by kernel_rfl
theorem qX(b o:Nat)(w:Wm):(aF 41 (.pointer (some ⟨b,o,none⟩)) 1).run pg w= .ok (.value (.pointer (some ⟨b,o+1,none⟩))) w:=eC (i:=1) Try.underlying41 rfl Sf (by decide) _
theorem tV{b off:Nat}{cs:List Wn}{w:Wm}{v:Wn}{K:Wn->Wm->Prop}(ho:bE w b cs)(hv:one v=true)(h:off<cs.length)(hk:∀w',bE w' b (cs.set off v)->aJ w w' (λx=>x=b)->w'.heap.size=w.heap.size->K undef w'):aB pg (aO 38 (.pointer (some ⟨b,off,none⟩)) v) w K:=mM Sf rfl ho hv h hk
theorem tN(x:Addr)(w:Wm):(aD 38 (.pointer (some x))).run pg w=Ni (w.cell? x) w (Nb pg 38 x w):=IB Try.underlying38 rfl x w
theorem tM{k:IntKind}{a:Int}(b o n c:Nat)(w:Wm)(h0:0<=a)(h1:a<n):(aL 39 (.slice (some ⟨b,o,none⟩) n c) (.int k a)).run pg w= .ok (.value (.pointer (some ⟨b,o+a.toNat*5,none⟩))) w:=Eu rfl Try.underlying39 Ma b o n c h0 h1
theorem bK(b o:Nat)(w:Wm):(aF 71 (.pointer (some ⟨b,o,none⟩)) 1).run pg w= .ok (.value (.pointer (some ⟨b,o+1,none⟩))) w:=eC (i:=1) Try.underlying71 rfl Hw (by decide) _
theorem bJ(b o:Nat)(w:Wm):(aF 71 (.pointer (some ⟨b,o,none⟩)) 0).run pg w= .ok (.value (.pointer (some ⟨b,o,none⟩))) w:=eC (i:=0) Try.underlying71 rfl Iy (by decide) _
theorem bD(b o:Nat)(w:Wm):(aF 71 (.pointer (some ⟨b,o,none⟩)) 2).run pg w= .ok (.value (.pointer (some ⟨b,o+2,none⟩))) w:=eC (i:=2) Try.underlying71 rfl Hw (by decide) _
theorem bP(b o:Nat)(w:Wm):(aF 71 (.pointer (some ⟨b,o,none⟩)) 3).run pg w= .ok (.value (.pointer (some ⟨b,o+3,none⟩))) w:=eC (i:=3) Try.underlying71 rfl Iy (by decide) _
theorem qW(b o:Nat)(w:Wm):(aF 41 (.pointer (some ⟨b,o,none⟩)) 0).run pg w= .ok (.value (.pointer (some ⟨b,o,none⟩))) w:=eC (i:=0) Try.underlying41 rfl Iy (by decide) _
theorem F1 {x:ByteArray}{w:Wm}{K:Wn->Wm->Prop}(hk:∀w' c,Sl w' (.slice (some ⟨w.heap.size,0,none⟩) x.size c) (x.data.toList.map zD)->aJ w w' bR->w'.heap.size=w.heap.size+1->(∃r,bE w' w.heap.size (x.data.toList.map zD++List.replicate r (.int .u8 0))/\c=x.size+r)->K (.slice (some ⟨w.heap.size,0,none⟩) x.size c) w'):aB pg (rH 9 23 (.string x)) w K:=NM Try.underlying9 Try.underlying23 Try.underlying5 hk
theorem pX(b o:Nat)(w:Wm):(aF 71 (.pointer (some ⟨b,o,none⟩)) 4).run pg w= .ok (.value (.pointer (some ⟨b,o+4,none⟩))) w:=eC (i:=4) Try.underlying71 rfl Hw (by decide) _
theorem Eo{k:IntKind}{a:Int}(x:ByteArray)(w:Wm)(h0:0<=a)(h1:a.toNat<x.size):(Pg 9 (.string x) (.int k a)).run pg w= .ok (.value (.int .u8 (x[a.toNat]'h1).toNat)) w:=S6 Try.underlying9 x h0 h1
theorem rR(s0:ByteArray)(s1:ByteArray)(w:Wm):(lA 78 [(0,(.string s0)),(1,(.string s1))]).run pg w= .ok (.value (.agg #[(.string s0),(.string s1)])) w:=by kernel_rfl
theorem Dw{k:IntKind}(a:Int)(w:Wm):(rH 3 94 (.int k a)).run pg w= .ok (.value (.int .u64 (IntKind.u64.wrap a))) w:=Ga Try.underlying3 Try.underlying94
theorem qF{k:IntKind}{hi:Int}(a:Option Addr)(n c:Nat)(w:Wm)(h0:0<=hi)(h1:hi<=c):(wJ 38 (.slice a n c) none (some (.int k hi)) none).run pg w= .ok (.value (.slice (lN a c (0) 2) (hi.toNat-0) (c-0))) w:=Nq Try.underlying38 Jq _ n c h0 h1
theorem bO{base n m:Nat}{ty:TypeId}{w:Wm}{v x:Wn}{l news:List Wn}(h:zC w base 2 v n l)(hx:Cl w 2 x m news)(hone:∀y∈news,one y=true)(hb:base<=w.heap.size)(hbytes:(n+m)*32<=140737488355328){K:Wn->Wm->Prop}(hk:∀v' w',zC w' base 2 v' (n+m) (l++news)->aJ w w' (λy=>base<=y)->K v' w'):aB pg (lG .append #[38,38] ty [v,x]) w K:=Gm (i:=Try.t78) Try.underlying38 Try.underlying38 Jq rfl rfl rfl h hx hone hb (by omega) hbytes (by decide) hk
theorem Dc{b off:Nat}{l:List Wn}{w:Wm}(hl:l.length=2)(h:∀j,j<l.length->w.cell? ⟨b,off+j,none⟩=l[j]?):(aD 78 (.pointer (some ⟨b,off,none⟩))).run pg w= .ok (.value (.agg l.toArray)) w:=Lj Try.underlying78 rfl Jq hl.symm h
theorem Db{b off:Nat}{cs:List Wn}{w:Wm}(ho:bE w b cs)(h:off+2<=cs.length):(aD 78 (.pointer (some ⟨b,off,none⟩))).run pg w= .ok (.value (.agg ((cs.drop off).take 2).toArray)) w:=IV Try.underlying78 rfl Jq ho h
theorem tJ{n:Nat}{ps:List (Nat×Wn)}{cells:Array Wn}{w:Wm}(h1:¬n*2>2^24)(h0:¬n*2=0)(hf:Go.Instr.fill (λj=>some (j*2,2)) ((Array.range (n*2)).map ((Try.t78.zero.get!).cells[·%(Try.t78.zero.get!).cells.size]!)) ps=some cells){K:Wn->Wm->Prop}(hk:∀w',bE w' w.heap.size cells.toList->aJ w w' bR->w'.heap.size=w.heap.size+1->K (.slice (some ⟨w.heap.size,0,none⟩) n n) w'):aB pg (bZ 38 n ps) w K:=AH (i:=Try.t78) Try.underlying38 Jq rfl h1 h0 hf hk
theorem qG{k:IntKind}{lo:Int}(a:Option Addr)(n c:Nat)(w:Wm)(h0:0<=lo)(h1:lo<=n):(wJ 38 (.slice a n c) (some (.int k lo)) none none).run pg w= .ok (.value (.slice (lN a c (lo.toNat) 2) (n-lo.toNat) (c-lo.toNat))) w:=JC Try.underlying38 Jq _ n c h0 h1
theorem GP(x:Addr)(w:Wm):(aD 53 (.pointer (some x))).run pg w=Ni (w.cell? x) w (Nb pg 53 x w):=IB Try.underlying53 rfl x w
theorem KX{n:Nat}{ps:List (Nat×Wn)}{cells:Array Wn}{w:Wm}(h1:¬n*1>2^24)(h0:¬n*1=0)(hf:Go.Instr.fill (λj=>some (j*1,1)) ((Array.range (n*1)).map ((Try.t9.zero.get!).cells[·%(Try.t9.zero.get!).cells.size]!)) ps=some cells){K:Wn->Wm->Prop}(hk:∀w',bE w' w.heap.size cells.toList->aJ w w' bR->w'.heap.size=w.heap.size+1->K (.slice (some ⟨w.heap.size,0,none⟩) n n) w'):aB pg (bZ 53 n ps) w K:=AH (i:=Try.t9) Try.underlying53 Hw rfl h1 h0 hf hk
theorem TG:(pg).info? 53=some Try.t53:=by kernel_rfl
theorem Lu{b off:Nat}{cs:List Wn}{w:Wm}{v:Wn}{K:Wn->Wm->Prop}(ho:bE w b cs)(hv:one v=true)(h:off<cs.length)(hk:∀w',bE w' b (cs.set off v)->aJ w w' (λx=>x=b)->w'.heap.size=w.heap.size->K undef w'):aB pg (aO 53 (.pointer (some ⟨b,off,none⟩)) v) w K:=mM TG rfl ho hv h hk
theorem zW{k:IntKind}(a:Int)(w:Wm):(rH 94 105 (.int k a)).run pg w= .ok (.value (.int .u32 (IntKind.u32.wrap a))) w:=Ga Try.underlying94 Try.underlying105
theorem eF{b off:Nat}{cs:List Wn}{w:Wm}{v:Wn}{K:Wn->Wm->Prop}(ho:bE w b cs)(hv:one v=true)(h:off<cs.length)(hk:∀w',bE w' b (cs.set off v)->aJ w w' (λx=>x=b)->w'.heap.size=w.heap.size->K undef w'):aB pg (aO 9 (.pointer (some ⟨b,off,none⟩)) v) w K:=mM Hw rfl ho hv h hk
theorem uO{k:IntKind}(a:Int)(w:Wm):(rH 3 108 (.int k a)).run pg w= .ok (.value (.int .u64 (IntKind.u64.wrap a))) w:=Ga Try.underlying3 Try.underlying108
theorem Qf:(pg).info? 108=some Try.t108:=by kernel_rfl
theorem FO{w:Wm}{K:Wn->Wm->Prop}(hk:∀w',bE w' w.heap.size [(.int .u64 0)]->aJ w w' bR->w'.heap.size=w.heap.size+1->K (.pointer (some ⟨w.heap.size,0,none⟩)) w'):aB pg (lM 108) w K:=Ey (i:=Try.t108) Qf rfl hk
theorem oN{b off:Nat}{cs:List Wn}{w:Wm}{v:Wn}{K:Wn->Wm->Prop}(ho:bE w b cs)(hv:one v=true)(h:off<cs.length)(hk:∀w',bE w' b (cs.set off v)->aJ w w' (λx=>x=b)->w'.heap.size=w.heap.size->K undef w'):aB pg (aO 108 (.pointer (some ⟨b,off,none⟩)) v) w K:=mM Qf rfl ho hv h hk
theorem H3 {k:IntKind}(a:Int)(w:Wm):(rH 94 3 (.int k a)).run pg w= .ok (.value (.int .i64 (IntKind.i64.wrap a))) w:=Ga Try.underlying94 Try.underlying3
theorem SF{w:Wm}{K:Wn->Wm->Prop}(hk:∀w',bE w' w.heap.size [(.int .i64 0)]->aJ w w' bR->w'.heap.size=w.heap.size+1->K (.pointer (some ⟨w.heap.size,0,none⟩)) w'):aB pg (lM 3) w K:=Ey (i:=Try.t3) Iy rfl hk
theorem CI{k:IntKind}(a:Int)(w:Wm):(rH 105 5 (.int k a)).run pg w= .ok (.value (.int .u8 (IntKind.u8.wrap a))) w:=Ga Try.underlying105 Try.underlying5
theorem yN{k:IntKind}(a:Int)(w:Wm):(rH 107 5 (.int k a)).run pg w= .ok (.value (.int .u8 (IntKind.u8.wrap a))) w:=Ga Try.underlying107 Try.underlying5
theorem An(x:Addr)(w:Wm):(aD 108 (.pointer (some x))).run pg w=Ni (w.cell? x) w (Nb pg 108 x w):=IB Try.underlying108 rfl x w
end Go.Proofs.Ytmhokapokchneaa
namespace Go.En
open Go Go.ChangeShapes Go.WideShapes Go.ChangeAt Go.RowKit
theorem Kp{H:Type}{enc:TypeId×Wn->H}{P:Program}(hl:laidOutB P=true){W W':Wm}(hb:Below W.heap.size W W'):∀(ts:List TypeId) (vs:List Wn) (ds:List (DataW H)) (ps:List MemPlace),
 (ts.all λt=>P.readableRec t&&decide (t<P.types.size))=true->DataW.TrodAll enc P W 0 (λ_=>true) true ts vs ds ps->(∀x∈ps,x.block<W.heap.size)→
 DataW.TrodAll enc P W' 0 (λb=>decide (b<W.heap.size)) true ts vs ds ps:=by
 intro ts
 induction ts with
 |nil=>
  intro vs ds ps _ h _
  cases vs<;>cases ds<;>simp[DataW.TrodAll]at h⊢
  exact h
 |cons t ts ih=>
  intro vs ds ps hr h hlt
  cases vs with
  |nil=>simp[DataW.TrodAll]at h
  |cons v vs=>
   cases ds with
   |nil=>simp[DataW.TrodAll]at h
   |cons d ds=>
    obtain⟨p,q,h1,h2,rfl⟩:=h
    rw[List.all_cons,UT,UT,decide_eq_true_eq]at hr
    exact⟨p,q,Below.trod hl hr.1.1 hr.1.2 h1 hb (λx hx=>hlt x (VN _ hx)),ih _ _ _ hr.2 h2 (λx hx=>hlt x (V2 _ hx)),rfl⟩
theorem Qm{H:Type}{enc:TypeId×Wn->H}{P:Program}{f:Func}{s:ChangeSpec}{apart fresh handsOn:Bool}{tb:TypeId}{W W':Wm}{args:Array Wn}{ds gs:List (DataW H)}{before:List MemPlace}
 (hl:laidOutB P=true) (hr:(f.params.toList.all λt=>P.readableRec t&&decide (t<P.types.size))=true) (hres:f.resultTypes= #[tb]) (hbool:P.underlying tb=some .bool)
 (hW:DataW.Whole enc P f.params.toList s.vars apart W args.toList ds gs before) (hvars:s.vars=[]) (h1:(s.fn H (ds++gs)).results=[.lit (.bool true)]) (h2:(s.fn H (ds++gs)).args=ds) (h3:(s.fn H (ds++gs)).vars=[])
 (hx:aJ W W' bR):s.post enc P f apart fresh handsOn false W args (.bool true) W':=by
 have hb:=hx.below
 have hlt:∀x∈before,x.block<W.heap.size:=λx hx=>hW.lt x hx
 have hW':=hW
 obtain⟨p,q,hA,hV,rfl,_,_⟩:=hW
 rw[hvars]at hV
 obtain⟨_,rfl⟩:=trodVars_none hV
 rw[VW]at hW' hlt
 refine⟨ds,gs,p,[],p,[],hW', ?_, ?_, ?_,hb.frame _,λh=>by cases h⟩
 .rw [h1,hres]
  exact trodAll_cons_mk (shut_bool hbool _) trodAll_mk0
 .rw [h2];exact Kp hl hb _ _ _ _ hr hA hlt
 .rw [h3,hvars]<;>rfl
theorem Q4 (zs:List Int)(h:∀z∈zs,(Lit.int .u8 z).wf=true):∃l:List UInt8,zs.map (Value.int .u8)=l.map zD/\l.length=zs.length:=by
 refine⟨zs.map λz=>UInt8.ofNat z.toNat, ?_,by simp⟩
 rw[List.map_map]
 refine Vu λz hz=> ?_
 have:=h z hz
 have hx:0<=z/\z<=255:=by simpa[Lit.wf,IntKind.min,IntKind.max,IntKind.signed,IntKind.bits]using this
 show _=zD (UInt8.ofNat z.toNat)
 unfold zD
 rw[UInt8.toNat_ofNat']
 congr 1
 omega
end Go.En
namespace Go.Proofs.Ytmhokapokchneaa
open Go Go.En
theorem Ob{P:Program}{s:Sem Next}{w:Wm}{K:Wn->Wm->Prop}:aB P s w K=MK P (s.run P w) K:=Eq.trans rfl rfl
theorem LM{P:Program}{s:Sem Next}{v:Wn}{w:Wm}:vS P s v w=(s.run P w= .ok (.value v) w):=Eq.trans rfl rfl
theorem SV:type_of%(And.intro @Ob<|And.intro @LM<|And.intro @aV<|And.intro @stepR_skip<|And.intro @Ie<|And.intro @QL<|And.intro @Sr<|And.intro @Sv<|And.intro @Sw<|And.intro @Sn<|And.intro @TJ<|And.intro @Sy<|And.intro @Ms<|And.intro @Sx<|And.intro @Ig<|And.intro @GY<|And.intro @St<|And.intro @yC<|And.intro @QI<|And.intro @yW<|And.intro @B4<|And.intro @Ss<|And.intro @So<|And.intro @QK<|And.intro @qE<|And.intro @Sq<|And.intro @Sp<|And.intro @Su<|And.intro @Uw<|And.intro @Ux<|And.intro @Uy<|And.intro @Uz<|And.intro @UA<|And.intro @UB<|And.intro @UC<|And.intro @UD<|And.intro @UE<|And.intro @fV<|And.intro @Result.ok.injEq<|And.intro @Next.value.injEq<|And.intro @true_and<|And.intro @and_true<|And.intro @Ca<|And.intro @KQ<|And.intro @Sz<|And.intro @SB<|And.intro @SA<|And.intro @Tr<|And.intro @U3<|And.intro @vY<|And.intro @F6<|And.intro @uS<|And.intro @uR<|And.intro @lT<|And.intro @kN<|And.intro @Oa<|And.intro @LJ<|And.intro @jG<|And.intro @eE<|And.intro @if_true.{1}<|And.intro @if_false.{1}<|And.intro @UY<|And.intro @UQ<|And.intro @Option.isNone_some.{0}<|And.intro @Option.isNone_none.{0}<|And.intro @VV<|And.intro @VT<|And.intro @UR.{0}<|And.intro @UP.{0}<|And.intro @Ic<|And.intro @B8<|And.intro @Jw<|And.intro @Jo<|And.intro @zF<|And.intro @H8<|And.intro @Mc<|And.intro @Kv<|And.intro @Cj<|And.intro @B1<|And.intro @Kw<|And.intro @rA<|And.intro @qZ<|And.intro @oU<|And.intro @Ib<|And.intro @pO<|And.intro @nD<|And.intro @pE<|And.intro @oX<|And.intro @qU<|And.intro @tA<|And.intro @Cn<|And.intro @xP<|And.intro @AY<|And.intro @Fk<|And.intro @AX<|And.intro @qT<|And.intro @Ag<|And.intro @xV<|And.intro @xY<|And.intro @xU<|And.intro @AZ<|And.intro @AW<|And.intro @AV<|And.intro @vH<|And.intro @vI<|And.intro @rQ<|And.intro @pN<|And.intro @oT<|And.intro @pT<|And.intro @rS<|And.intro @qV<|And.intro @pM<|And.intro @Ju<|And.intro @tQ<|And.intro @rT<|And.intro @tO<|And.intro @tR<|And.intro @GM<|And.intro @jL<|And.intro @qY<|And.intro @bH<|And.intro @gR<|And.intro @B2<|And.intro @tI<|And.intro @FK<|And.intro @uQ<|And.intro @uP<|And.intro @xT<|And.intro @tK<|And.intro @Ef<|And.intro @tL<|And.intro @qX<|And.intro @tN<|And.intro @tM<|And.intro @bK<|And.intro @bJ<|And.intro @bD<|And.intro @bP<|And.intro @qW<|And.intro @pX<|And.intro @Eo<|And.intro @rR<|And.intro @Dw<|And.intro @qF<|And.intro @qG<|And.intro @GP<|And.intro @zW<|And.intro @uO<|And.intro @H3<|And.intro @CI<|And.intro @yN<| @An):=⟨@Ob, @LM, @aV, @stepR_skip, @Ie, @QL, @Sr, @Sv, @Sw, @Sn, @TJ, @Sy, @Ms, @Sx, @Ig, @GY, @St, @yC, @QI, @yW, @B4, @Ss, @So, @QK, @qE, @Sq, @Sp, @Su, @Uw, @Ux, @Uy, @Uz, @UA, @UB, @UC, @UD, @UE, @fV, @Result.ok.injEq, @Next.value.injEq, @true_and, @and_true, @Ca, @KQ, @Sz, @SB, @SA, @Tr, @U3, @vY, @F6, @uS, @uR, @lT, @kN, @Oa, @LJ, @jG, @eE, @if_true.{1}, @if_false.{1}, @UY, @UQ, @Option.isNone_some.{0}, @Option.isNone_none.{0}, @VV, @VT, @UR.{0}, @UP.{0}, @Ic, @B8, @Jw, @Jo, @zF, @H8, @Mc, @Kv, @Cj, @B1, @Kw, @rA, @qZ, @oU, @Ib, @pO, @nD, @pE, @oX, @qU, @tA, @Cn, @xP, @AY, @Fk, @AX, @qT, @Ag, @xV, @xY, @xU, @AZ, @AW, @AV, @vH, @vI, @rQ, @pN, @oT, @pT, @rS, @qV, @pM, @Ju, @tQ, @rT, @tO, @tR, @GM, @jL, @qY, @bH, @gR, @B2, @tI, @FK, @uQ, @uP, @xT, @tK, @Ef, @tL, @qX, @tN, @tM, @bK, @bJ, @bD, @bP, @qW, @pX, @Eo, @rR, @Dw, @qF, @qG, @GP, @zW, @uO, @H3, @CI, @yN, @An⟩
end Go.Proofs.Ytmhokapokchneaa
namespace Go.Pu
section
variable{κ β:Type}[DecidableEq κ]
def bC(k:κ):List (κ×β)->Option β
 |[]=>none
 |p::r=>if k=p.1 then some p.2 else bC k r
def sY(k:κ)(v:β):List (κ×β)->List (κ×β)
 |[]=>[(k,v)]
 |p::r=>if k=p.1 then(k,v)::r else p::sY k v r
def tY(k:κ):List (κ×β)->List (κ×β)
 |[]=>[]
 |p::r=>if k=p.1 then r else p::tY k r
theorem L8 (k j:κ)(v:β):∀l:List (κ×β),bC j (sY k v l)=if j=k then some v else bC j l:=by
 intro l
 induction l with
 |nil=>simp only[sY,bC]
 |cons p r ih=>
  simp only[sY]
  by_cases h:k=p.1
  .rw [if_pos h]
   simp only[bC]
   by_cases hj:j=k
   .rw [if_pos hj,if_pos hj]
   .rw [if_neg hj,if_neg hj,if_neg (λe=>hj (e.trans h.symm))]
  .rw [if_neg h]
   simp only[bC,ih]
   by_cases hj:j=p.1
   .rw [if_pos hj,if_pos hj,if_neg (λe=>h (e.symm.trans hj))]
   .rw [if_neg hj,if_neg hj]
theorem Hv{k:κ}:∀{l:List (κ×β)},k∉l.map (·.1)->bC k l=none
 |[],_=>rfl
 |p::r,h=>by
  rw[UW,UZ,not_or]at h
  rw[bC,if_neg h.1,Hv h.2]
theorem GJ{k j:κ}:∀{l:List (κ×β)},(l.map (·.1)).Nodup->bC j (tY k l)=if j=k then none else bC j l
 |[],_=>by simp[tY,bC]
 |p::r,h=>by
  rw[UW,VP]at h
  simp only[tY]
  by_cases hk:k=p.1
  .rw [if_pos hk]
   simp only[bC]
   by_cases hj:j=k
   .rw [if_pos hj,hj,hk,Hv h.1]
   .rw [if_neg hj,if_neg (λe=>hj (e.trans hk.symm))]
  .rw [if_neg hk]
   simp only[bC,GJ h.2]
   by_cases hj:j=p.1
   .rw [if_pos hj,if_pos hj,if_neg (λe=>hk (e.symm.trans hj))]
   .rw [if_neg hj,if_neg hj]
theorem Kz{k:κ}{v:β}{x:κ}:∀{l:List (κ×β)},x∈(sY k v l).map (·.1)->x=k∨x∈l.map (·.1)
 |[],h=>by simp[sY]at h;exact .inl h
 |p::r,h=>by
  simp only[sY]at h
  split at h
  .rename_i e
   rw[UW,UZ]at h
   rcases h with h|h
   .exact .inl h
   .exact .inr (by rw[UW];exact UX _ h)
  .rw [UW,UZ]at h
   rcases h with h|h
   .exact .inr (by rw[UW,h];exact Va)
   .rcases Kz h with h|h
    .exact .inl h
    .exact .inr (by rw[UW];exact UX _ h)
theorem F5 {k:κ}{v:β}:∀{l:List (κ×β)},(l.map (·.1)).Nodup->((sY k v l).map (·.1)).Nodup
 |[],_=>by simp[sY]
 |p::r,h=>by
  rw[UW,VP]at h
  simp only[sY]
  split
  .rename_i e
   rw[UW,VP]
   exact⟨λhm=>h.1 (e▸hm),h.2⟩
  .rename_i e
   rw[UW,VP]
   refine⟨λhm=> ?_,F5 h.2⟩
   rcases Kz hm with h1|h1
   .exact e h1.symm
   .exact h.1 h1
theorem Jj{k:κ}:∀l:List (κ×β),(tY k l).Sublist l
 |[]=>List.Sublist.slnil
 |p::r=>by
  simp only[tY]
  split
  .exact List.sublist_cons_self _ _
  .exact (Jj r).cons_cons _
theorem F4 {k:κ}{l:List (κ×β)}(h:(l.map (·.1)).Nodup):((tY k l).map (·.1)).Nodup:=h.sublist ((Jj l).map _)
end
abbrev aX:=List (ByteArray×List UInt8)
def bG(c:aX):Nat:=(c.map λp=>p.2.length).sum
theorem BU(k:ByteArray)(b:List UInt8):∀c:aX,bG (sY k b c)+((bC k c).getD []).length=bG c+b.length
 |[]=>by simp[sY,bC,bG]
 |p::r=>by
  have ih:=BU k b r
  simp only[sY,bC]
  split
  .simp [bG];omega
  .unfold bG at*
   rw[UW,UW,VS,VS];omega
theorem BT(k:ByteArray):∀c:aX,bG (tY k c)+((bC k c).getD []).length=bG c
 |[]=>by simp[tY,bC,bG]
 |p::r=>by
  have ih:=BT k r
  simp only[tY,bC]
  split
  .simp [bG];omega
  .unfold bG at*
   rw[UW,UW,VS,VS];omega
theorem L6 {c:aX}{j:Nat}(h:j<c.length):bG (c.eraseIdx j)+c[j].2.length=bG c:=by
 induction c generalizing j with
 |nil=>simp at h
 |cons p r ih=>
  cases j with
  |zero=>simp[bG];omega
  |succ j=>
   have:=ih (j:=j) (by simpa using h)
   unfold bG at*
   rw[Vr,UW,UW,VS,VS,List.getElem_cons_succ];omega
theorem zM{k:ByteArray}{c:aX}:((bC k c).getD []).length<=bG c:=by have:=BT k c;omega
structure Bc where
 kind:Nat
 name:ByteArray
 other:ByteArray
 at':Nat
 bytes:List UInt8
def over(old:List UInt8)(a:Nat)(b:List UInt8):List UInt8:=(old++List.replicate (max old.length (a+b.length)-old.length) 0).take a++b++(old++List.replicate (max old.length (a+b.length)-old.length) 0).drop (a+b.length)
theorem tS(old:List UInt8)(a:Nat)(b:List UInt8):(over old a b).length=max old.length (a+b.length):=by
 unfold over
 simp only[UO,Vd,Vs,Vz];omega
def Fe(o:Bc)(c:aX):aX:=
 if o.kind=0 then sY o.name (over ((bC o.name c).getD []) o.at' o.bytes) c
 else if o.kind=1 then match bC o.name c with
  |none=>c
  |some old=>sY o.other old (tY o.name c)
 else if o.kind=2 then tY o.name c else c
end Go.Pu
namespace Go.En
open Go Go.Pu
theorem SQ{v:Wn}{P Q:Nat->Prop}(h:CR v λb=>P b∨Q b):CR v P∨CR v Q:=by
 unfold CR at*
 split
 .exact h
 .rename_i hne
  split at h
  .exact absurd rfl (hne _ _ _)
  .exact h.elim
def vP(w:Wm)(X:Nat->Prop)(v:Wn)(b:List UInt8):Prop:=Bs w v b/\¬CR v X
theorem vP.ext {w w':Wm}{X M:Nat->Prop}{v:Wn}{b:List UInt8}(h:vP w X v b)(x:aJ w w' M)(hM:∀b,M b->X b):vP w' X v b:=⟨h.1.ext x λh'=>h.2 (kS h' hM),h.2⟩
theorem vP.sub {w:Wm}{X Y:Nat->Prop}{v:Wn}{b:List UInt8}(h:vP w X v b)(hY:∀b,Y b->X b∨w.heap.size<=b):vP w Y v b:=
 ⟨h.1,λh'=>by
   rcases SQ (kS h' hY)with h'|h'
   .exact h.2 h'
   .exact h.1.old h'⟩
def xK(w:Wm)(X:Nat->Prop):List (ByteArray×Wn)->aX->Prop
 |[],[]=>True
 |p::l,q::c=>p.1=q.1/\vP w X p.2 q.2/\xK w X l c
 |_,_=>False
theorem xK.map {w w':Wm}{X Y:Nat->Prop}(hd:∀v b,vP w X v b->vP w' Y v b):∀{l:List (ByteArray×Wn)} {c:aX},xK w X l c->xK w' Y l c
 |[],[],_=>trivial
 |p::l,q::c,h=>⟨h.1,hd _ _ h.2.1,xK.map hd h.2.2⟩
theorem xK.ext {w w':Wm}{X M:Nat->Prop}{l:List (ByteArray×Wn)}{c:aX}(h:xK w X l c)(x:aJ w w' M)(hM:∀b,M b->X b):xK w' X l c:=h.map λ_ _ h=>h.ext x hM
theorem xK.sub {w:Wm}{X Y:Nat->Prop}{l:List (ByteArray×Wn)}{c:aX}(h:xK w X l c)(hY:∀b,Y b->X b∨w.heap.size<=b):xK w Y l c:=h.map λ_ _ h=>h.sub hY
theorem xK.get {w:Wm}{X:Nat->Prop}(k:ByteArray):∀{l:List (ByteArray×Wn)} {c:aX},xK w X l c->(CF k l=none/\bC k c=none)∨∃v b,CF k l=some v/\bC k c=some b/\vP w X v b
 |[],[],_=> .inl ⟨rfl,rfl⟩
 |p::l,q::c,h=>by
  obtain⟨h1,h2,h3⟩:=h
  simp only[CF,bC,<-h1]
  by_cases hk:k=p.1
  .rw [if_pos hk,if_pos hk];exact .inr ⟨_,_,rfl,rfl,h2⟩
  .rw [if_neg hk,if_neg hk];exact xK.get k h3
theorem xK.set {w:Wm}{X:Nat->Prop}{k:ByteArray}{v:Wn}{b:List UInt8}(hd:vP w X v b):∀{l:List (ByteArray×Wn)} {c:aX},xK w X l c->xK w X (NO k v l) (sY k b c)
 |[],[],_=>⟨rfl,hd,trivial⟩
 |p::l,q::c,h=>by
  obtain⟨h1,h2,h3⟩:=h
  simp only[NO,sY,<-h1]
  by_cases hk:k=p.1
  .rw [if_pos hk,if_pos hk];exact⟨rfl,hd,h3⟩
  .rw [if_neg hk,if_neg hk];exact⟨h1,h2,xK.set hd h3⟩
theorem xK.del {w:Wm}{X:Nat->Prop}{k:ByteArray}:∀{l:List (ByteArray×Wn)} {c:aX},xK w X l c->xK w X (del k l) (tY k c)
 |[],[],_=>trivial
 |p::l,q::c,h=>by
  obtain⟨h1,h2,h3⟩:=h
  simp only[Go.En.del,tY,<-h1]
  by_cases hk:k=p.1
  .rw [if_pos hk,if_pos hk];exact h3
  .rw [if_neg hk,if_neg hk];exact⟨h1,h2,xK.del h3⟩
theorem xK.len {w:Wm}{X:Nat->Prop}:∀{l:List (ByteArray×Wn)} {c:aX},xK w X l c->l.length=c.length
 |[],[],_=>rfl
 |p::l,q::c,h=>by rw[U6,U6,xK.len h.2.2]
theorem xK.at {w:Wm}{X:Nat->Prop}:∀{l:List (ByteArray×Wn)} {c:aX} {j:Nat} (h:xK w X l c) (h1:j<l.length) (h2:j<c.length),l[j].1=c[j].1/\vP w X l[j].2 c[j].2
 |[],[],j,_,h1,_=>by simp at h1
 |p::l,q::c,0,h,_,_=>⟨h.1,h.2.1⟩
 |p::l,q::c,j+1,h,h1,h2=>xK.at h.2.2 (by simpa using h1) (by simpa using h2)
theorem xK.erase {w:Wm}{X:Nat->Prop}:∀{l:List (ByteArray×Wn)} {c:aX} (j:Nat) (h:xK w X l c),xK w X (l.eraseIdx j) (c.eraseIdx j)
 |[],[],j,_=>by simp[xK]
 |p::l,q::c,0,h=>h.2.2
 |p::l,q::c,j+1,h=>by
  rw[Vr,Vr]
  exact⟨h.1,h.2.1,xK.erase j h.2.2⟩
theorem xK.keys {w:Wm}{X:Nat->Prop}:∀{l:List (ByteArray×Wn)} {c:aX},xK w X l c->l.map (·.1)=c.map (·.1)
 |[],[],_=>rfl
 |p::l,q::c,h=>by rw[UW,UW,h.1,xK.keys h.2.2]
end Go.En
namespace Go.En
open Go
theorem Kt.ext {w w':Wm}{S M:Nat->Prop}{sz n:Nat}{v:Wn}{l:List Wn}(h:Kt w S sz v n l)(hx:aJ w w' M)(hM:∀b,S b->¬M b):Kt w' S sz v n l:=by
 refine⟨h.1, ?_⟩
 rcases h.2 with h2|⟨b,c,rest,h1,h2,h3,h4,h5⟩
 .exact .inl h2
 .exact .inr ⟨b,c,rest,h1,h2,h3.ext hx (hM b h2),h4,h5⟩
theorem zC.ne {w:Wm}{base p sz n:Nat}{v:Wn}{l:List Wn}(h:zC w base sz v n l)(hp:w.heap.size<=p):Kt w (λb=>base<=b/\b≠p) sz v n l:=by
 refine⟨h.1, ?_⟩
 rcases h.2 with h2|⟨b,c,rest,h1,h2,h3,h4,h5⟩
 .exact .inl h2
 .have:=h3.lt
  exact .inr ⟨b,c,rest,h1,⟨h2,by omega⟩,h3,h4,h5⟩
theorem Kt.len {w:Wm}{S:Nat->Prop}{sz n:Nat}{v:Wn}{l:List Wn}(h:Kt w S sz v n l):∃a c,v= .slice a n c:=by
 rcases h.2 with⟨h1,rfl⟩|⟨b,c,rest,h1,_⟩
 .exact ⟨_,_,h1⟩
 .exact ⟨_,_,h1⟩
end Go.En
namespace Go.En
open Go Go.Pu
def Hk(o:Bc)(v:Wn):List Wn:=[.int .i64 o.kind,.string o.name,.string o.other,.int .i64 o.at',v]
def Ir(w:Wm)(X:Nat->Prop):List Wn->List Bc->Prop
 |cs,[]=>cs=[]
 |cs,o::os=>∃v cs',(∃x n k,v= .slice x n k)/\cs=Hk o v++cs'/\vP w X v o.bytes/\Ir w X cs' os
theorem Ir.nil (w:Wm)(X:Nat->Prop):Ir w X [] []:=rfl
theorem Ir.map {w w':Wm}{X Y:Nat->Prop}(hd:∀v b,vP w X v b->vP w' Y v b):∀{os:List Bc} {cs:List Wn},Ir w X cs os->Ir w' Y cs os
 |[],cs,h=>h
 |o::os,cs,⟨v,cs',h1,h2,h3,h4⟩=>⟨v,cs',h1,h2,hd _ _ h3,Ir.map hd h4⟩
theorem Ir.ext {w w':Wm}{X M:Nat->Prop}{os:List Bc}{cs:List Wn}(h:Ir w X cs os)(x:aJ w w' M)(hM:∀b,M b->X b):Ir w' X cs os:=h.map λ_ _ h=>h.ext x hM
theorem Ir.sub {w:Wm}{X Y:Nat->Prop}{os:List Bc}{cs:List Wn}(h:Ir w X cs os)(hY:∀b,Y b->X b∨w.heap.size<=b):Ir w Y cs os:=h.map λ_ _ h=>h.sub hY
theorem Ir.len {w:Wm}{X:Nat->Prop}:∀{os:List Bc} {cs:List Wn},Ir w X cs os->cs.length=os.length*5
 |[],cs,h=>by rw[show cs=[]from h]<;>rfl
 |o::os,cs,⟨v,cs',h1,h2,h3,h4⟩=>by rw[h2,UO,Ir.len h4,U6];show 5+_=_;omega
theorem Ir.snoc {w:Wm}{X:Nat->Prop}{o:Bc}{v:Wn}(hv:∃x n k,v= .slice x n k)(hd:vP w X v o.bytes):∀{os:List Bc} {cs:List Wn},Ir w X cs os->Ir w X (cs++Hk o v) (os++[o])
 |[],cs,h=>⟨v,[],hv,by rw[show cs=[]from h,Vm,VW],hd,rfl⟩
 |o'::os,cs,⟨v',cs',h1,h2,h3,h4⟩=>⟨v',cs'++Hk o v,h1,by rw[h2,VE],h3,Ir.snoc hv hd h4⟩
theorem Ir.at {w:Wm}{X:Nat->Prop}:∀{os:List Bc} {cs:List Wn} {i:Nat} (h:Ir w X cs os) (hi:i<os.length),∃v,(∃x n k,v= .slice x n k)/\(cs.drop (i*5)).take 5=Hk os[i] v/\vP w X v os[i].bytes
 |[],cs,i,_,hi=>by simp at hi
 |o::os,cs,0,⟨v,cs',h1,h2,h3,h4⟩,_=>⟨v,h1,by rw[h2]<;>rfl,h3⟩
 |o::os,cs,i+1,⟨v,cs',h1,h2,h3,h4⟩,hi=>by
  obtain⟨v',q1,q2,q3⟩:=Ir.at h4 (i:=i) (by simpa using hi)
  refine⟨v',q1, ?_,q3⟩
  rw[show(i+1)*5=5+i*5 from by omega,<-List.drop_drop,h2]
  exact q2
structure iQ where
 room:Int
 sure:aX
 seen:aX
 under:List Bc
 left:Int
 down:Bool
abbrev DI:ByteArray->Wn:=λs=> .string s
def fC(w:Wm)(p:Nat)(X D:Nat->Prop)(S:iQ):Prop:=
 ∃(ms mn:Nat) (sv:Wn) (ls ln:List (ByteArray×Wn)) (cs:List Wn),X p/\X ms/\X mn/\p≠ms/\p≠mn/\ms≠mn/\(∀b,X b->D b)/\(∀b,D b->b<w.heap.size)/\
  bE w p [.int .i64 S.room,.map (some ms),.map (some mn),sv,.int .i64 S.left,.bool S.down]/\Mp w ms DI ls/\Mp w mn DI ln/\xK w D ls S.sure/\xK w D ln S.seen/\
  Kt w (λb=>X b/\b≠p/\b≠ms/\b≠mn) 5 sv S.under.length cs/\Ir w D cs S.under
theorem fC.ext {w w':Wm}{p:Nat}{X D M:Nat->Prop}{S:iQ}(h:fC w p X D S)(x:aJ w w' M)(hM:∀b,M b->D b/\¬X b):fC w' p X D S:=by
 obtain⟨ms,mn,sv,ls,ln,cs,h1,h2,h3,h4,h5,h6,h7,h7',h8,h9,h10,h11,h12,h13,h14⟩:=h
 have hx:∀{b},X b->¬M b:=λhb hm=>(hM _ hm).2 hb
 have hd:∀v b,vP w D v b->vP w' D v b:=λ_ _ hd=>hd.ext x λb h=>(hM b h).1
 exact⟨ms,mn,sv,ls,ln,cs,h1,h2,h3,h4,h5,h6,h7,λb hb=>Vb (h7' b hb) x.size,h8.ext x (hx h1),h9.ext x (hx h2),h10.ext x (hx h3),h11.map hd,h12.map hd,h13.ext x (λb hb=>hx hb.1),h14.map hd⟩
theorem fC.new {w w':Wm}{p:Nat}{X D:Nat->Prop}{S:iQ}(h:fC w p X D S)(x:aJ w w' bR):fC w' p X D S:=h.ext x λ_ h=>h.elim
theorem fC.more {w w':Wm}{p q:Nat}{X D:Nat->Prop}{S:iQ}(h:fC w p X D S)(x:aJ w w' bR)(hq:w.heap.size<=q)(hq':q<w'.heap.size):fC w' p X (λb=>D b∨b=q) S:=by
 obtain⟨ms,mn,sv,ls,ln,cs,h1,h2,h3,h4,h5,h6,h7,h7',h8,h9,h10,h11,h12,h13,h14⟩:=h
 have hd:∀v b,vP w D v b->vP w' (λb=>D b∨b=q) v b:=λv b hd=>(hd.sub (Y:=λb=>D b∨b=q) λb h=>by
  rcases h with h|h
  .exact .inl h
  .exact .inr (by omega)).ext x λ_ h=>h.elim
 have z:=x.size
 exact⟨ms,mn,sv,ls,ln,cs,h1,h2,h3,h4,h5,h6,λb h=> .inl (h7 b h),λb hb=>by
  rcases hb with hb|hb
  .have:=h7' b hb;omega
  .omega,h8.ext x (λh=>h),h9.ext x (λh=>h),h10.ext x (λh=>h),h11.map hd,h12.map hd,h13.ext x (λb _ h=>h),h14.map hd⟩
end Go.En
namespace Go.Pu
open Go
def fW(x y:ByteArray):Bool:=Op.bytesLess x.toList y.toList
theorem PO:∀x:List UInt8,Op.bytesLess x x=false
 |[]=>rfl
 |a::x=>by
  unfold Op.bytesLess
  rw[PO x]
  simp
theorem PQ:∀x y:List UInt8,x≠y->Op.bytesLess x y=false->Op.bytesLess y x=true
 |[],[],h,_=>absurd rfl h
 |[],b::y,_,h=>by simp[Op.bytesLess]at h
 |a::x,[],_,_=>by simp[Op.bytesLess]
 |a::x,b::y,h,h2=>by
  unfold Op.bytesLess at h2⊢
  by_cases e:a=b
  .subst e
   have hxy:x≠y:=λe=>h (by rw[e])
   simp at h2⊢
   exact PQ x y hxy h2
  .simp [e]at h2
   have h3:¬a.toNat<b.toNat:=λhh=>by
    have:a<b:=Wd.2 hh
    exact absurd this (by simpa using h2)
   have h4:a.toNat≠b.toNat:=λhh=>e (UInt8.toNat_inj.1 hh)
   have:b<a:=Wd.2 (by omega)
   simp[this]
theorem LQ:∀x y z:List UInt8,Op.bytesLess x y=true->Op.bytesLess y z=true->Op.bytesLess x z=true
 |_,[],_,h,_=>by simp[Op.bytesLess]at h
 |_,_::_,[],_,h=>by simp[Op.bytesLess]at h
 |[],_::_,_::_,_,_=>by simp[Op.bytesLess]
 |a::x,b::y,c::z,h1,h2=>by
  unfold Op.bytesLess at h1 h2⊢
  rw[Vo,UT,decide_eq_true_eq,beq_iff_eq]at h1 h2⊢
  rcases h1 with h1|⟨rfl,h1⟩
  .rcases h2 with h2|⟨rfl,h2⟩
   .left
    rw[Wd]at*
    omega
   .exact .inl h1
  .rcases h2 with h2|⟨rfl,h2⟩
   .exact .inl h2
   .exact .inr ⟨rfl,LQ x y z h1 h2⟩
theorem A3 (x:ByteArray):fW x x=false:=PO _
theorem Er{x y:ByteArray}(h:x≠y)(h2:fW x y=false):fW y x=true:=by
 refine PQ _ _ (λe=>h ?_) h2
 rw[ByteArray.toList_eq,ByteArray.toList_eq]at e
 cases x;cases y
 simp at e
 rw[e]
theorem zN{x y z:ByteArray}(h:fW x y=true)(h2:fW y z=true):fW x z=true:=LQ _ _ _ h h2
def Rg(l:aX):Prop:=l.Pairwise λp q=>fW p.1 q.1=true
theorem Rg.nodup {l:aX}(h:Rg l):(l.map (·.1)).Nodup:=by
 rw[List.Nodup,List.pairwise_map]
 exact h.imp λhh e=>by rw[e,A3]at hh;cases hh
def Cd(n:ByteArray)(l:aX):aX:=l.filter λp=>decide (p.1≠n)
def PE(n:ByteArray)(b:List UInt8)(l:aX):aX:=(Cd n l).takeWhile (λp=>fW p.1 n)++(n,b)::(Cd n l).dropWhile (λp=>fW p.1 n)
theorem DJ{n j:ByteArray}:∀{l:aX},bC j (Cd n l)=if j=n then none else bC j l
 |[]=>by simp[Cd,bC]
 |p::r=>by
  have ih:=DJ (n:=n) (j:=j) (l:=r)
  unfold Cd at ih⊢
  rw[List.filter_cons]
  by_cases h:p.1=n
  .have:decide (p.1≠n)=false:=by simp[h]
   rw[this,if_neg (by decide),ih]
   simp only[bC]
   by_cases hj:j=n
   .rw [if_pos hj,if_pos hj]
   .rw [if_neg hj,if_neg hj,if_neg (λe=>hj (e.trans h))]
  .have:decide (p.1≠n)=true:=by simp[h]
   rw[this,if_pos rfl]
   simp only[bC,ih]
   by_cases hj:j=p.1
   .rw [if_pos hj,if_pos hj,if_neg (λe=>h (hj.symm.trans e))]
   .rw [if_neg hj,if_neg hj]
theorem A1 {j:ByteArray}:∀{a b:aX},bC j (a++b)=(bC j a).or (bC j b)
 |[],b=>by simp[bC]
 |p::r,b=>by
  rw[V9]
  simp only[bC]
  by_cases h:j=p.1
  .rw [if_pos h,if_pos h]<;>rfl
  .rw [if_neg h,if_neg h,A1]
theorem GK{n j:ByteArray}{b:List UInt8}{l:aX}:bC j (PE n b l)=if j=n then some b else bC j l:=by
 have h1:=DJ (n:=n) (j:=j) (l:=l)
 have h2:Cd n l=(Cd n l).takeWhile (λp=>fW p.1 n)++(Cd n l).dropWhile (λp=>fW p.1 n):=List.takeWhile_append_dropWhile.symm
 unfold PE
 rw[A1]
 by_cases h:j=n
 .rw [if_pos h]at h1⊢
  rw[h2,A1]at h1
  have:bC j ((Cd n l).takeWhile λp=>fW p.1 n)=none:=by
   cases hq:bC j ((Cd n l).takeWhile λp=>fW p.1 n)with
   |none=>rfl
   |some v=>rw[hq]at h1;cases h1
  rw[this,Option.none_or]
  simp only[bC]
  rw[if_pos h]
 .rw [if_neg h]at h1⊢
  simp only[bC]
  rw[if_neg h,<-A1,<-h2,h1]
theorem OC{n:ByteArray}{l:aX}(h:Rg l):Rg (Cd n l):=List.Pairwise.filter _ h
theorem Mj{α:Type}{p:α->Bool}:∀{l:List α} {x:α},x∈l.takeWhile p->p x=true
 |[],x,h=>by simp at h
 |a::l,x,h=>by
  rw[List.takeWhile_cons]at h
  split at h
  .rename_i ha
   rcases UZ.1 h with h|h
   .rw [h];exact ha
   .exact Mj h
  .cases h
theorem Kx{α:Type}{p:α->Bool}:∀{l:List α} {x:α} {r:List α},l.dropWhile p=x::r->p x=false
 |[],x,r,h=>by simp at h
 |a::l,x,r,h=>by
  rw[List.dropWhile_cons]at h
  split at h
  .exact Kx h
  .rename_i ha
   cases h
   simpa using ha
theorem OA{n:ByteArray}{b:List UInt8}{l:aX}(h:Rg l):Rg (PE n b l):=by
 have h1:Rg (Cd n l):=OC h
 have h2:Cd n l=(Cd n l).takeWhile (λp=>fW p.1 n)++(Cd n l).dropWhile (λp=>fW p.1 n):=List.takeWhile_append_dropWhile.symm
 have hne:∀p∈Cd n l,p.1≠n:=λp hp=>by
  have:=(Wf.1 hp).2
  simpa using this
 unfold Rg at h1
 rw[h2,Wh]at h1
 obtain⟨ha,hb,hab⟩:=h1
 have hd:∀q∈(Cd n l).dropWhile (λp=>fW p.1 n),fW n q.1=true:=by
  intro q hq
  cases hc:(Cd n l).dropWhile (λp=>fW p.1 n)with
  |nil=>rw[hc]at hq;cases hq
  |cons x r=>
   have hx:=Kx hc
   have hxm:x∈Cd n l:=by rw[h2,hc];exact Vw.2 (.inr Va)
   have hnx:fW n x.1=true:=Er (hne x hxm) hx
   rw[hc]at hq hb
   rcases UZ.1 hq with hq|hq
   .rw [hq];exact hnx
   .exact zN hnx ((VB.1 hb).1 q hq)
 unfold Rg PE
 rw[Wh]
 refine⟨ha,VB.2 ⟨hd,hb⟩,λp hp q hq=> ?_⟩
 rcases UZ.1 hq with hq|hq
 .rw [hq];exact Mj (p:=λp:ByteArray×List UInt8=>fW p.1 n) hp
 .exact hab p hp q hq
structure KU(c l:aX):Prop where
 nd:(c.map (·.1)).Nodup
 st:Rg l
 eq:∀n,bC n c=bC n l
theorem KU.nil:KU [] []:=⟨List.nodup_nil,List.Pairwise.nil,λ_=>rfl⟩
theorem KU.both:∀{l c:aX},KU c l->bG c=bG l/\c.length=l.length
 |[],c,h=>by
  cases c with
  |nil=>exact⟨rfl,rfl⟩
  |cons p r=>
   have:=h.eq p.1
   simp only[bC,if_true]at this
   cases this
 |p::l,c,h=>by
  have hp:bC p.1 c=some p.2:=by rw[h.eq];simp only[bC,if_true]
  have hst:=VB.1 h.st
  have h1:KU (tY p.1 c) l:=by
   refine⟨F4 h.nd,hst.2,λn=> ?_⟩
   rw[GJ h.nd,h.eq]
   by_cases hn:n=p.1
   .rw [if_pos hn,hn]
    refine(Hv λhm=> ?_).symm
    obtain⟨q,hq,e⟩:=Vl.1 hm
    have:=hst.1 q hq
    rw[e,A3]at this
    cases this
   .rw [if_neg hn]
    simp only[bC]
    rw[if_neg hn]
  obtain⟨h2,h3⟩:=h1.both
  have h4:=BT p.1 c
  rw[hp,VI]at h4
  have h5:c.length=(tY p.1 c).length+1:=by
   have:∀{c:aX} {k:ByteArray} {v},bC k c=some v->c.length=(tY k c).length+1:=by
    intro c
    induction c with
    |nil=>intro k v hh;cases hh
    |cons q r ih=>
     intro k v hh
     simp only[bC,tY]at hh⊢
     by_cases hk:k=q.1
     .rw [if_pos hk]<;>rfl
     .rw [if_neg hk]at hh⊢
      rw[U6,U6,ih hh]
   exact this hp
  refine⟨?_,by rw[h5,h3]<;>rfl⟩
  show _=((p::l).map λp=>p.2.length).sum
  rw[UW,VS]
  have:bG l=(l.map λp=>p.2.length).sum:=rfl
  omega
def JE(o:Bc)(l:aX):aX:=
 if o.kind=0 then PE o.name (over ((bC o.name l).getD []) o.at' o.bytes) l
 else match bC o.name l with
  |none=>l
  |some old=>if o.kind=1 then PE o.other old (Cd o.name l)else Cd o.name l
theorem KU.do {c l:aX}{o:Bc}(h:KU c l)(ho:o.kind<=2):KU (Fe o c) (JE o l):=by
 have hdel:KU (tY o.name c) (Cd o.name l):=⟨F4 h.nd,OC h.st,λn=>by rw[GJ h.nd,DJ,h.eq]⟩
 unfold Fe JE
 split
 .refine ⟨F5 h.nd,OA h.st,λn=> ?_⟩
  rw[L8,GK,h.eq,h.eq]
 .rename_i h0
  split
  .rename_i h1
   rw[h.eq]
   cases bC o.name l with
   |none=>exact h
   |some old=>
    simp only[h1,if_true]
    exact⟨F5 hdel.nd,OA hdel.st,λn=>by rw[L8,GK,hdel.eq]⟩
  .rename_i h1
   have h2:o.kind=2:=by omega
   rw[if_pos h2]
   cases hg:bC o.name l with
   |none=>
    have hc:=h.eq o.name
    rw[hg]at hc
    refine⟨F4 h.nd,h.st,λn=> ?_⟩
    rw[GJ h.nd,h.eq]
    by_cases hn:n=o.name
    .rw [if_pos hn,hn,hg]
    .rw [if_neg hn]
   |some old=>
    simp only[h1,if_false]
    exact hdel
end Go.Pu
namespace Go.Proofs.Ytmhokapokchneaa
open Go Go.En Go.Pu
set_option maxRecDepth 4000
def tZ(s:ByteArray):Bool:=decide (1<=s.size/\s.size<=32)
theorem Qr(s:ByteArray)(w:Wm):aH pg vR #[.string s] w (λr w'=>r= .bool (tZ s)/\w'=w):=by
 refine Kb ?_
 unfold LX H5 tZ
 by_cases h1:1<=s.size
 .have d1:decide ((1:Int)<=(s.size:Int))=true:=by simp;omega
  by_cases h2:s.size<=32
  .have d2:decide ((s.size:Int)<=32)=true:=by simp;omega
   rw[decide_eq_true ⟨h1,h2⟩]
   simp(disch:=omega)only[SV,d1,d2]
  .have d2:decide ((s.size:Int)<=32)=false:=by simp;omega
   rw[decide_eq_false (λh=>h2 h.2)]
   simp(disch:=omega)only[SV,d1,d2]
 .have d1:decide ((1:Int)<=(s.size:Int))=false:=by simp;omega
  rw[decide_eq_false (λh=>h1 h.1)]
  simp(disch:=omega)only[SV,d1]
theorem Td{m:Nat}{X:Nat->Prop}{ls:List (ByteArray×Wn)}{c:aX}{w:Wm}(hm:Mp w m DI ls)(hf:xK w X ls c)(hs:bG c<=1099511627776):
 aH pg pJ #[.map (some m)] w (λr w'=>r= .int .i64 (bG c:Nat)/\aJ w w' bR):=by
 refine DH ?_
 unfold CO Af Ae sW sV Ad
 have hlt:=hm.lt
 refine FI hm λw1 hi x1 s1=> ?_
 unfold oB
 have hf1:xK w1 (λb=>X b∨w.heap.size<=b) ls c:=(hf.sub (Y:=λb=>X b∨w.heap.size<=b) λ_ h=>h).ext x1 λ_ h=>h.elim
 refine bL.rule (λk (t:Wn) w'=>∃(rest:List (ByteArray×Wn)) (cr:aX) (n:Nat),k=rest.length/\t= .int .i64 n/\Rp w' w.heap.size m DI rest/\xK w' (λb=>X b∨w.heap.size<=b) rest cr/\n+bG cr=bG c/\aJ w1 w' (λy=>y=w.heap.size)) ls.length
  ⟨ls,c,0,rfl,rfl,hi,hf1,by omega,aJ.refl _ _⟩ ?_
 rintro k t w2 ⟨rest,cr,n,rfl,rfl,hi2,hf2,hn,x2⟩
 unfold sU
 refine MO hi2 (by omega) (λh0=> ?_) λw3 j hj hi3 hc x3 s3=> ?_
 .have hl:=hf2.len
  rw[h0]at hl
  have hcr:cr=[]:=Ve.1 hl.symm
  have hz:bG cr=0:=by rw[hcr]<;>rfl
  unfold sT
  have e1:n=bG c:=by omega
  simp(disch:=omega)only[SV,e1]
  exact x1.new x2 (U0 _)
 .have hl:=hf2.len
  have hat:=hf2.at hj (by omega)
  obtain⟨va,vc,hv,_⟩:=hat.2.1.len
  rw[UU]at hv
  have he:=Ow (P:=pg) hc
  rw[hv]at he
  have hse:=L6 (c:=cr) (j:=j) (by omega)
  generalize(cr[j]'(by omega)).2.length=q at*
  have e1:(n:Int)+(q:Int)=((n+q:Nat):Int):=by omega
  simp(disch:=omega)only[SV,he,e1]
  refine⟨(rest.eraseIdx j).length,by rw[List.length_eraseIdx_of_lt hj];omega,_,cr.eraseIdx j,n+q,rfl,rfl,hi3,(hf2.erase j).ext x3 (λb h=> .inr (by omega)),by omega,x2.seq x3⟩
theorem NF(cs:List Wn)(n:Nat):nG cs n []=cs:=by unfold nG;rfl
theorem Rv(n:Nat):(List.replicate n (0:UInt8)).map zD=List.replicate n (Value.int .u8 0):=by rw[List.map_replicate]<;>rfl
theorem TC{m:Nat}{X:Nat->Prop}{ls:List (ByteArray×Wn)}{c:aX}{o:Bc}{va:Option Addr}{vc:Nat}{w:Wm}(hm:Mp w m DI ls)(hmX:X m)(hX:∀b,X b->b<w.heap.size)(hf:xK w X ls c)
 (hd:vP w X (.slice va o.bytes.length vc) o.bytes) (hs:bG c<=1099511627776) (ha:o.at'<=1099511627776) (hb:o.bytes.length<=1099511627776):
 aH pg oP #[.map (some m),.agg (Hk o (.slice va o.bytes.length vc)).toArray] w (λr w'=>r= .tuple #[]/\∃ls',Mp w' m DI ls'/\xK w' X ls' (Fe o c)/\aJ w w' (λb=>b=m)):=by
 refine F2 ?_
 unfold Fb BR
 refine kG λw1 o1 x1 s1=> ?_
 have o1:bE w1 w.heap.size [.int .i64 o.kind,.string o.name,.string o.other,.int .i64 o.at',.slice va o.bytes.length vc]:=o1
 have hlt:=hm.lt
 have hm1:=hm.ext x1 (λh=>h)
 have fin:∀{w':Wm} {ls':List (ByteArray×Wn)},Mp w' m DI ls'->xK w' X ls' (Fe o c)->aJ w w' (λb=>b=m)->∃ls',Mp w' m DI ls'/\xK w' X ls' (Fe o c)/\aJ w w' (λb=>b=m):=λh1 h2 h3=>⟨_,h1,h2,h3⟩
 have hfx:∀{w':Wm},aJ w w' (λb=>b=m)->xK w' X ls c:=λx=>hf.ext x λb h=>h▸hmX
 obtain⟨oa,oc,ob,th,l0,hbo,hnx,hob,hth⟩:∃(oa:Option Addr) (oc:Nat) (ob:List UInt8) (th:Bool),(uY 57 (.map (some m)) (.string o.name) true).run pg w1= .ok (.value (.tuple #[.slice oa ob.length oc,.bool th])) w1/\Bs w (.slice oa ob.length oc) ob/\¬CR (.slice oa ob.length oc) X/\
  (bC o.name c).getD []=ob/\(th=true/\bC o.name c=some ob∨th=false/\bC o.name c=none):=by
  have l0:=wZ hm1 o.name
  rcases hf.get o.name with⟨h1,h2⟩|⟨v,b,h1,h2,h3⟩
  .rw [h1]at l0
   exact⟨none,0,[],false,l0,Sl.nil _,λh=>h,by rw[h2]<;>rfl,.inr ⟨rfl,h2⟩⟩
  .obtain ⟨a',c',hv,_⟩:=h3.1.len
   rw[UU]at hv
   subst hv
   rw[h1]at l0
   exact⟨a',c',b,true,l0,h3.1,h3.2,by rw[h2]<;>rfl,.inl ⟨rfl,h2⟩⟩
 have c0:=o1.cell (off:=0)
 have c1:=o1.cell (off:=1)
 have c2:=o1.cell (off:=2)
 have c3:=o1.cell (off:=3)
 have c4:=o1.cell (off:=4)
 simp only[UP,UR]at c0 c1 c2 c3 c4
 have holdlen:ob.length<=1099511627776:=by rw[<-hob];have:=zM (k:=o.name) (c:=c);omega
 by_cases k0:o.kind=0
 .have n1:(((o.kind:Nat):Int)==0)=true:=by rw[k0]<;>rfl
  obtain⟨M,hM⟩:∃M,M=max ob.length (o.at'+o.bytes.length):=⟨_,rfl⟩
  have e1:(o.at':Int)+(o.bytes.length:Int)=((o.at'+o.bytes.length:Nat):Int):=by omega
  have hmax:(if((o.at'+o.bytes.length:Nat):Int)>(ob.length:Int)then((o.at'+o.bytes.length:Nat):Int)else(ob.length:Int))=((M:Nat):Int):=by
   split<;>omega
  simp(disch:=omega)only[SV,c0,c1,c3,c4,l0,n1,e1,hmax]
  refine Mk (by omega) (by omega) λw2 o2 x2 s2=> ?_
  rw[U3]at o2⊢
  have x02:=x1.seq x2
  have hnb:¬CR (.slice oa ob.length oc) (λy=>y=w1.heap.size):=λh=>hbo.old (kS h λb hb=>by omega)
  refine Dv o2 (by rw[Vz];omega) (hbo.ext x02 (kD _)) (M1 _) λw3 o3 x3 s3=> ?_
  have P3:nG (List.replicate M (Value.int .u8 0)) 0 ((ob.map zD).take (min (ob.map zD).length M))=(ob++List.replicate (M-ob.length) 0).map zD:=by
   rw[UU,V6 (by omega),Vj (by rw[UU];omega)]
   have:=xI (ob.map zD) [] (List.replicate M (Value.int .u8 0)) (by rw[UU,Vz];omega)
   rw[Vm,Vm,VY]at this
   rw[this,VF,Rv,List.drop_replicate,UU]
  rw[P3]at o3
  have x03:aJ w w3 bR:=x02.new x3 (by omega)
  have o13:=(o1.ext x2 (λh=>h)).ext x3 (by omega)
  have hm3:=hm.ext x03 (λh=>h)
  have q1:=o13.cell (off:=1)
  have q3:=o13.cell (off:=3)
  have q4:=o13.cell (off:=4)
  have q3d:=(aP o13).cell (off:=3)
  have q4d:=(aP o13).cell (off:=4)
  simp only[UP,UR]at q1 q3 q4 q3d q4d
  have hbd:Bs (dr w3) (.slice va o.bytes.length vc) o.bytes:=(hd.1.ext x03 (kD _)).ext (aJ.dr _ bR) (kD _)
  have hhm:o.at'<=M:=by omega
  have hP:(ob++List.replicate (M-ob.length) (0:UInt8)).length=M:=by rw[UO,Vz];omega
  have hov:over ob o.at' o.bytes=(ob++List.replicate (M-ob.length) 0).take o.at'++o.bytes++(ob++List.replicate (M-ob.length) 0).drop (o.at'+o.bytes.length):=by unfold over;rw[<-hM]
  have hol:=tS ob o.at' o.bytes
  generalize ob++List.replicate (M-ob.length) (0:UInt8)=P at*
  have ending:∀(w4:Wm),bE w4 w1.heap.size ((over ob o.at' o.bytes).map zD)->aJ w w4 bR→
      aB pg (Gk 57 (.map (some m)) (.string o.name) (.slice (some ⟨w1.heap.size,0,none⟩) M M)) w4 λ_ w'=>∃ls',Mp w' m DI ls'/\xK w' X ls' (Fe o c)/\aJ w w' (λb=>b=m):=λw4 o4 x4=>by
   refine Fp (hm.ext x4 (λh=>h)) o.name _ λw5 hm5 x5 s5=> ?_
   have x05:aJ w w5 (λb=>b=m):=(x4.mono λ_ _ h=>h.elim).seq x5
   have hdo:Fe o c=sY o.name (over ob o.at' o.bytes) c:=by unfold Fe;rw[if_pos k0,hob]
   rw[hdo]
   refine⟨_,hm5,xK.set ⟨?_,λh=> ?_⟩ (hfx x05),x05⟩
   .have:=bE.whole (c:=M) (o4.ext x5 (by omega)) (by omega)
    rw[hol,<-hM]at this
    exact this
   .obtain ⟨M',hM'⟩:∃M',M=M'+1∨M=0:=⟨M-1,by omega⟩
    rcases hM' with h'|h'
    .rw [h']at h
     have h:X w1.heap.size:=h
     have:=hX _ h
     omega
    .rw [h']at h
     exact h
  by_cases hat:o.at'<M
  .have hsh:lN (some ⟨w1.heap.size,0,none⟩) M o.at' 1=some ⟨w1.heap.size,0+o.at',none⟩:=NG (by omega)
   simp(disch:=omega)only[SV,q3,q4,q3d,q4d,hsh]
   refine Dv (off:=o.at') (aP o3) (by rw[UU];omega) hbd (M1 _) λw4 o4 x4 s4=> ?_
   have P4:nG (P.map zD) o.at' ((o.bytes.map zD).take (min (o.bytes.map zD).length (M-o.at')))=(over ob o.at' o.bytes).map zD:=by
    rw[UU,V6 (by omega),Vj (by rw[UU];omega)]
    have:=xI (o.bytes.map zD) ((P.take o.at').map zD) ((P.drop o.at').map zD) (by rw[UU,UU,Vs];omega)
    rw[<-VF,VA,UU,Vd,V6 (by omega)]at this
    rw[this,hov,UU,VF,VF,<-List.map_drop,List.drop_drop]
   rw[P4]at o4
   have x34:aJ w3 w4 (λy=>y=w1.heap.size):=(aJ.dr _ _).seq x4
   have x04:aJ w w4 bR:=x03.new x34 (by omega)
   have o14:=o13.ext x34 (by omega)
   have q1:=o14.cell (off:=1)
   have q1d:=(aP o14).cell (off:=1)
   simp only[UP,UR]at q1 q1d
   have e4:=ending w4 o4 x04
   simp(disch:=omega)only[SV,q1,q1d]
   exact e4
  .have hE:o.at'=M:=by omega
   have hb0:o.bytes=[]:=Ve.1 (by omega)
   have hsh:lN (some ⟨w1.heap.size,0,none⟩) M o.at' 1=some ⟨w1.heap.size,0,none⟩:=by unfold lN;rw[if_pos hE.symm]
   simp(disch:=omega)only[SV,q3,q4,q3d,q4d,hsh]
   refine Dv (off:=0) (aP o3) (by rw[UU];omega) hbd (M1 _) λw4 o4 x4 s4=> ?_
   have P4:nG (P.map zD) 0 ((o.bytes.map zD).take (min (o.bytes.map zD).length (M-o.at')))=(over ob o.at' o.bytes).map zD:=by
    rw[hov,hb0]
    show nG (P.map zD) 0 (List.take (min 0 (M-o.at')) [])=_
    rw[List.take_nil,NF,VW,VY,Wj,VA]
   rw[P4]at o4
   have x34:aJ w3 w4 (λy=>y=w1.heap.size):=(aJ.dr _ _).seq x4
   have x04:aJ w w4 bR:=x03.new x34 (by omega)
   have o14:=o13.ext x34 (by omega)
   have q1:=o14.cell (off:=1)
   have q1d:=(aP o14).cell (off:=1)
   simp only[UP,UR]at q1 q1d
   have e4:=ending w4 o4 x04
   simp(disch:=omega)only[SV,q1,q1d]
   exact e4
 have n1:(((o.kind:Nat):Int)==0)=false:=beq_eq_false_iff_ne.2 (by omega)
 have self:aJ w w1 (λb=>b=m):=x1.mono λ_ _ h=>h.elim
 by_cases k1:o.kind=1
 .have n2:(((o.kind:Nat):Int)==1)=true:=by rw[k1]<;>rfl
  rcases hth with⟨rfl,hg⟩|⟨rfl,hg⟩
  .have hdo:Fe o c=sY o.other ob (tY o.name c):=by unfold Fe;rw[if_neg k0,if_pos k1,hg]
   simp(disch:=omega)only[SV,c0,c1,c2,c3,c4,l0,n1,n2]
   refine Fc hm1 o.name λw2 hm2 x2 s2=> ?_
   have x02:=self.seq x2
   have q2:=(o1.ext x2 (by omega)).cell (off:=2)
   simp only[UP,UR]at q2
   simp(disch:=omega)only[SV,q2]
   refine Fp hm2 o.other _ λw3 hm3 x3 s3=> ?_
   have x03:=x02.seq x3
   rw[hdo]
   refine fin (w':=w3) hm3 ?_ x03|>λh=>by rw[hdo]at h;exact h
   rw[hdo]
   exact xK.set ⟨hbo.ext x03 (λh=>hnx (kS h λb hb=>by rw[hb];exact hmX)),hnx⟩ (xK.del (hfx x03))
  .have hdo:Fe o c=c:=by unfold Fe;rw[if_neg k0,if_pos k1,hg]
   simp(disch:=omega)only[SV,c0,c1,c2,c3,c4,l0,n1,n2]
   exact fin hm1 (by rw[hdo];exact hfx self) self
 have n2:(((o.kind:Nat):Int)==1)=false:=beq_eq_false_iff_ne.2 (by omega)
 by_cases k2:o.kind=2
 .have n3:(((o.kind:Nat):Int)==2)=true:=by rw[k2]<;>rfl
  have hdo:Fe o c=tY o.name c:=by unfold Fe;rw[if_neg k0,if_neg k1,if_pos k2]
  simp(disch:=omega)only[SV,c0,c1,c2,c3,c4,l0,n1,n2,n3]
  refine Fc hm1 o.name λw2 hm2 x2 s2=> ?_
  have x02:=self.seq x2
  exact fin hm2 (by rw[hdo];exact xK.del (hfx x02)) x02
 .have n3:(((o.kind:Nat):Int)==2)=false:=beq_eq_false_iff_ne.2 (by omega)
  have hdo:Fe o c=c:=by unfold Fe;rw[if_neg k0,if_neg k1,if_neg k2]
  simp(disch:=omega)only[SV,c0,c1,c2,c3,c4,l0,n1,n2,n3]
  exact fin hm1 (by rw[hdo];exact hfx self) self
end Go.Proofs.Ytmhokapokchneaa
namespace Go.En
open Go
section
variable{P:Program}{w:Wm}{t e:TypeId}
theorem MN{i:TypeInfo}(hu:P.underlying t=some (.slice e))(hi:P.info? e=some i)
 {K:Wn->Wm->Prop} (hk:∀w',bE w' w.heap.size []->aJ w w' bR->w'.heap.size=w.heap.size+1->K (.slice (some ⟨w.heap.size,0,none⟩) 0 0) w'):
 aB P (bZ t 0 []) w K:=by
 have:(bZ t 0 []).run P w= .ok (.value (.slice (some ⟨w.heap.size,0,none⟩) 0 0)) (w.alloc (.cells ([]:List Wn).toArray e)):=by
  unfold bZ;rw[kE]
  have h1:¬(0>2^24):=by omega
  have e:∀f:Nat->Wn,Array.map f (Array.range 0)= #[]:=λf=>by simp
  simp only[Instr.buildSlice,underlying,pure_bind,Sem.run_bind,run_program,Result.andThen_ok,hu,Sem.run_pure,eZ hi,Wl,h1,if_false,if_true,newRow,run_newObj,Instr.fill,e]
  rfl
 unfold aB
 rw[this]
 exact hk _ (bE.alloc _ _ _) (aJ.alloc _ _ _) (by simp)
def At(v:Wn)(b:Nat):Prop:=∀M:Nat->Prop,¬M b->¬CR v M
theorem At.nil (c b:Nat)(a:Option Addr):At (.slice a 0 c) b:=λM h=>by unfold CR;split<;>simp_all
theorem At.at (b o n c:Nat):At (.slice (some ⟨b,o,none⟩) n c) b:=λM h=>by
 unfold CR;split
 .rename_i x m _ e
  obtain⟨rfl,_⟩:(⟨b,o,none⟩:Addr)=x/\_:=by simpa using e
  exact h
 .simp
theorem zC.at' {w:Wm}{base sz n:Nat}{v:Wn}{l:List Wn}(h:zC w base sz v n l)(hb:base<w.heap.size):∃b,base<=b/\b<w.heap.size/\At v b:=by
 rcases h.2 with⟨rfl,rfl⟩|⟨b,c,rest,rfl,h2,h3,h4,h5⟩
 .exact ⟨base,U0 _,hb,At.nil _ _ _⟩
 .exact ⟨b,h2,h3.lt,At.at _ _ _ _⟩
end
end Go.En
namespace Go.Proofs.Ytmhokapokchneaa
open Go Go.En
set_option maxRecDepth 4000
theorem Ry(l:List UInt8):∀y∈l.map zD,one y=true:=λy hy=>by
 obtain⟨z,-,rfl⟩:=Vl.1 hy;rfl
theorem Oh{v:Wn}{l:List UInt8}{w:Wm}(h:Bs w v l)(hl:l.length<=1000000000):
 aH pg jT #[v] w (λr w'=>zC w' w.heap.size 1 r l.length (l.map zD)/\aJ w w' bR):=by
 refine CA ?_
 have h1:=h
 obtain⟨a,n,c,rfl,hn,hc,hh⟩:=h
 rw[UU]at hn
 unfold Ba yF
 cases a with
 |none=>
  have h0:l=[]:=by
   cases l with
   |nil=>rfl
   |cons x l=>obtain⟨b,off,h,_⟩:=hh (by simp at hn;omega);cases h
  subst h0
  simp(disch:=omega)only[SV]
  exact⟨zC.nil _ _ _,aJ.refl _ _⟩
 |some x=>
  simp(disch:=omega)only[SV]
  refine MN Try.underlying23 Lf λw1 o1 x1 s1=> ?_
  have hcl1:=(h1.ext x1 (kD _)).cl
  rw[UU]at hcl1
  have hos:zC w1 w.heap.size 1 (.slice (some ⟨w.heap.size,0,none⟩) 0 0) 0 []:=⟨rfl,.inr ⟨_,0,[],rfl,U0 _,o1,rfl,U0 _⟩⟩
  refine xO hos hcl1 (Ry _) x1.size (by omega) λv3 w3 o3 x3=> ?_
  rw[UQ,Vm]at o3
  exact⟨o3,x1.trans x3 λb hb h=>Nat.not_le_of_lt hb h⟩
theorem Uk{w:Wm}{a:Option Addr}{n c:Nat}{l:List Wn}(h:Sl w (.slice a n c) l)(h0:0<n):∃b off,a=some ⟨b,off,none⟩/\∀i,i<n->w.cell? ⟨b,off+i,none⟩=l[i]?:=by
 obtain⟨a',n',c',e,hn,hc,hh⟩:=h
 cases e
 exact hh h0
end Go.Proofs.Ytmhokapokchneaa
namespace Go.Proofs.Ytmhokapokchneaa
open Go Go.En Go.Pu
set_option maxRecDepth 4000
abbrev dP(p:Nat):Wn:= .pointer (some ⟨p,0,none⟩)
def xL(w:Wm)(p:Nat)(X D:Nat->Prop)(S':iQ)(w':Wm):Prop:=∃X' D',fC w' p X' D' S'/\(∀b,X' b->X b∨w.heap.size<=b)/\(∀b,D b->D' b)/\aJ w w' X
theorem xL.refl {w:Wm}{p:Nat}{X D:Nat->Prop}{S:iQ}(h:fC w p X D S):xL w p X D S w:=⟨X,D,h,λ_ h=> .inl h,λ_ h=>h,aJ.refl _ _⟩
theorem xL.step {w w1 w2:Wm}{p:Nat}{X D X1 D1:Nat->Prop}{S2:iQ}(x:aJ w w1 X)(hX:∀b,X1 b->X b∨w.heap.size<=b)(hD:∀b,D b->D1 b)(h:xL w1 p X1 D1 S2 w2):xL w p X D S2 w2:=by
 obtain⟨X2,D2,h1,h2,h4,h3⟩:=h
 have z:=x.size
 refine⟨X2,D2,h1,λb hb=> ?_,λb hb=>h4 b (hD b hb),x.trans h3 λb hb hx=> ?_⟩
 .rcases h2 b hb with h|h
  .exact hX b h
  .exact .inr (by omega)
 .rcases hX b hx with h|h
  .exact h
  .omega
theorem Ot{w:Wm}{S T:Nat->Prop}{sz n:Nat}{v:Wn}{l:List Wn}(h:Kt w S sz v n l)(hT:∀b,S b->T b):Kt w T sz v n l:=by
 refine⟨h.1, ?_⟩
 rcases h.2 with h2|⟨b,c,rest,h1,h2,h3⟩
 .exact .inl h2
 .exact .inr ⟨b,c,rest,h1,hT b h2,h3⟩
theorem RS{w:Wm}{S:Nat->Prop}{sz n:Nat}{v:Wn}{l:List Wn}(h:Kt w S sz v n l):Kt w (λb=>S b/\b<w.heap.size) sz v n l:=by
 refine⟨h.1, ?_⟩
 rcases h.2 with h2|⟨b,c,rest,h1,h2,h3,h4⟩
 .exact .inl h2
 .exact .inr ⟨b,c,rest,h1,⟨h2,h3.lt⟩,h3,h4⟩
theorem Q5 {p:Nat}{X D:Nat->Prop}{S:iQ}{w:Wm}(h:fC w p X D S):aH pg jH #[dP p] w (λr w'=>r= .int .i64 (if S.down then 20 else 0)/\w'=w):=by
 refine GH ?_
 unfold GG CN
 obtain⟨ms,mn,sv,ls,ln,cs,h1,h2,h3,h4,h5,h6,hXD,hDl,o,hms,hmn,hfs,hfn,hu,ho⟩:=h
 have c5:=o.cell (off:=5)
 simp only[UP,UR]at c5
 cases hd:S.down with
 |true=>
  rw[hd]at c5
  simp(disch:=omega)only[SV,c5]
 |false=>
  rw[hd]at c5
  simp(disch:=omega)only[SV,c5]
def tP(l:Int):Int:=if 0<l then l-1 else l
def LZ(S:iQ):Bool:=S.down||S.left==0
theorem OD{p:Nat}{a b c d:Wn}{left:Int}{down:Bool}{w:Wm}(o:bE w p [a,b,c,d,.int .i64 left,.bool down])(hl: -1<=left/\left<=9223372036854775807):
 aH pg lQ #[dP p] w (λr w'=>r= .bool (down||left==0)/\bE w' p [a,b,c,d,.int .i64 (tP left),.bool (down||left==0)]/\aJ w w' (λy=>y=p)):=by
 refine DF ?_
 unfold CM Ac Ab tP
 have c4:=o.cell (off:=4)
 simp only[UP,UR]at c4
 by_cases h0:left=0
 .subst h0
  have n1:((0:Int)==0)=true:=rfl
  simp(disch:=omega)only[SV,c4,n1]
  refine IX o rfl (by simp) λw1 o1 x1 s1=> ?_
  simp only[U7,Vi]at o1
  have c5:=o1.cell (off:=5)
  simp only[UP,UR]at c5
  unfold kQ
  simp(disch:=omega)only[SV,c5]
  rw[Bool.or_true]
  exact⟨rfl,o1,x1⟩
 have n1:(left==0)=false:=beq_eq_false_iff_ne.2 h0
 rw[n1,Bool.or_false]
 by_cases h1:0<left
 .have d1:decide (0<left)=true:=by simpa using h1
  simp(disch:=omega)only[SV,c4,n1,d1]
  refine Eg o rfl (by simp) λw1 o1 x1 s1=> ?_
  simp only[U7,Vi]at o1
  have c5:=o1.cell (off:=5)
  simp only[UP,UR]at c5
  unfold kQ
  rw[if_pos h1]
  simp(disch:=omega)only[SV,c5]
  exact⟨o1,x1⟩
 .have d1:decide (0<left)=false:=by simpa using h1
  have c5:=o.cell (off:=5)
  simp only[UP,UR]at c5
  unfold kQ
  rw[if_neg h1]
  simp(disch:=omega)only[SV,c4,c5,n1,d1]
  exact⟨o,aJ.refl _ _⟩
def xS(S:iQ)(o:Bc):iQ×Int:=
 if LZ S then({S with left:=tP S.left,down:=LZ S},20)
 else({S with left:=tP S.left,down:=LZ S,under:=S.under++[o],seen:=Fe o S.seen},0)
theorem M8 {p:Nat}{X D:Nat->Prop}{S:iQ}{o:Bc}{va:Option Addr}{vc:Nat}{w:Wm}(h:fC w p X D S)(hd:vP w D (.slice va o.bytes.length vc) o.bytes)(hl: -1<=S.left/\S.left<=9223372036854775807)
 (hs:bG S.seen<=1099511627776) (ha:o.at'<=1099511627776) (hb:o.bytes.length<=1099511627776) (hu:S.under.length<=1000000):
 aH pg kM #[dP p,.agg (Hk o (.slice va o.bytes.length vc)).toArray] w (λr w'=>r= .int .i64 (xS S o).2/\xL w p X D (xS S o).1 w'):=by
 refine EO ?_
 unfold DE AT
 refine kG λw1 o1 x1 s1=> ?_
 have o1:bE w1 w.heap.size (Hk o (.slice va o.bytes.length vc)):=o1
 obtain⟨ms,mn,sv,ls,ln,cs,h1,h2,h3,h4,h5,h6,hXD,hDl,op,hms,hmn,hfs,hfn,hun,hop⟩:=h.new x1
 have h7:=λb (hb:X b)=>hDl b (hXD b hb)
 have hX0:∀b,X b->b<w.heap.size:=by obtain⟨_,_,_,_,_,_,_,_,_,_,_,_,q1,q2,_⟩:=h;exactλb hb=>q2 b (q1 b hb)
 refine(OD op hl).mono ?_
 rintro r w2 ⟨rfl,op2,x2⟩
 have x2X:aJ w1 w2 X:=x2.mono λb _ hb=>hb▸h1
 have x2D:aJ w1 w2 D:=x2X.mono λb _ hb=>hXD b hb
 have x02:aJ w w2 X:=(x1.mono λ_ _ h=>h.elim).seq x2X
 have z2:=x2.size
 have hms2:=hms.ext x2 (λh=>h4 h.symm)
 have hmn2:=hmn.ext x2 (λh=>h5 h.symm)
 have hfs2:=hfs.ext x2D (λb h=>h)
 have hfn2:=hfn.ext x2D (λb h=>h)
 have hun2:=hun.ext x2 (λb hb h=>hb.2.1 h)
 have hop2:=hop.ext x2D (λb h=>h)
 have h72:∀b,X b->b<w2.heap.size:=λb hb=>by have:=h7 b hb;omega
 have hD2:∀b,D b->b<w2.heap.size:=λb hb=>by have:=hDl b hb;omega
 have hdn:(S.down||S.left==0)=LZ S:=rfl
 rw[hdn]at*
 cases hD:LZ S with
 |true=>
  have hE:xS S o=({S with left:=tP S.left,down:=LZ S},20):=by unfold xS;rw[if_pos hD]
  rw[hE]
  simp(disch:=omega)only[SV]
  exact⟨X,D,⟨ms,mn,sv,ls,ln,cs,h1,h2,h3,h4,h5,h6,hXD,hD2,op2,hms2,hmn2,hfs2,hfn2,hun2,hop2⟩,λ_ h=> .inl h,λ_ h=>h,x02⟩
 |false=>
  have hE:xS S o=({S with left:=tP S.left,down:=LZ S,under:=S.under++[o],seen:=Fe o S.seen},0):=by unfold xS;rw[if_neg (by rw[hD];decide)]
  rw[hE]
  have hb3:¬(w.heap.size=p):=λh=>by have:=hX0 p h1;omega
  have o12:=aP (o1.ext x2 hb3)
  have l1:=kZ (off:=0) o12 (by unfold Hk;simp)
  have l1':((Hk o (.slice va o.bytes.length vc)).drop 0).take 5=Hk o (.slice va o.bytes.length vc):=rfl
  rw[l1']at l1
  have op2d:=aP op2
  have q3:=op2d.cell (off:=3)
  simp only[UP,UR]at q3
  simp(disch:=omega)only[SV,q3,l1]
  refine Dp (cells:=(Hk o (.slice va o.bytes.length vc)).toArray) (by decide) (by decide) (by kernel_rfl) λw3 o3 x3 s3=> ?_
  have x3:aJ w2 w3 bR:=(aJ.dr _ _).seq x3
  have z3:=x3.size
  have s3:w3.heap.size=w2.heap.size+1:=s3
  have x03:aJ w w3 X:=x02.trans x3 λ_ _ h=>h.elim
  have op3:=op2.ext x3 (λh=>h)
  have q3:=op3.cell (off:=3)
  have q3d:=(aP op3).cell (off:=3)
  simp only[UP,UR]at q3 q3d
  have hu3:Kt w3 (λb=>(X b/\b≠p/\b≠ms/\b≠mn)∨w3.heap.size<=b) 5 sv S.under.length cs:=Ot (hun2.ext x3 (λb _ h=>h)) λb h=> .inl h
  have o3:bE w3 w2.heap.size (Hk o (.slice va o.bytes.length vc)):=o3
  simp(disch:=omega)only[SV,q3,q3d]
  refine Eh (m:=1) (news:=Hk o (.slice va o.bytes.length vc)) (i:=Try.t65) Try.underlying58 Try.underlying58 KA rfl rfl rfl hu3 (o3.cl (off:=0) (n:=1) rfl (λi hi=>by rw[UQ])) (by unfold Hk;simp[one]) (λb hb=> .inr hb) (by omega) (by rw[show Try.t65.bytes=72 from rfl];omega) (by decide) λv4 w4 o4 x4=> ?_
  have z4:=x4.size
  have hp3:p<w3.heap.size:=op3.lt
  have hms3:=hms2.ext x3 (λh=>h)
  have hmn3:=hmn2.ext x3 (λh=>h)
  have hmsl:=hms3.lt
  have hmnl:=hmn3.lt
  have op4:=op3.ext x4 (by rintro(⟨_,h,_⟩|h)<;>omega)
  have hms4:=hms3.ext x4 (by rintro(⟨_,_,h,_⟩|h)<;>omega)
  have hmn4:=hmn3.ext x4 (by rintro(⟨_,_,_,h⟩|h)<;>omega)
  obtain⟨Y,hY⟩:∃Y:Nat->Prop,Y=λb=>X b∨(w3.heap.size<=b/\b<w4.heap.size):=⟨_,rfl⟩
  have hYX:∀b,X b->Y b:=λb h=>by rw[hY];exact .inl h
  have hY3:∀b,Y b->X b∨w3.heap.size<=b:=λb h=>by rw[hY]at h;rcases h with h|h;exact .inl h;exact .inr h.1
  have hY4:∀b,Y b->b<w4.heap.size:=λb h=>by
   rw[hY]at h
   rcases h with h|h
   .have:=h72 b h;omega
   .exact h.2
  obtain⟨E,hE'⟩:∃E:Nat->Prop,E=λb=>D b∨(w3.heap.size<=b/\b<w4.heap.size):=⟨_,rfl⟩
  have hED:∀b,D b->E b:=λb h=>by rw[hE'];exact .inl h
  have hYE:∀b,Y b->E b:=λb h=>by
   rw[hY]at h;rw[hE']
   rcases h with h|h
   .exact .inl (hXD b h)
   .exact .inr h
  have hE3:∀b,E b->D b∨w3.heap.size<=b:=λb h=>by rw[hE']at h;rcases h with h|h;exact .inl h;exact .inr h.1
  have hE4:∀b,E b->b<w4.heap.size:=λb h=>by
   rw[hE']at h
   rcases h with h|h
   .have:=hD2 b h;omega
   .exact h.2
  have dat4:∀v b,vP w3 D v b->vP w4 E v b:=λv b hd=>by
   have h1:=(hd.sub (Y:=λb=>D b∨w3.heap.size<=b) λ_ h=>h).ext x4 (λb h=>by rcases h with h|h;exact .inl (hXD b h.1);exact .inr h)
   exact h1.sub λb h=> .inl (hE3 b h)
  have dat0:∀v b,vP w2 D v b->vP w4 E v b:=λv b hd=>dat4 v b (hd.ext x3 λ_ h=>h.elim)
  refine qL op4 (by obtain⟨a,c,e⟩:=o4.len;rw[e]<;>rfl) (by simp) λw5 op5 x5 s5=> ?_
  simp only[U7,Vi]at op5
  have hne4:p≠ms/\p≠mn:=⟨h4,h5⟩
  have hms5:=hms4.ext x5 (λh=>h4 h.symm)
  have hmn5:=hmn4.ext x5 (λh=>h5 h.symm)
  have x5Y:aJ w4 w5 E:=x5.mono λb _ h=>by rw[h];exact hYE _ (hYX _ h1)
  have dat5:∀v b,vP w2 D v b->vP w5 E v b:=λv b hd=>(dat0 v b hd).ext x5Y λ_ h=>h
  have o15:bE w5 w.heap.size (Hk o (.slice va o.bytes.length vc)):=by
   have h1:=(o1.ext x2 hb3).ext x3 (λh=>h)
   have h2:=h1.ext x4 (by rintro(⟨h,_⟩|h);exact absurd (hX0 _ h) (by omega);omega)
   exact h2.ext x5 hb3
  have l5:=kZ (off:=0) (aP o15) (by unfold Hk;simp)
  rw[l1']at l5
  have r2:=(aP op5).cell (off:=2)
  simp only[UP,UR]at r2
  simp(disch:=omega)only[SV,r2,l5]
  have hd5:vP w5 E (.slice va o.bytes.length vc) o.bytes:=dat5 _ _ ((hd.ext x1 λ_ h=>h.elim).ext x2D λ_ h=>h)
  have hE5:∀b,E b->b<w5.heap.size:=λb h=>by rw[s5];exact hE4 b h
  refine(TC (X:=E) (c:=S.seen) (o:=o) (hmn5.dr) (hYE _ (hYX _ h3)) hE5 ((hfn2.map dat5).ext (aJ.dr _ bR) λ_ h=>h.elim) (hd5.ext (aJ.dr _ bR) λ_ h=>h.elim) hs ha hb).mono ?_
  rintro r w6 ⟨rfl,ln',hmn6,hfn6,x6⟩
  have x6:aJ w5 w6 (λb=>b=mn):=(aJ.dr _ _).seq x6
  have x6Y:aJ w5 w6 E:=x6.mono λb _ h=>by rw[h];exact hYE _ (hYX _ h3)
  have z6:=x6.size
  have hou:Kt w4 (λb=>Y b/\b≠p/\b≠ms/\b≠mn) 5 v4 (S.under.length+1) (cs++Hk o (.slice va o.bytes.length vc)):=Ot (RS o4) λb h=>by
   rw[hY]
   rcases h with⟨h|h,h'⟩
   .exact ⟨.inl h.1,h.2⟩
   .exact ⟨.inr ⟨h,h'⟩,by omega,by omega,by omega⟩
  refine⟨Y,E,⟨ms,mn,v4,ls,ln',cs++Hk o (.slice va o.bytes.length vc),hYX _ h1,hYX _ h2,hYX _ h3,h4,h5,h6,hYE,λb h=>by have:=hE5 b h;omega,op5.ext x6 (λh=>h5 h),hms5.ext x6 (λh=>h6 h),hmn6,(hfs2.map dat5).ext x6Y λ_ h=>h,hfn6, ?_, ?_⟩,λb h=> ?_,hED, ?_⟩
  .show Kt w6 _ 5 v4 (S.under++[o]).length _
   rw[UO]
   exact(hou.ext x5 (λb h e=>h.2.1 e)).ext x6 (λb h e=>h.2.2.2 e)
  .exact (Ir.snoc ⟨_,_,_,rfl⟩ hd5 (hop2.map dat5)).ext x6Y λ_ h=>h
  .rcases hY3 b h with h|h
   .exact .inl h
   .exact .inr (by omega)
  .refine ((x03.trans x4 λb hb h=> ?_).trans x5 λb hb h=>by rw[h];exact h1).trans x6 λb hb h=>by rw[h];exact h3
   rcases h with h|h
   .exact h.1
   .omega
end Go.Proofs.Ytmhokapokchneaa
namespace Go.Proofs.Ytmhokapokchneaa
open Go Go.En
def Uj:Go.Shelf.Ren:=⟨λx=>if x=5 then pK else if x=7 then KR else x,λx=>if x=23 then 57 else if x=25 then 9 else if x=3 then 23 else if x=4 then 4 else 20,λx=>x⟩
theorem Ui:SlLaysW.n5 pg Uj where
 mixed:=Try.checked.mixed
 f5:=⟨Try.f27.name,by kernel_rfl,by kernel_rfl⟩
 f7:=by kernel_rfl
 t4:=by kernel_rfl
 a4:=λw=>by kernel_rfl
 z4:=λw=>by kernel_rfl
 v4:=λw=>by kernel_rfl
 t20:=by kernel_rfl
 a20:=λw=>by kernel_rfl
 z20:=λw=>by kernel_rfl
 v20:=λw=>by kernel_rfl
 t23:=by kernel_rfl
 a23:=λw=>by kernel_rfl
 z23:=λw=>by kernel_rfl
 v23:=λw=>by kernel_rfl
theorem Mi{m:Nat}{l:List (ByteArray×Wn)}{w:Wm}(hm:Mp w m DI l):
 aH pg pK #[.map (some m)] w (λr w'=>r= .map (some w.heap.size)/\Mp w' w.heap.size DI l/\aJ w w' bR/\w'.heap.size=w.heap.size+1):=by
 obtain⟨es,c,hb,he,hg,hnd⟩:=hm
 refine⟨_,_,AnyW.maps_Clone Ui m es c w hb,rfl,⟨es,c, ?_,he,hg,hnd⟩,aJ.alloc _ _ _, ?_⟩
 .show (w.heap.push _)[w.heap.size]?=_
  simp
 .show (w.heap.push _).size=_
  simp
end Go.Proofs.Ytmhokapokchneaa
namespace Go.Proofs.Ytmhokapokchneaa
open Go Go.En Go.Pu
set_option maxRecDepth 4000
def Ml(room:Int):iQ:=⟨room,[],[],[],-1,false⟩
theorem P6 {room:Int}{w:Wm}(h0:0<=room)(h1:room<=16777216):aH pg vQ #[.int .i64 room] w (λr w'=>∃p X,r= .tuple #[dP p,.int .i64 0]/\fC w' p X X (Ml room)/\(∀b,X b->w.heap.size<=b)/\aJ w w' bR):=by
 refine Fa ?_
 unfold Jf DG
 have d1:decide (room<0)=false:=by simp;omega
 have d2:decide (16777216<room)=false:=by simp;omega
 simp(disch:=omega)only[SV,d1,d2]
 refine Fo λw1 m1 x1 s1=> ?_
 refine Fo λw2 m2 x2 s2=> ?_
 simp(disch:=omega)only[SV]
 refine kG λw3 o3 x3 s3=> ?_
 have o3:bE w3 w2.heap.size [.int .i64 room,.map (some w.heap.size),.map (some w1.heap.size),.slice none 0 0,.int .i64 (-1),.bool false]:=o3
 refine⟨w2.heap.size,λb=>w.heap.size<=b/\b<w3.heap.size,rfl,⟨w.heap.size,w1.heap.size,.slice none 0 0,[],[],[],⟨by omega,by omega⟩,⟨by omega,by omega⟩,⟨by omega,by omega⟩,by omega,by omega,by omega,λ_ h=>h,λb h=>h.2,o3,(m1.ext x2 (λh=>h)).ext x3 (λh=>h),m2.ext x3 (λh=>h),trivial,trivial,⟨rfl,.inl ⟨rfl,rfl⟩⟩,rfl⟩,λb h=>h.1,(x1.seq x2).seq x3⟩
theorem P5 {room:Int}{w:Wm}(h:room<0∨16777216<room):aH pg vQ #[.int .i64 room] w (λr w'=>r= .tuple #[.pointer none,.int .i64 1]/\w'=w):=by
 refine Fa ?_
 unfold Jf DG
 by_cases h0:room<0
 .have d1:decide (room<0)=true:=by simpa using h0
  simp(disch:=omega)only[SV,d1]
 .have d1:decide (room<0)=false:=by simpa using h0
  have d2:decide (16777216<room)=true:=by simp;omega
  simp(disch:=omega)only[SV,d1,d2]
structure Ro(S:iQ):Prop where
 left: -1<=S.left/\S.left<=9223372036854775807
 seen:bG S.seen<=1099511627776
 under:S.under.length<=1000000
 room:0<=S.room/\S.room<=16777216
theorem vP.slice {w:Wm}{X:Nat->Prop}{v:Wn}{b:List UInt8}(h:vP w X v b):∃a c,v= .slice a b.length c:=by
 obtain⟨a,c,e,_⟩:=h.1.len
 rw[UU]at e
 exact⟨a,c,e⟩
theorem zC.dat {w w0:Wm}{X:Nat->Prop}{v:Wn}{l:List UInt8}(h:zC w w0.heap.size 1 v l.length (l.map zD))(hX:∀b,X b->b<w0.heap.size):vP w X v l:=by
 refine⟨h.sl,λhi=> ?_⟩
 rcases h.2 with⟨rfl,_⟩|⟨b,c,rest,rfl,h2,_⟩
 .exact hi
 .unfold CR at hi
  split at hi
  .rename_i e
   simp only[Value.slice.injEq,V1]at e
   obtain⟨rfl,_⟩:=e
   have hi:X b:=hi
   have:=hX _ hi
   omega
  .exact hi
theorem fC.lt {w:Wm}{p:Nat}{X D:Nat->Prop}{S:iQ}(h:fC w p X D S):∀b,D b->b<w.heap.size:=by
 obtain⟨_,_,_,_,_,_,_,_,_,_,_,_,_,h7,_⟩:=h;exact h7
def tT(S:iQ)(name:ByteArray):List UInt8:=(bC name S.seen).getD []
def Rn(S:iQ)(name:ByteArray)(a:Int)(n:Nat):Int:=
 if S.down then 20 else if tZ name=false∨a<0 then 1 else if((tT S name).length:Int)<a then 17
 else if S.room<bG S.seen+max (a+n-(tT S name).length) 0 then 22 else 0
def LB(S:iQ)(name:ByteArray)(a:Int)(l:List UInt8):iQ×Int:=
 if Rn S name a l.length=0 then xS S ⟨0,name,⟨#[]⟩,a.toNat,l⟩else(S,Rn S name a l.length)
theorem L2 {p:Nat}{X D:Nat->Prop}{S:iQ}{name:ByteArray}{a:Int}{bv:Wn}{l:List UInt8}{w:Wm}(h:fC w p X D S)(hB:Ro S)(hb:Bs w bv l)(hl:l.length<=1000000000)(ha:a<=9000000000000000000)(ha': -9223372036854775808<=a):
 aH pg lP #[dP p,.string name,.int .i64 a,bv] w (λr w'=>r= .int .i64 (LB S name a l).2/\xL w p X D (LB S name a l).1 w'):=by
 refine DD ?_
 unfold CL Aa
 obtain⟨ba,bc,rfl,_⟩:=hb.len
 rw[UU]at hb
 rw[UU]
 obtain⟨E,hE⟩:∃E,Rn S name a l.length=E:=⟨_,rfl⟩
 have hW:∀e,E=e->e≠0->LB S name a l=(S,e):=λe h1 h2=>by unfold LB;rw[hE,h1,if_neg h2]
 refine(Q5 h).mono ?_
 rintro r w1 ⟨rfl,rfl⟩
 have hE0:=hE
 unfold Rn at hE
 by_cases hd:S.down=true
 .rw [if_pos hd]at hE
  rw[hW 20 hE.symm (by decide),if_pos hd]
  have n1:((20:Int) !=0)=true:=rfl
  simp(disch:=omega)only[SV,n1]
  exact xL.refl h
 rw[if_neg hd]at hE
 rw[if_neg hd]
 have n1:((0:Int) !=0)=false:=rfl
 have h':=h
 obtain⟨ms,mn,sv,ls,ln,cs,h1,h2,h3,h4,h5,h6,hXD,hDl,op,hms,hmn,hfs,hfn,hun,hop⟩:=h'
 have h7:∀b,X b->b<w1.heap.size:=λb hb=>hDl b (hXD b hb)
 have c2:=op.cell (off:=2)
 have c0d:=(aP op).cell (off:=0)
 have c2d:=(aP op).cell (off:=2)
 simp only[UP,UR]at c2 c0d c2d
 obtain⟨oa,oc,ob,l0,hob⟩:∃(oa:Option Addr) (oc:Nat) (ob:List UInt8),(uY 57 (.map (some mn)) (.string name) false).run pg w1= .ok (.value (.slice oa ob.length oc)) w1/\tT S name=ob:=by
  have l0:=Jv hmn name
  unfold tT
  rcases hfn.get name with⟨q1,q2⟩|⟨v,b,q1,q2,q3⟩
  .rw [q1]at l0
   exact⟨none,0,[],l0,by rw[q2]<;>rfl⟩
  .obtain ⟨a',c',rfl⟩:=vP.slice q3
   rw[q1]at l0
   exact⟨a',c',b,l0,by rw[q2]<;>rfl⟩
 rw[hob]at hE
 have holdlen:ob.length<=1099511627776:=by rw[<-hob];have:=zM (k:=name) (c:=S.seen);have:=hB.seen;unfold tT;omega
 simp(disch:=omega)only[SV,n1,c2,l0]
 refine(Qr name _).mono ?_
 rintro r w2 ⟨rfl,hw⟩
 rw[hw];clear hw w2
 by_cases hmay:tZ name=false
 .rw [if_pos (.inl hmay)]at hE
  rw[hW 1 hE.symm (by decide),hmay]
  simp(disch:=omega)only[SV]
  exact xL.refl h
 have hmay:tZ name=true:=by cases hq:tZ name with|true=>rfl|false=>exact absurd hq hmay
 rw[hmay]at hE⊢
 by_cases ha0:a<0
 .have d1:decide (a<0)=true:=by simpa using ha0
  rw[if_pos (.inr ha0)]at hE
  rw[hW 1 hE.symm (by decide)]
  simp(disch:=omega)only[SV,d1]
  exact xL.refl h
 have d1:decide (a<0)=false:=by simpa using ha0
 rw[if_neg (by rintro(h|h);cases h;exact ha0 h)]at hE
 by_cases ha1:(ob.length:Int)<a
 .have d2:decide ((ob.length:Int)<a)=true:=by simpa using ha1
  rw[if_pos ha1]at hE
  rw[hW 17 hE.symm (by decide)]
  simp(disch:=omega)only[SV,d1,d2]
  exact xL.refl h
 have d2:decide ((ob.length:Int)<a)=false:=by simpa using ha1
 rw[if_neg ha1]at hE
 have hbs:=hB.seen
 have hbr:=hB.room
 obtain⟨k,rfl⟩:∃k:Nat,a=k:=⟨a.toNat,by omega⟩
 simp(disch:=omega)only[SV,d1,d2,c2d]
 refine(Td (c:=S.seen) hmn.dr (hfn.ext (aJ.dr _ bR) λ_ h=>h.elim) hbs).mono ?_
 rintro r w2 ⟨rfl,x2⟩
 have x2:aJ w1 w2 bR:=(aJ.dr _ _).seq x2
 have op2:=op.ext x2 (λh=>h)
 have r0:=op2.cell (off:=0)
 have r0d:=(aP op2).cell (off:=0)
 simp only[UP,UR]at r0 r0d
 have e1:(k:Int)+(l.length:Int)=((k+l.length:Nat):Int):=by omega
 obtain⟨q,hq⟩:∃q:Nat,max (((k+l.length:Nat):Int)-(ob.length:Int)) 0=q:=⟨(max (((k+l.length:Nat):Int)-(ob.length:Int)) 0).toNat,by omega⟩
 have hmax:(if(0:Int)>((k+l.length:Nat):Int)-(ob.length:Int)then(0:Int)else((k+l.length:Nat):Int)-(ob.length:Int))=(q:Nat):=by
  split<;>omega
 have e2:((bG S.seen:Nat):Int)+(q:Int)=((bG S.seen+q:Nat):Int):=by omega
 rw[e1,hq,e2]at hE
 by_cases hsp:S.room<((bG S.seen+q:Nat):Int)
 .have d3:decide (S.room<((bG S.seen+q:Nat):Int))=true:=by simpa using hsp
  rw[if_pos hsp]at hE
  rw[hW 22 hE.symm (by decide)]
  simp(disch:=omega)only[SV,d1,d2,r0,r0d,c0d,e1,hmax,e2,d3]
  exact⟨X,D,h.new x2,λ_ h=> .inl h,λ_ h=>h,x2.mono λ_ _ h=>h.elim⟩
 have d3:decide (S.room<((bG S.seen+q:Nat):Int))=false:=by simpa using hsp
 rw[if_neg hsp]at hE
 have hW0:LB S name k l=xS S ⟨0,name,⟨#[]⟩,k,l⟩:=by unfold LB;rw[hE0,<-hE,if_pos rfl,U3]
 rw[hW0]
 simp(disch:=omega)only[SV,d1,d2,r0,r0d,c0d,e1,hmax,e2,d3]
 refine(Oh (hb.ext x2 (kD _)) hl).mono ?_
 rintro r w3 ⟨ho,x3⟩
 obtain⟨va,vc,rfl⟩:=ho.len
 have h2':=h.new x2
 have hd3:vP w3 D (.slice va l.length vc) l:=zC.dat ho λb hb=>fC.lt h2' b hb
 have opE:Hk ⟨0,name,⟨#[]⟩,k,l⟩ (.slice va l.length vc)=[.int .i64 0,.string name,.string ⟨#[]⟩,.int .i64 k,.slice va l.length vc]:=rfl
 have hdn:=M8 (o:=⟨0,name,⟨#[]⟩,k,l⟩) (h2'.new x3) hd3 hB.left hbs (show k<=1099511627776 by omega) (show l.length<=1099511627776 by omega) hB.under
 rw[opE]at hdn
 simp(disch:=omega)only[SV]
 refine hdn.mono ?_
 rintro r w4 ⟨rfl,hp⟩
 exact⟨rfl,xL.step ((x2.seq x3).mono λ_ _ h=>h.elim) (λ_ h=> .inl h) (λ_ h=>h) hp⟩
theorem IS{p:Nat}{X D:Nat->Prop}{S:iQ}{name:ByteArray}{w:Wm}(h:fC w p X D S)(hB:Ro S)(hsz:∀b,bC name S.seen=some b->b.length<=1000000000):
 aH pg fT #[dP p,.string name] w (λr w'=>((S.down=true/\r= .tuple #[.slice none 0 0,.int .i64 20])∨(S.down=false/\bC name S.seen=none/\r= .tuple #[.slice none 0 0,.int .i64 21])∨
  (S.down=false/\∃b v,bC name S.seen=some b/\r= .tuple #[v,.int .i64 0]/\zC w' w.heap.size 1 v b.length (b.map zD)))/\aJ w w' bR):=by
 refine EL ?_
 obtain⟨RR,hRR⟩:∃RR:Wn->Wm->Prop,RR=λr w'=>((S.down=true/\r= .tuple #[.slice none 0 0,.int .i64 20])∨(S.down=false/\bC name S.seen=none/\r= .tuple #[.slice none 0 0,.int .i64 21])∨
  (S.down=false/\∃b v,bC name S.seen=some b/\r= .tuple #[v,.int .i64 0]/\zC w' w.heap.size 1 v b.length (b.map zD)))/\aJ w w' bR:=⟨_,rfl⟩
 rw[<-hRR]
 unfold DA AQ
 refine(Q5 h).mono ?_
 rintro r w1 ⟨rfl,rfl⟩
 by_cases hd:S.down=true
 .rw [if_pos hd]
  have n1:((20:Int) !=0)=true:=rfl
  simp(disch:=omega)only[SV,n1]
  rw[hRR]
  exact⟨.inl ⟨hd,rfl⟩,aJ.refl _ _⟩
 have hd':S.down=false:=by cases hq:S.down with|true=>exact absurd hq hd|false=>rfl
 rw[if_neg hd]
 have n1:((0:Int) !=0)=false:=rfl
 obtain⟨ms,mn,sv,ls,ln,cs,h1,h2,h3,h4,h5,h6,hXD,hDl,op,hms,hmn,hfs,hfn,hun,hop⟩:=h
 have h7:=λb (hb:X b)=>hDl b (hXD b hb)
 have c2:=op.cell (off:=2)
 simp only[UP,UR]at c2
 have l0:=wZ hmn name
 rcases hfn.get name with⟨q1,q2⟩|⟨v,b,q1,q2,q3⟩
 .rw [q1]at l0
  have l0:(uY 57 (.map (some mn)) (.string name) true).run pg w1= .ok (.value (.tuple #[.slice none 0 0,.bool false])) w1:=l0
  simp(disch:=omega)only[SV,n1,c2,l0]
  rw[hRR]
  exact⟨.inr (.inl ⟨hd',q2,rfl⟩),aJ.refl _ _⟩
 .obtain ⟨a',c',rfl⟩:=vP.slice q3
  rw[q1]at l0
  have l0:(uY 57 (.map (some mn)) (.string name) true).run pg w1= .ok (.value (.tuple #[.slice a' b.length c',.bool true])) w1:=l0
  simp(disch:=omega)only[SV,n1,c2,l0]
  refine(Oh q3.1 (hsz b q2)).mono ?_
  rintro r w2 ⟨ho,x2⟩
  rw[hRR]
  exact⟨.inr (.inr ⟨hd',b,r,q2,rfl,ho⟩),x2⟩
theorem KG{p:Nat}{X D:Nat->Prop}{S:iQ}{w:Wm}(h:fC w p X D S):aH pg jS #[dP p] w (λr w'=>r= .int .i64 (S.under.length:Nat)/\w'=w):=by
 refine Ck ?_
 unfold AP xR
 obtain⟨ms,mn,sv,ls,ln,cs,h1,h2,h3,h4,h5,h6,hXD,hDl,op,hms,hmn,hfs,hfn,hun,hop⟩:=h
 have h7:=λb (hb:X b)=>hDl b (hXD b hb)
 have c3:=op.cell (off:=3)
 simp only[UP,UR]at c3
 obtain⟨ua,uc,rfl⟩:=hun.len
 simp(disch:=omega)only[SV,c3]
def Nw(S:iQ)(name:ByteArray):iQ×Int:=if S.down then(S,20)else if(bC name S.seen).isNone then(S,21)else xS S ⟨2,name,⟨#[]⟩,0,[]⟩
theorem OX{p:Nat}{X D:Nat->Prop}{S:iQ}{name:ByteArray}{w:Wm}(h:fC w p X D S)(hB:Ro S):
 aH pg nX #[dP p,.string name] w (λr w'=>r= .int .i64 (Nw S name).2/\xL w p X D (Nw S name).1 w'):=by
 refine C5 ?_
 unfold BP yU Nw
 refine(Q5 h).mono ?_
 rintro r w1 ⟨rfl,rfl⟩
 by_cases hd:S.down=true
 .rw [if_pos hd,if_pos hd]
  have n1:((20:Int) !=0)=true:=rfl
  simp(disch:=omega)only[SV,n1]
  exact xL.refl h
 rw[if_neg hd,if_neg hd]
 have n1:((0:Int) !=0)=false:=rfl
 have h':=h
 obtain⟨ms,mn,sv,ls,ln,cs,h1,h2,h3,h4,h5,h6,hXD,hDl,op,hms,hmn,hfs,hfn,hun,hop⟩:=h'
 have h7:∀b,X b->b<w1.heap.size:=λb hb=>hDl b (hXD b hb)
 have c2:=op.cell (off:=2)
 simp only[UP,UR]at c2
 have l0:=wZ hmn name
 rcases hfn.get name with⟨q1,q2⟩|⟨v,b,q1,q2,q3⟩
 .rw [q1]at l0
  have l0:(uY 57 (.map (some mn)) (.string name) true).run pg w1= .ok (.value (.tuple #[.slice none 0 0,.bool false])) w1:=l0
  rw[q2,if_pos (show(none:Option (List UInt8)).isNone=true from rfl)]
  simp(disch:=omega)only[SV,n1,c2,l0]
  exact xL.refl h
 .obtain ⟨a',c',rfl⟩:=vP.slice q3
  rw[q1]at l0
  have l0:(uY 57 (.map (some mn)) (.string name) true).run pg w1= .ok (.value (.tuple #[.slice a' b.length c',.bool true])) w1:=l0
  rw[q2,if_neg (show¬(some b).isNone=true by simp)]
  have hdn:=M8 (o:=⟨2,name,⟨#[]⟩,0,[]⟩) (va:=none) (vc:=0) h ⟨Sl.nil _,λh=>h⟩ hB.left hB.seen (show 0<=_ by omega) (show 0<=_ by omega) hB.under
  have opE:Hk ⟨2,name,⟨#[]⟩,0,[]⟩ (.slice none ([]:List UInt8).length 0)=[.int .i64 2,.string name,.string ⟨#[]⟩,.int .i64 0,.slice none 0 0]:=rfl
  rw[opE]at hdn
  simp(disch:=omega)only[SV,n1,c2,l0]
  exact hdn
def Nx(S:iQ)(old name:ByteArray):iQ×Int:=if S.down then(S,20)else if tZ old=false∨tZ name=false then(S,1)else if(bC old S.seen).isNone then(S,21)else xS S ⟨1,old,name,0,[]⟩
theorem OY{p:Nat}{X D:Nat->Prop}{S:iQ}{old name:ByteArray}{w:Wm}(h:fC w p X D S)(hB:Ro S):
 aH pg nY #[dP p,.string old,.string name] w (λr w'=>r= .int .i64 (Nx S old name).2/\xL w p X D (Nx S old name).1 w'):=by
 refine C6 ?_
 unfold BQ yV Nx
 refine(Q5 h).mono ?_
 rintro r w1 ⟨rfl,rfl⟩
 by_cases hd:S.down=true
 .rw [if_pos hd,if_pos hd]
  have n1:((20:Int) !=0)=true:=rfl
  simp(disch:=omega)only[SV,n1]
  exact xL.refl h
 rw[if_neg hd,if_neg hd]
 have n1:((0:Int) !=0)=false:=rfl
 have h':=h
 obtain⟨ms,mn,sv,ls,ln,cs,h1,h2,h3,h4,h5,h6,hXD,hDl,op,hms,hmn,hfs,hfn,hun,hop⟩:=h'
 have h7:∀b,X b->b<w1.heap.size:=λb hb=>hDl b (hXD b hb)
 have c2:=op.cell (off:=2)
 simp only[UP,UR]at c2
 simp(disch:=omega)only[SV,n1]
 refine(Qr old _).mono ?_
 rintro r w2 ⟨rfl,hw⟩
 rw[hw];clear hw w2
 cases hm1:tZ old with
 |false=>
  rw[if_pos (.inl rfl)]
  simp(disch:=omega)only[SV]
  exact xL.refl h
 |true=>
  simp(disch:=omega)only[SV]
  refine(Qr name _).mono ?_
  rintro r w2 ⟨rfl,hw⟩
  rw[hw];clear hw w2
  cases hm2:tZ name with
  |false=>
   rw[if_pos (.inr rfl)]
   simp(disch:=omega)only[SV]
   exact xL.refl h
  |true=>
   rw[if_neg (by simp)]
   have l0:=wZ hmn old
   rcases hfn.get old with⟨q1,q2⟩|⟨v,b,q1,q2,q3⟩
   .rw [q1]at l0
    have l0:(uY 57 (.map (some mn)) (.string old) true).run pg w1= .ok (.value (.tuple #[.slice none 0 0,.bool false])) w1:=l0
    rw[q2,if_pos (show(none:Option (List UInt8)).isNone=true from rfl)]
    simp(disch:=omega)only[SV,n1,c2,l0]
    exact xL.refl h
   .obtain ⟨a',c',rfl⟩:=vP.slice q3
    rw[q1]at l0
    have l0:(uY 57 (.map (some mn)) (.string old) true).run pg w1= .ok (.value (.tuple #[.slice a' b.length c',.bool true])) w1:=l0
    rw[q2,if_neg (show¬(some b).isNone=true by simp)]
    have hdn:=M8 (o:=⟨1,old,name,0,[]⟩) (va:=none) (vc:=0) h ⟨Sl.nil _,λh=>h⟩ hB.left hB.seen (show 0<=_ by omega) (show 0<=_ by omega) hB.under
    have opE:Hk ⟨1,old,name,0,[]⟩ (.slice none ([]:List UInt8).length 0)=[.int .i64 1,.string old,.string name,.int .i64 0,.slice none 0 0]:=rfl
    rw[opE]at hdn
    simp(disch:=omega)only[SV,n1,c2,l0]
    exact hdn
theorem Th{p:Nat}{X D:Nat->Prop}{S:iQ}{a:Int}{w:Wm}(h:fC w p X D S):aH pg qM #[dP p,.int .i64 a] w (λr w'=>r= .tuple #[]/\xL w p X D {S with left:=max a (-1)} w'):=by
 refine EM ?_
 unfold DB AR
 obtain⟨ms,mn,sv,ls,ln,cs,h1,h2,h3,h4,h5,h6,hXD,hDl,op,hms,hmn,hfs,hfn,hun,hop⟩:=h
 have h7:=λb (hb:X b)=>hDl b (hXD b hb)
 have e1:(if(-1:Int)>a then(-1:Int)else a)=max a (-1):=by split<;>omega
 simp(disch:=omega)only[SV,e1]
 refine Eg op rfl (by simp) λw1 o1 x1 s1=> ?_
 simp only[U7,Vi]at o1
 have xX:aJ w w1 X:=x1.mono λb _ h=>h▸h1
 have xD:aJ w w1 D:=xX.mono λb _ h=>hXD b h
 exact⟨X,D,⟨ms,mn,sv,ls,ln,cs,h1,h2,h3,h4,h5,h6,hXD,λb hb=>by have:=hDl b hb;omega,o1,hms.ext x1 (λh=>h4 h.symm),hmn.ext x1 (λh=>h5 h.symm),hfs.ext xD λ_ h=>h,hfn.ext xD λ_ h=>h,hun.ext x1 (λb hb h=>hb.2.1 h),hop.ext xD λ_ h=>h⟩,λ_ h=> .inl h,λ_ h=>h,xX⟩
def MW(S:iQ):iQ×Int:=
 if S.down then(S,20)else if LZ S then({S with left:=tP S.left,down:=LZ S},20)
 else({S with left:=tP S.left,down:=LZ S,sure:=S.seen,under:=[]},0)
theorem Q3 {p:Nat}{X D:Nat->Prop}{S:iQ}{w:Wm}(h:fC w p X D S)(hB:Ro S):
 aH pg mV #[dP p] w (λr w'=>r= .int .i64 (MW S).2/\xL w p X D (MW S).1 w'):=by
 refine EN ?_
 unfold DC AS MW
 refine(Q5 h).mono ?_
 rintro r w1 ⟨rfl,rfl⟩
 by_cases hd:S.down=true
 .rw [if_pos hd,if_pos hd]
  have n1:((20:Int) !=0)=true:=rfl
  simp(disch:=omega)only[SV,n1]
  exact xL.refl h
 rw[if_neg hd,if_neg hd]
 have n1:((0:Int) !=0)=false:=rfl
 obtain⟨ms,mn,sv,ls,ln,cs,h1,h2,h3,h4,h5,h6,hXD,hDl,op,hms,hmn,hfs,hfn,hun,hop⟩:=h
 have h7:=λb (hb:X b)=>hDl b (hXD b hb)
 simp(disch:=omega)only[SV,n1]
 refine(OD op hB.left).mono ?_
 rintro r w2 ⟨rfl,op2,x2⟩
 have hdn:(S.down||S.left==0)=LZ S:=rfl
 rw[hdn]at op2⊢
 have xX:aJ w1 w2 X:=x2.mono λb _ h=>h▸h1
 have xD:aJ w1 w2 D:=xX.mono λb _ h=>hXD b h
 have z2:=x2.size
 have h72:∀b,X b->b<w2.heap.size:=λb hb=>by have:=h7 b hb;omega
 have hD2:∀b,D b->b<w2.heap.size:=λb hb=>by have:=hDl b hb;omega
 have hms2:=hms.ext x2 (λh=>h4 h.symm)
 have hmn2:=hmn.ext x2 (λh=>h5 h.symm)
 have hfs2:=hfs.ext xD λ_ h=>h
 have hfn2:=hfn.ext xD λ_ h=>h
 cases hD:LZ S with
 |true=>
  rw[hD]at op2
  rw[if_pos rfl]
  simp(disch:=omega)only[SV]
  exact⟨X,D,⟨ms,mn,sv,ls,ln,cs,h1,h2,h3,h4,h5,h6,hXD,hD2,op2,hms2,hmn2,hfs2,hfn2,hun.ext x2 (λb hb h=>hb.2.1 h),hop.ext xD λ_ h=>h⟩,λ_ h=> .inl h,λ_ h=>h,xX⟩
 |false=>
  rw[hD]at op2
  rw[if_neg (by decide)]
  have c2:=op2.cell (off:=2)
  simp only[UP,UR]at c2
  simp(disch:=omega)only[SV,c2]
  refine(Mi hmn2).mono ?_
  rintro r w3 ⟨rfl,hmc,x3,s3⟩
  have op3:=op2.ext x3 (λh=>h)
  refine FL op3 rfl (by simp) λw4 op4 x4 s4=> ?_
  simp only[U7,Vi]at op4
  refine qL op4 rfl (by simp) λw5 op5 x5 s5=> ?_
  simp only[U7,Vi]at op5
  have hp2:p<w2.heap.size:=op2.lt
  have hmn2l:=hmn2.lt
  have x45:aJ w3 w5 (λy=>y=p):=x4.seq x5
  obtain⟨Y,hY⟩:∃Y:Nat->Prop,Y=λb=>X b∨b=w2.heap.size:=⟨_,rfl⟩
  have hYX:∀b,X b->Y b:=λb h=>by rw[hY];exact .inl h
  have hY2:∀b,Y b->X b∨w2.heap.size<=b:=λb h=>by rw[hY]at h;rcases h with h|h;exact .inl h;exact .inr (by omega)
  obtain⟨E,hE⟩:∃E:Nat->Prop,E=λb=>D b∨b=w2.heap.size:=⟨_,rfl⟩
  have hED:∀b,D b->E b:=λb h=>by rw[hE];exact .inl h
  have hYE:∀b,Y b->E b:=λb h=>by rw[hY]at h;rw[hE];rcases h with h|h;exact .inl (hXD b h);exact .inr h
  have hE2:∀b,E b->D b∨w2.heap.size<=b:=λb h=>by rw[hE]at h;rcases h with h|h;exact .inl h;exact .inr (by omega)
  have x3Y:aJ w2 w3 E:=x3.mono λ_ _ h=>h.elim
  have x45Y:aJ w3 w5 E:=x45.mono λb _ h=>by rw[h];exact hED _ (hXD _ h1)
  have dat:∀v b,vP w2 D v b->vP w5 E v b:=λv b hd=>((hd.sub hE2).ext x3Y λ_ h=>h).ext x45Y λ_ h=>h
  refine⟨Y,E,⟨w2.heap.size,mn,.slice none 0 0,ln,ln,[],hYX _ h1,by rw[hY];exact .inr rfl,hYX _ h3,by omega,h5,by omega,hYE,λb h=> ?_,op5,hmc.ext x45 (by omega),(hmn2.ext x3 (λh=>h)).ext x45 (λh=>h5 h.symm),hfn2.map dat,hfn2.map dat,⟨rfl,.inl ⟨rfl,rfl⟩⟩,rfl⟩,λb h=> ?_,hED,(xX.trans x3 λ_ _ h=>h.elim).trans x45 λb _ h=>by rw[h];exact h1⟩
  .rw [hE]at h
   rcases h with h|h
   .have:=hD2 b h;omega
   .omega
  .rcases hY2 b h with h|h
   .exact .inl h
   .exact .inr (by omega)
def H2 (os:List Bc)(ks:List Bool)(c:aX):Nat->aX
 |0=>c
 |i+1=>match os[i]?,ks[i]? with
  |some o,some true=>Fe o (H2 os ks c i)
  |_,_=>H2 os ks c i
def SK(S:iQ)(ks:List Bool):iQ:={S with sure:=H2 S.under ks S.sure S.under.length,seen:=H2 S.under ks S.sure S.under.length,under:=[],left:= -1,down:=false}
theorem Oi{p:Nat}{X D:Nat->Prop}{S:iQ}{kv:Wn}{ks:List Bool}{w:Wm}(h:fC w p X D S)(hk:Sl w kv (ks.map Value.bool))(hkX:¬CR kv X)(hkl:ks.length<=9223372036854775807)(hu:S.under.length<=1000000)
 (hs:∀i,i<=S.under.length->bG (H2 S.under ks S.sure i)<=1099511627776) (hop':∀o∈S.under,o.at'<=1099511627776/\o.bytes.length<=1099511627776):
 aH pg lO #[dP p,kv] w (λr w'=>r= .tuple #[]/\xL w p X D (SK S ks) w'):=by
 refine Dy ?_
 unfold CJ yT yS
 simp(disch:=omega)only[SV]
 obtain⟨ms,mn,sv,ls,ln,cs,h1,h2,h3,h4,h5,h6,hXD,hDl,op,hms,hmn,hfs,hfn,hun,hop⟩:=h
 have h7:=λb (hb:X b)=>hDl b (hXD b hb)
 have hp:p<w.heap.size:=op.lt
 have hmsl:=hms.lt
 have hmnl:=hmn.lt
 have c3:=op.cell (off:=3)
 simp only[UP,UR]at c3
 obtain⟨ua,uc,rfl⟩:=hun.len
 obtain⟨ka,kc,rfl,_⟩:=hk.len
 rw[UU]at hk hkX⊢
 unfold sS sR zY
 simp(disch:=omega)only[SV,c3]
 unfold oA
 have hol:=hop.len
 refine bL.rule (λm (t:Wn) w'=>∃(i:Nat) (ls':List (ByteArray×Wn)),m=S.under.length-i/\t= .int .i64 i/\i<=S.under.length/\Mp w' ms DI ls'/\xK w' D ls' (H2 S.under ks S.sure i)/\aJ w w' (λb=>b=ms)) S.under.length
  ⟨0,ls,rfl,rfl,by omega,hms,hfs,aJ.refl _ _⟩ ?_
 rintro m t w1 ⟨i,ls',rfl,rfl,hi,hms1,hf1,x1⟩
 have z1:=x1.size
 have x1X:aJ w w1 X:=x1.mono λb _ h=>h▸h2
 have x1D:aJ w w1 D:=x1X.mono λb _ h=>hXD b h
 have op1:=op.ext x1 (λh=>h4 h)
 unfold sQ zX
 by_cases hlt:i<S.under.length
 .have d1:decide ((i:Int)<(S.under.length:Int))=true:=by simp;omega
  obtain⟨v,⟨va,vn,vc,rfl⟩,hcs,hdat⟩:=hop.at hlt
  obtain⟨a',c',e'⟩:=vP.slice hdat
  simp only[Value.slice.injEq]at e'
  obtain⟨-,rfl,-⟩:=e'
  rcases hun.2 with⟨hnil,h0⟩|⟨b,c,rest,hsv,hbX,ob,hbl,hbc⟩
  .omega
  simp only[Value.slice.injEq]at hsv
  obtain⟨rfl,-,rfl⟩:=hsv
  have ob1:=ob.ext x1 (λh=>hbX.2.2.1 h)
  have l1:=kZ (off:=i*5) ob1 (by rw[UO];omega)
  have htk:((cs++rest).drop (i*5)).take 5=Hk S.under[i] (.slice va S.under[i].bytes.length vc):=by
   rw[List.drop_append_of_le_length (by omega),List.take_append_of_le_length (by rw[Vs];omega)];exact hcs
  rw[htk]at l1
  have hmem:=hop' _ (VU hlt)
  have hcr:H2 S.under ks S.sure (i+1)=match ks[i]? with|some true=>Fe S.under[i] (H2 S.under ks S.sure i)|_=>H2 S.under ks S.sure i:=by
   rw[H2,U1 hlt]
   cases ks[i]? with
   |none=>rfl
   |some q=>cases q<;>rfl
  have hsi:=hs i hi
  generalize S.under[i]=o at*
  simp(disch:=omega)only[SV,d1,l1]
  refine Gy λw2 o2 x2 s2=> ?_
  refine Gl o2 rfl (by unfold Hk;simp[one]) (by simp) λw3 o3 x3 s3=> ?_
  have o3:bE w3 w1.heap.size (Hk o (.slice va o.bytes.length vc)):=o3
  have x13:aJ w1 w3 bR:=x2.new x3 (U0 _)
  have x03:=x1.trans x13 λ_ _ h=>h.elim
  have hms3:=hms1.ext x13 (λh=>h)
  have hf3:=hf1.ext x13 λ_ h=>h.elim
  have hd3:vP w3 D (.slice va o.bytes.length vc) o.bytes:=(hdat.ext x1D λ_ h=>h).ext x13 λ_ h=>h.elim
  have op3:=op1.ext x13 (λh=>h)
  have q1d:=(aP op3).cell (off:=1)
  have q1:=op3.cell (off:=1)
  simp only[UP,UR]at q1 q1d
  have l3:=kZ (off:=0) o3 (by unfold Hk;simp)
  have l3d:=kZ (off:=0) (aP o3) (by unfold Hk;simp)
  have l3':((Hk o (.slice va o.bytes.length vc)).drop 0).take 5=Hk o (.slice va o.bytes.length vc):=rfl
  rw[l3']at l3 l3d
  have z3:=x13.size
  unfold sP
  have skip:H2 S.under ks S.sure (i+1)=H2 S.under ks S.sure i->∃m,m<S.under.length-i/\∃(i':Nat) (ls':List (ByteArray×Wn)),m=S.under.length-i'/\Value.int .i64 ((i+1:Nat):Int)= .int .i64 i'/\i'<=S.under.length/\Mp w3 ms DI ls'/\xK w3 D ls' (H2 S.under ks S.sure i')/\aJ w w3 (λb=>b=ms):=λe=>
   ⟨S.under.length-(i+1),by omega,i+1,ls',rfl,rfl,by omega,hms3,by rw[e];exact hf3,x03⟩
  have ei:(i:Int)+1=((i+1:Nat):Int):=by omega
  by_cases hki:i<ks.length
  .have d2:decide ((i:Int)<(ks.length:Int))=true:=by simp;omega
   obtain⟨kb,koff,rfl,hcell⟩:=Uk (hk.ext x03 (λh=>hkX (kS h λb hb=>by rw[hb];exact h2))) (by omega)
   have g1:=hcell i hki
   rw[Vt,U1 hki]at g1
   simp only[Vx]at g1
   rw[U1 hki]at hcr
   generalize ks[i]=kq at*
   cases kq with
   |false=>
    simp(disch:=omega)only[SV,d2,g1,ei]
    exact skip hcr
   |true=>
    simp(disch:=omega)only[SV,d2,g1,q1,q1d,l3,l3d]
    refine(TC (X:=D) (c:=H2 S.under ks S.sure i) (o:=o) hms3.dr (hXD _ h2) (λb hb=>by have:=hDl b hb;show b<w3.heap.size;omega) (hf3.ext (aJ.dr _ bR) λ_ h=>h.elim) (hd3.ext (aJ.dr _ bR) λ_ h=>h.elim) hsi hmem.1 hmem.2).mono ?_
    rintro r w4 ⟨rfl,ls4,hms4,hf4,x4⟩
    have x4:aJ w3 w4 (λb=>b=ms):=(aJ.dr _ _).seq x4
    simp(disch:=omega)only[SV,ei]
    exact⟨S.under.length-(i+1),by omega,i+1,ls4,rfl,rfl,by omega,hms4,by rw[hcr];exact hf4,x03.seq x4⟩
  .have d2:decide ((i:Int)<(ks.length:Int))=false:=by simp;omega
   rw[Vy (by omega)]at hcr
   simp(disch:=omega)only[SV,d2,ei]
   exact skip hcr
 .have d1:decide ((i:Int)<(S.under.length:Int))=false:=by simp;omega
  obtain rfl:i=S.under.length:=by omega
  have c1:=op1.cell (off:=1)
  simp only[UP,UR]at c1
  unfold sO
  simp(disch:=omega)only[SV,d1,c1]
  refine(Mi hms1).mono ?_
  rintro r w3 ⟨rfl,hmc,x3,s3⟩
  have op3:=op1.ext x3 (λh=>h)
  refine FL op3 rfl (by simp) λw4 op4 x4 s4=> ?_
  simp only[U7,Vi]at op4
  refine qL op4 rfl (by simp) λw5 op5 x5 s5=> ?_
  simp only[U7,Vi]at op5
  refine Eg op5 rfl (by simp) λw6 op6 x6 s6=> ?_
  simp only[U7,Vi]at op6
  refine IX op6 rfl (by simp) λw7 op7 x7 s7=> ?_
  simp only[U7,Vi]at op7
  have x37:aJ w3 w7 (λy=>y=p):=((x4.seq x5).seq x6).seq x7
  obtain⟨Y,hY⟩:∃Y:Nat->Prop,Y=λb=>X b∨b=w1.heap.size:=⟨_,rfl⟩
  have hYX:∀b,X b->Y b:=λb h=>by rw[hY];exact .inl h
  have hY2:∀b,Y b->X b∨w1.heap.size<=b:=λb h=>by rw[hY]at h;rcases h with h|h;exact .inl h;exact .inr (by omega)
  obtain⟨E,hE⟩:∃E:Nat->Prop,E=λb=>D b∨b=w1.heap.size:=⟨_,rfl⟩
  have hED:∀b,D b->E b:=λb h=>by rw[hE];exact .inl h
  have hYE:∀b,Y b->E b:=λb h=>by rw[hY]at h;rw[hE];rcases h with h|h;exact .inl (hXD b h);exact .inr h
  have hE2:∀b,E b->D b∨w1.heap.size<=b:=λb h=>by rw[hE]at h;rcases h with h|h;exact .inl h;exact .inr (by omega)
  have x3Y:aJ w1 w3 E:=x3.mono λ_ _ h=>h.elim
  have x37Y:aJ w3 w7 E:=x37.mono λb _ h=>by rw[h];exact hED _ (hXD _ h1)
  have dat:∀v b,vP w1 D v b->vP w7 E v b:=λv b hd=>((hd.sub hE2).ext x3Y λ_ h=>h).ext x37Y λ_ h=>h
  refine⟨Y,E,⟨ms,w1.heap.size,.slice none 0 0,ls',ls',[],hYX _ h1,hYX _ h2,by rw[hY];exact .inr rfl,h4,by omega,by omega,hYE,λb h=> ?_,op7,(hms1.ext x3 (λh=>h)).ext x37 (λh=>h4 h.symm),hmc.ext x37 (by omega),hf1.map dat,hf1.map dat,⟨rfl,.inl ⟨rfl,rfl⟩⟩,rfl⟩,λb h=> ?_,hED,(x1X.trans x3 λ_ _ h=>h.elim).trans x37 λb _ h=>by rw[h];exact h1⟩
  .rw [hE]at h
   rcases h with h|h
   .have:=hDl b h;omega
   .omega
  .rcases hY2 b h with h|h
   .exact .inl h
   .exact .inr (by omega)
theorem Hq{w w':Wm}{g i:Nat}{v:Wn}{M:Nat->Prop}(hc:w.cell? ⟨g,i,none⟩=some v)(x:aJ w w' M)(hM:¬M g):w'.cell? ⟨g,i,none⟩=some v:=by
 have hg:g<w.heap.size:=by
  rcases Vk g w.heap.size with h|h
  .exact h
  .unfold World.cell? at hc
   rw[Vc h]at hc
   cases hc
 rw[<-hc]
 unfold World.cell?
 rw[x.keep g hg hM]
theorem H0 {w w':Wm}{sz n:Nat}{v:Wn}{l:List Wn}{M:Nat->Prop}(h:Cl w sz v n l)(x:aJ w w' M)(hM:¬CR v M):Cl w' sz v n l:=by
 obtain⟨a,c,rfl,hl,hh⟩:=h
 refine⟨a,c,rfl,hl,λh0=> ?_⟩
 obtain⟨b,off,rfl,h2⟩:=hh h0
 refine⟨b,off,rfl,λi hi=> ?_⟩
 have hb:¬M b:=λhm=>hM (by
  obtain⟨n',rfl⟩:∃n',n=n'+1:=⟨n-1,by omega⟩
  exact hm)
 obtain⟨y,hy⟩:∃y,l[i]?=some y:=⟨_,U1 hi⟩
 rw[<-h2 i hi]
 have h3:=h2 i hi
 rw[hy]at h3
 rw[Hq h3 x hb,h3]
theorem Mo{w:Wm}{S:Nat->Prop}{sz n:Nat}{v:Wn}{l:List Wn}(o3:Kt w S sz v n l):∃a c,v= .slice a n c:=by
 rcases o3.2 with⟨rfl,rfl⟩|⟨b,c,rest,rfl,_⟩
 .exact ⟨_,_,rfl⟩
 .exact ⟨_,_,rfl⟩
theorem Hi(x y:ByteArray):(x.toList==y.toList)=decide (x=y):=by
 rw[ByteArray.toList_eq,ByteArray.toList_eq]
 by_cases h:x=y
 .subst h;simp
 .rw [decide_eq_false h]
  refine beq_eq_false_iff_ne.2 λe=>h ?_
  cases x;cases y
  simp at e
  rw[e]
theorem Nr{P:Program}{w:Wm}{t:TypeId}{ox oy:Operand}(x y:ByteArray):(aE .lss t ox oy (.string x) (.string y)).run P w= .ok (.value (.bool (fW x y))) w:=by
 simp[aE,zE,kE,binOp,Op.stringOp,fW]
abbrev Kh(l:aX):List Wn:=l.flatMap λp=>[.string p.1,.string ⟨p.2.toArray⟩]
def Dh(Z:Nat->Prop)(w:Wm)(v:Wn)(l:aX):Prop:=Cl w 2 v l.length (Kh l)/\¬CR v Z/\∀b,Z b->b<w.heap.size
variable{Z:Nat->Prop}
theorem Ew(l:aX):(Kh l).length=l.length*2:=by
 induction l with
 |nil=>rfl
 |cons p r ih=>simp only[Kh,VQ,UO,U6,VY]at ih⊢;omega
theorem Ox(l:aX):∀y∈Kh l,one y=true:=λy hy=>by
 obtain⟨p,-,hy⟩:=List.mem_flatMap.1 hy
 simp only[UZ,Vn,or_false]at hy
 rcases hy with rfl|rfl<;>rfl
theorem Ln:∀{l:aX} {i:Nat} (hi:i<l.length),(Kh l)[i*2]?=some (.string l[i].1)/\(Kh l)[i*2+1]?=some (.string ⟨l[i].2.toArray⟩)
 |p::r,0,_=>⟨rfl,rfl⟩
 |p::r,i+1,hi=>by
  have h:=Ln (l:=r) (i:=i) (by simp at hi;omega)
  rw[show(i+1)*2=i*2+1+1 from by omega]
  exact h
theorem Dh.at {w:Wm}{v:Wn}{l:aX}(h:Dh Z w v l){i:Nat}(hi:i<l.length):∃a off c,v= .slice (some ⟨a,off,none⟩) l.length c/\w.cell? ⟨a,off+i*2,none⟩=some (.string l[i].1)/\w.cell? ⟨a,off+i*2+1,none⟩=some (.string ⟨l[i].2.toArray⟩):=by
 obtain⟨⟨a,c,rfl,hl,hh⟩,_⟩:=h
 obtain⟨b,off,rfl,h2⟩:=hh (by omega)
 obtain⟨h3,h4⟩:=Ln hi
 have hln:=Ew l
 refine⟨b,off,c,rfl, ?_, ?_⟩
 .rw [h2 _ (by omega),h3]
 .rw [VC,h2 _ (by omega),h4]
theorem Dh.len {w:Wm}{v:Wn}{l:aX}(h:Dh Z w v l):∃a c,v= .slice a l.length c:=by
 obtain⟨⟨a,c,rfl,_⟩,_⟩:=h
 exact⟨a,c,rfl⟩
theorem Dh.new {w w':Wm}{v:Wn}{l:aX}(h:Dh Z w v l)(x:aJ w w' bR):Dh Z w' v l:=⟨H0 h.1 x (kD _),h.2.1,λb hb=>Vb (h.2.2 b hb) x.size⟩
theorem Lg{w:Wm}{base sz n:Nat}{v:Wn}{l:List Wn}(h:zC w base sz v n l)(hZ:∀b,Z b->b<base):¬CR v Z:=by
 intro hi
 rcases h.2 with⟨rfl,_⟩|⟨b,c,rest,rfl,hb,_⟩
 .exact hi
 .unfold CR at hi
  split at hi
  .rename_i e
   simp only[Value.slice.injEq,V1]at e
   obtain⟨rfl,_⟩:=e
   exact absurd (hZ _ hi) (by show¬b<base;omega)
  .exact hi
theorem Hu{n:ByteArray}:∀{l:aX} {i:Nat},(∀j (hj:j<l.length),j<i->l[j].1≠n)->bC n l=bC n (l.drop i)
 |_,0,_=>rfl
 |[],i+1,_=>rfl
 |p::r,i+1,h=>by
  have h0:=h 0 (by simp) (by omega)
  simp only[bC]
  rw[if_neg (λe=>h0 e.symm),List.drop_succ_cons]
  exact Hu λj hj hji=>by
   have:=h (j+1) (by simp;omega) (by omega)
   simpa using this
theorem G8 {v:Wn}{l:aX}{n:ByteArray}{w:Wm}(h:Dh Z w v l)(hl:l.length<=1000000):
 aH pg qO #[v,.string n] w (λr w'=>w'=w/\((bC n l=none/\r= .int .i64 (-1))∨∃i,∃hi:i<l.length,bC n l=some l[i].2/\l[i].1=n/\r= .int .i64 (i:Nat))):=by
 refine IF ?_
 obtain⟨RR,hRR⟩:∃RR:Wn->Wm->Prop,RR=λr w'=>w'=w/\((bC n l=none/\r= .int .i64 (-1))∨∃i,∃hi:i<l.length,bC n l=some l[i].2/\l[i].1=n/\r= .int .i64 (i:Nat)):=⟨_,rfl⟩
 rw[<-hRR]
 obtain⟨a,c,hv⟩:=h.len
 subst hv
 unfold JI Ft Fs Bw Bv Fq xB
 refine bL.rule (λm (t:Wn) w'=>∃i:Nat,m=l.length-i/\i<=l.length/\t= .int .i64 (i:Nat)/\w'=w/\∀j (hj:j<l.length),j<i->l[j].1≠n) l.length
  ⟨0,rfl,by omega,rfl,rfl,λj _ h=>by omega⟩ ?_
 rintro m t w' ⟨i,rfl,hi,rfl,rfl,hne⟩
 unfold Bu
 by_cases hlt:i<l.length
 .have d1:decide ((i:Int)<(l.length:Int))=true:=by simp;omega
  obtain⟨b,off,c',he,h1,h2⟩:=h.at hlt
  simp only[Value.slice.injEq]at he
  obtain⟨rfl,-,rfl⟩:=he
  have hin:(i:Int).toNat=i:=U3 _
  have q1:(i:Int)+1=((i+1:Nat):Int):=by omega
  by_cases hn:l[i].1=n
  .have k1:(l[i].1.toList==n.toList)=true:=by rw[Hi,decide_eq_true hn]
   simp(disch:=omega)only[SV,d1,hin,h1,Br,k1]
   rw[hRR]
   refine⟨rfl,.inr ⟨i,hlt, ?_,hn,rfl⟩⟩
   rw[Hu hne,Vv hlt]
   simp only[bC]
   rw[if_pos hn.symm]
  .have k1:(l[i].1.toList==n.toList)=false:=by rw[Hi,decide_eq_false hn]
   have hq:∀j (hj:j<l.length),j<i+1->l[j].1≠n:=λj hj hji=>by
    by_cases hj2:j=i
    .subst hj2;exact hn
    .exact hne j hj (by omega)
   have hqq:∃m,m<l.length-i/\∃i':Nat,m=l.length-i'/\i'<=l.length/\Value.int .i64 ((i+1:Nat):Int)= .int .i64 (i':Nat)/\w'=w'/\∀j (hj:j<l.length),j<i'->l[j].1≠n:=⟨l.length-(i+1),by omega,i+1,rfl,by omega,rfl,rfl,hq⟩
   simp(disch:=omega)only[SV,d1,hin,h1,Br,k1,q1]
   first|exact hqq|exact⟨l.length-(i+1),by omega,i+1,rfl,by omega,rfl,hq⟩
 .have d1:decide ((i:Int)<(l.length:Int))=false:=by simp;omega
  unfold Bt
  simp(disch:=omega)only[SV,d1]
  rw[hRR]
  refine⟨rfl,.inl ⟨?_,rfl⟩⟩
  rw[Hu hne,List.drop_of_length_le (by omega)]
  rfl
theorem QU{n:ByteArray}{l:aX}{i:Nat}(hi:i<l.length):Cd n (l.take (i+1))=if l[i].1=n then Cd n (l.take i)else Cd n (l.take i)++[l[i]]:=by
 unfold Cd
 rw[VH hi,List.filter_append]
 by_cases h:l[i].1=n
 .rw [if_pos h,List.filter_cons_of_neg (by simpa using h)];simp
 .rw [if_neg h,List.filter_cons_of_pos (by simpa using h)];simp
theorem IW(a b:aX):Kh (a++b)=Kh a++Kh b:=by simp[Kh]
theorem JT{v:Wn}{l:aX}{n:ByteArray}{w:Wm}(h:Dh Z w v l)(hl:l.length<=1000000):
 aH pg oS #[v,.string n] w (λr w'=>zC w' w.heap.size 2 r (Cd n l).length (Kh (Cd n l))/\aJ w w' bR):=by
 refine Gc ?_
 obtain⟨RR,hRR⟩:∃RR:Wn->Wm->Prop,RR=λr w'=>zC w' w.heap.size 2 r (Cd n l).length (Kh (Cd n l))/\aJ w w' bR:=⟨_,rfl⟩
 rw[<-hRR]
 obtain⟨a,c,hv⟩:=h.len
 subst hv
 unfold FG A9 A8 wH wG B6 qQ
 refine bL.rule (λm (t:Wn×Wn) w'=>∃i:Nat,m=l.length-i/\i<=l.length/\∃ov,t=(ov,.int .i64 (i:Nat))/\zC w' w.heap.size 2 ov (Cd n (l.take i)).length (Kh (Cd n (l.take i)))/\aJ w w' bR) l.length
  ⟨0,rfl,by omega,_,rfl,zC.nil _ _ _,aJ.refl _ _⟩ ?_
 rintro m t w' ⟨i,rfl,hi,ov,rfl,ho,x⟩
 unfold wF B5
 by_cases hlt:i<l.length
 .have d1:decide ((i:Int)<(l.length:Int))=true:=by simp;omega
  obtain⟨b,off,c',he,h1,h2⟩:=(h.new x).at hlt
  simp only[Value.slice.injEq]at he
  obtain⟨rfl,-,rfl⟩:=he
  have hin:(i:Int).toNat=i:=U3 _
  have q1:(i:Int)+1=((i+1:Nat):Int):=by omega
  have ht:=QU (n:=n) hlt
  unfold wE
  by_cases hn:l[i].1=n
  .have k1:(l[i].1.toList==n.toList)=true:=by rw[Hi,decide_eq_true hn]
   rw[if_pos hn]at ht
   simp(disch:=omega)only[SV,d1,hin,h1,JD,k1,q1]
   exact⟨l.length-(i+1),by omega,i+1,rfl,by omega,ov,rfl,by rw[ht];exact ho,x⟩
  .have k1:(l[i].1.toList==n.toList)=false:=by rw[Hi,decide_eq_false hn]
   rw[if_neg hn]at ht
   have ldF:(aD 78 (.pointer (some ⟨b,off+i*2,none⟩))).run pg w'= .ok (.value (.agg #[.string l[i].1,.string ⟨l[i].2.toArray⟩])) w':=Dc (l:=[.string l[i].1,.string ⟨l[i].2.toArray⟩]) rfl λj hj=>by
    match j,hj with
    |0,_=>rw[Wj];exact h1
    |1,_=>exact h2
   simp(disch:=omega)only[SV,d1,hin,h1,JD,k1,ldF]
   refine tJ (cells:= #[.string l[i].1,.string ⟨l[i].2.toArray⟩]) (by decide) (by decide) (by kernel_rfl) λw1 o1 x1 s1=> ?_
   have z:=x.size
   have ho1:=ho.ext x1 (λb _ h=>h)
   refine bO ho1 (m:=1) (news:=[.string l[i].1,.string ⟨l[i].2.toArray⟩]) ?_ (λy hy=> ?_) (by have:=x1.size;omega) ?_ λv3 w3 o3 x3=> ?_
   .exact ⟨_,_,rfl,rfl,λ_=>⟨_,0,rfl,λj hj=>by rw[o1.cell,UQ]⟩⟩
   .simp only[UZ,Vn,or_false]at hy
    rcases hy with rfl|rfl<;>rfl
   .have:(Cd n (l.take i)).length<=l.length:=VG (Wb _ _) (by rw[Vd];omega)
    omega
   .simp (disch:=omega)only[SV,q1]
    refine⟨l.length-(i+1),by omega,i+1,rfl,by omega,v3,rfl, ?_,(x.seq x1).trans x3 λb hb h=>by omega⟩
    rw[ht,IW,UO,Wc]
    exact o3
 .have d1:decide ((i:Int)<(l.length:Int))=false:=by simp;omega
  unfold wD
  simp(disch:=omega)only[SV,d1]
  rw[hRR]
  rw[Vj (by omega)]at ho
  exact⟨ho,x⟩
end Go.Proofs.Ytmhokapokchneaa
namespace Go.Proofs.Ytmhokapokchneaa
open Go Go.En Go.Pu
set_option maxRecDepth 4000
variable {Z : Nat -> Prop}
theorem Dh.part {w:Wm}{a:Option Addr}{c i j:Nat}{l:aX}(h:Dh Z w (.slice a l.length c) l)(hij:i<=j)(hj:j<=l.length)(hc:l.length<=c):Cl w 2 (.slice (lN a c i 2) (j-i) (c-i)) ((l.drop i).take (j-i)).length (Kh ((l.drop i).take (j-i))):=by
 have hln:((l.drop i).take (j-i)).length=j-i:=by rw[Vd,Vs];omega
 obtain⟨⟨a',c',he,hl,hh⟩,_⟩:=h
 simp only[Value.slice.injEq]at he
 obtain⟨rfl,-,rfl⟩:=he
 rw[hln]
 refine⟨_,_,rfl,by rw[Ew,hln],λh0=> ?_⟩
 obtain⟨b,off,rfl,h2⟩:=hh (by omega)
 have hs:lN (some ⟨b,off,none⟩) c i 2=some ⟨b,off+i*2,none⟩:=by
  unfold lN
  rw[if_neg (by omega)]
  simp[Addr.add]
 refine⟨b,off+i*2,hs,λx hx=> ?_⟩
 rw[Ew,hln]at hx
 have hd:Kh l=Kh (l.take i)++Kh ((l.drop i).take (j-i))++Kh ((l.drop i).drop (j-i)):=by
  rw[<-IW,<-IW,VE,VA,VA]
 have h3:=h2 (i*2+x) (by rw[Ew];omega)
 have hti:(Kh (l.take i)).length=i*2:=by rw[Ew,Vd,V6 (by omega)]
 rw[hd,U8 (by rw[UO,hti,Ew,hln];omega),VR (by omega),hti,Nat.add_sub_cancel_left]at h3
 rw[VC]
 exact h3
theorem OG{α:Type}{p:α->Bool}:∀{l:List α} {i:Nat},i<=l.length->(∀j (hj:j<l.length),j<i->p l[j]=true)->(∀hi:i<l.length,p l[i]=false)->l.takeWhile p=l.take i/\l.dropWhile p=l.drop i
 |[],i,_,_,_=>by simp
 |a::l,0,_,_,h=>by
  have h0:p a=false:=h (by simp)
  rw[List.takeWhile_cons,List.dropWhile_cons,if_neg (by rw[h0];decide),if_neg (by rw[h0];decide)]
  exact⟨rfl,rfl⟩
 |a::l,i+1,hi,h1,h2=>by
  have h0:p a=true:=h1 0 (by simp) (by omega)
  obtain⟨h3,h4⟩:=OG (p:=p) (l:=l) (i:=i) (by simp at hi;omega) (λj hj hji=>by
   have:=h1 (j+1) (by simp;omega) (by omega)
   simpa using this) (λhh=>by
   have:=h2 (by simp;omega)
   simpa using this)
  rw[List.takeWhile_cons,List.dropWhile_cons,if_pos h0,if_pos h0,h3,h4]
  exact⟨rfl,rfl⟩
theorem Hg(n:ByteArray)(l:aX):(Cd n l).length<=l.length:=Wb _ _
theorem OB{v:Wn}{l:aX}{n:ByteArray}{b:List UInt8}{w:Wm}(h:Dh Z w v l)(hl:l.length<=100000):
 aH pg uK #[v,.agg #[.string n,.string ⟨b.toArray⟩]] w (λr w'=>Dh Z w' r (PE n b l)/\aJ w w' bR):=by
 refine IK ?_
 obtain⟨RR,hRR⟩:∃RR:Wn->Wm->Prop,RR=λr w'=>Dh Z w' r (PE n b l)/\aJ w w' bR:=⟨_,rfl⟩
 rw[<-hRR]
 unfold JN FF FE
 refine kG λw1 o1 x1 s1=> ?_
 have o1:bE w1 w.heap.size [.string n,.string ⟨b.toArray⟩]:=o1
 obtain⟨fb,hfb⟩:∃fb,fb=w.heap.size:=⟨_,rfl⟩
 rw[<-hfb]at o1⊢
 have cf:∀{w'},aJ w1 w' bR->w'.cell? ⟨fb,0,none⟩=some (.string n):=λx=>(o1.ext x (λh=>h)).cell (off:=0)
 have cf1:=cf (aJ.refl w1 bR)
 simp(disch:=omega)only[SV,cf1]
 refine(JT (h.new x1) (by omega)).mono ?_
 rintro r w2 ⟨ho,x2⟩
 have hlen:=Hg n l
 obtain⟨l1,hl1⟩:∃l1,l1=Cd n l:=⟨_,rfl⟩
 rw[<-hl1]at ho hlen
 have hZ:=h.2.2
 have hcl:Dh Z w2 r l1:=⟨ho.cl,Lg ho λb hb=>Vb (hZ b hb) x1.size,λb hb=>Vb (hZ b hb) (x1.seq x2).size⟩
 obtain⟨a,c,hr,hcap⟩:∃a c,r= .slice a l1.length c/\l1.length<=c:=by
  rcases ho.2 with⟨h1,h2⟩|⟨bb,c,rest,h1,_,_,_,h5⟩
  .exact ⟨none,0,by rw[h1,h2],by omega⟩
  .exact ⟨_,c,h1,h5⟩
 subst hr
 clear ho
 unfold BF xG
 refine bL.rule (λm (t:Wn) w'=>∃i:Nat,m=l1.length-i/\i<=l1.length/\t= .int .i64 (i:Nat)/\aJ w2 w' bR/\∀j (hj:j<l1.length),j<i->fW l1[j].1 n=true) l1.length
  ⟨0,rfl,by omega,rfl,aJ.refl _ _,λj _ h=>by omega⟩ ?_
 rintro m t w3 ⟨i,rfl,hi,rfl,x3,hlt⟩
 have x3d:aJ w2 (dr w3) bR:=x3.seq (aJ.dr _ _)
 have fin:(∀hi:i<l1.length,fW l1[i].1 n=false)->xF RR (.slice a l1.length c) (.pointer (some ⟨fb,0,none⟩)) (.int .i64 (i:Nat)) (dr w3):=λhge=>by
  obtain⟨ht,hd⟩:=OG (p:=λp:ByteArray×List UInt8=>fW p.1 n) hi hlt hge
  unfold xF
  have hc3:=hcl.new x3d
  have hin:(i:Int).toNat=i:=U3 _
  have hpre:=hc3.part (i:=0) (j:=i) (by omega) hi hcap
  rw[List.drop_zero]at hpre
  have z1:i-0=i:=rfl
  rw[z1]at hpre
  simp(disch:=omega)only[SV,hin]
  have hn0:zC (dr w3) (dr w3).heap.size 2 (.slice none 0 0) 0 []:=zC.nil _ _ _
  have htl:(l1.take i).length=i:=by rw[Vd,V6 hi]
  refine bO hn0 hpre (Ox _) (U0 _) (by omega) λv4 w4 o4 x4=> ?_
  rw[Vm,UQ,htl]at o4
  have x24:aJ w2 w4 bR:=x3d.trans x4 λy hy hh=>by have:=x3d.size;omega
  have x14:aJ w1 w4 bR:=x2.seq x24
  have ldF:(aD 78 (.pointer (some ⟨fb,0,none⟩))).run pg w4= .ok (.value (.agg #[.string n,.string ⟨b.toArray⟩])) w4:=Db (off:=0) (o1.ext x14 (λh=>h)) (by simp)
  simp(disch:=omega)only[SV,ldF]
  refine tJ (cells:= #[.string n,.string ⟨b.toArray⟩]) (by decide) (by decide) (by kernel_rfl) λw5 o5 x5 s5=> ?_
  have z4:=x4.size
  refine bO (o4.ext x5 (λ_ _ h=>h)) (m:=1) (news:=[.string n,.string ⟨b.toArray⟩]) ?_ (λy hy=> ?_) (by have:=x5.size;omega) (by omega) λv6 w6 o6 x6=> ?_
  .exact ⟨_,_,rfl,rfl,λ_=>⟨_,0,rfl,λj hj=>by rw[o5.cell,UQ]⟩⟩
  .simp only[UZ,Vn,or_false]at hy
   rcases hy with rfl|rfl<;>rfl
  have x26:aJ w2 w6 bR:=(x24.seq x5).trans x6 λy hy hh=>by have:=x3d.size;omega
  have hsuf:=(hcl.new x26).part (i:=i) (j:=l1.length) hi (U0 _) hcap
  rw[<-Vs,Vj (U0 _),Vs]at hsuf
  try simp(disch:=omega)only[SV,hin]
  have hdl:(l1.drop i).length=l1.length-i:=Vs
  refine bO o6 hsuf (Ox _) (by have:=x5.size;have:=x6.size;omega) (by omega) λv7 w7 o7 x7=> ?_
  rw[hRR]
  have hfin:PE n b l=l1.take i++(n,b)::l1.drop i:=by
   unfold PE
   rw[<-hl1,ht,hd]
  have x07:aJ w w7 bR:=(x1.seq x2).seq (x26.trans x7 λy hy hh=>by have:=x3d.size;omega)
  refine⟨⟨?_,Lg o7 λb hb=>by have:=hZ b hb;have:=x1.size;have:=x2.size;have:=x3d.size;omega,λb hb=>Vb (hZ b hb) x07.size⟩,x07⟩
  rw[hfin]
  have:=o7.cl
  rw[UO,U6,htl,IW,show Kh ((n,b)::l1.drop i)=[.string n,.string ⟨b.toArray⟩]++Kh (l1.drop i)from rfl,<-VE,show i+((l1.drop i).length+1)=i+1+(l1.drop i).length from by omega]
  first
   |exact this
   |(rw[Vs];exact this)
 unfold BE
 by_cases hil:i<l1.length
 .have d1:decide ((i:Int)<(l1.length:Int))=true:=by simp;omega
  obtain⟨bb,off,c',he,h1,h2⟩:=(hcl.new x3d).at hil
  simp only[Value.slice.injEq]at he
  obtain⟨rfl,-,rfl⟩:=he
  have hin:(i:Int).toNat=i:=U3 _
  have q1:(i:Int)+1=((i+1:Nat):Int):=by omega
  have cf3:=cf (x2.seq x3d)
  cases hb:fW l1[i].1 n with
  |true=>
   have hq:∀j (hj:j<l1.length),j<i+1->fW l1[j].1 n=true:=λj hj hji=>by
    by_cases hj2:j=i
    .subst hj2;exact hb
    .exact hlt j hj (by omega)
   simp(disch:=omega)only[SV,d1,hin,h1,cf3,Nr,hb,q1]
   exact⟨l1.length-(i+1),by omega,i+1,rfl,by omega,rfl,x3d,hq⟩
  |false=>
   have:=fin λ_=>hb
   simp(disch:=omega)only[SV,d1,hin,h1,cf3,Nr,hb]
   exact this
 .have d1:decide ((i:Int)<(l1.length:Int))=false:=by simp;omega
  have:=fin λhh=>absurd hh hil
  simp(disch:=omega)only[SV,d1]
  exact this
end Go.Proofs.Ytmhokapokchneaa
namespace Go.Proofs.Ytmhokapokchneaa
open Go Go.En Go.Pu
set_option maxRecDepth 4000
set_option maxHeartbeats 1000000
variable {Z : Nat -> Prop}
abbrev Rl(o:Bc):List Wn:=[.int .i64 (o.kind:Nat),.string o.name,.string o.other,.int .i64 (o.at':Nat),.string ⟨o.bytes.toArray⟩]
def Ou(Z:List UInt8)(a:Nat)(b:List UInt8)(i:Nat):List UInt8:=Z.take a++b.take i++Z.drop (a+i)
theorem QD(Z:List UInt8)(a:Nat)(b:List UInt8):Ou Z a b 0=Z:=by
 unfold Ou
 rw[List.take_zero,VW,Wj,VA]
theorem Ov{Z:List UInt8}{a:Nat}{b:List UInt8}{i:Nat}(h:a+b.length<=Z.length)(hi:i<=b.length):(Ou Z a b i).length=Z.length:=by
 unfold Ou
 rw[UO,UO,Vd,Vd,Vs];omega
theorem QC{Z:List UInt8}{a:Nat}{b:List UInt8}{i:Nat}(h:a+b.length<=Z.length)(hi:i<b.length):(Ou Z a b i).set (a+i) b[i]=Ou Z a b (i+1):=by
 unfold Ou
 have hl:(Z.take a++b.take i).length=a+i:=by rw[UO,Vd,Vd];omega
 rw[List.set_append_right _ _ (by omega),hl,Nat.sub_self,Vv (by omega),U7,show b.take (i+1)=b.take i++[b[i]]from VH hi]
 simp only[VE,V9,Vm,VC]
theorem RT{old:List UInt8}{a:Nat}{b:List UInt8}:Ou (old++List.replicate (max old.length (a+b.length)-old.length) 0) a b b.length=over old a b:=by
 unfold Ou over
 rw[Vj (U0 _)]
theorem QN{v:Wn}{l:aX}{o:Bc}{w:Wm}(h:Dh Z w v l)(hl:l.length<=100000)(hk:o.kind<=2)(ha:o.at'<=1000000000)(hbl:o.bytes.length<=1000000000)(hf:∀b,bC o.name l=some b->b.length<=1000000000):
 aH pg sM #[v,.agg (Rl o).toArray] w (λr w'=>Dh Z w' r (JE o l)/\aJ w w' bR):=by
 refine Kg ?_
 obtain⟨RR,hRR⟩:∃RR:Wn->Wm->Prop,RR=λr w'=>Dh Z w' r (JE o l)/\aJ w w' bR:=⟨_,rfl⟩
 rw[<-hRR]
 unfold Mv G7 G6
 refine kG λw1 o1 x1 s1=> ?_
 have o1:bE w1 w.heap.size (Rl o):=o1
 obtain⟨ob,hob⟩:∃ob,ob=w.heap.size:=⟨_,rfl⟩
 rw[<-hob]at o1⊢
 have co:∀{w'},aJ w1 w' bR->w'.cell? ⟨ob,0,none⟩=some (.int .i64 (o.kind:Nat))/\w'.cell? ⟨ob,1,none⟩=some (.string o.name)/\w'.cell? ⟨ob,2,none⟩=some (.string o.other)/\w'.cell? ⟨ob,3,none⟩=some (.int .i64 (o.at':Nat))/\w'.cell? ⟨ob,4,none⟩=some (.string ⟨o.bytes.toArray⟩):=λx=>
  ⟨(o1.ext x (λh=>h)).cell (off:=0),(o1.ext x (λh=>h)).cell (off:=1),(o1.ext x (λh=>h)).cell (off:=2),(o1.ext x (λh=>h)).cell (off:=3),(o1.ext x (λh=>h)).cell (off:=4)⟩
 obtain⟨c0,c1,c2,c3,c4⟩:=co (aJ.refl w1 bR)
 simp(disch:=omega)only[SV,c1,UQ]
 refine(G8 (h.new x1) (by omega)).mono ?_
 rintro r w2 ⟨hw,hr⟩
 rw[hw];clear hw w2
 have go:∀(i:Int) (ov:List UInt8),ov=(bC o.name l).getD []->(i<0↔bC o.name l=none)->(-1<=i/\i<=1000000)->zI RR v (.pointer (some ⟨ob,0,none⟩)) (.int .i64 i) (.string ⟨ov.toArray⟩) w1:=by
  intro i ov hov hi hib
  unfold zI Cv G5 Cu
  by_cases hk0:o.kind=0
  .have d1:(((o.kind:Nat):Int)==0)=true:=by rw[hk0]<;>rfl
   unfold G3 G2
   simp(disch:=omega)only[SV,c0,d1,UQ]
   refine F1 λw3 cc hs x3 s3 hown=> ?_
   obtain⟨rr,hown,hcc⟩:=hown
   have hsz:(⟨ov.toArray⟩:ByteArray).size=ov.length:=by simp[ByteArray.size]
   have hdt:(⟨ov.toArray⟩:ByteArray).data.toList=ov:=by simp
   rw[hdt]at hown
   rw[hsz]at hcc⊢
   have hos:zC w3 w1.heap.size 1 (.slice (some ⟨w1.heap.size,0,none⟩) ov.length cc) (ov.length+0) ((ov++List.replicate 0 0).map zD):=by
    refine⟨by simp,.inr ⟨_,cc,List.replicate rr (.int .u8 0),rfl,U0 _, ?_, ?_,by omega⟩⟩
    .rw [List.replicate_zero,VW];exact hown
    .simp;omega
   have hovl:ov.length<=1000000000:=by
    rw[hov]
    cases hg:bC o.name l with
    |none=>simp
    |some b=>exact hf b hg
   obtain⟨N,hN⟩:∃N,N=max ov.length (o.at'+o.bytes.length):=⟨_,rfl⟩
   have hbsz:(⟨o.bytes.toArray⟩:ByteArray).size=o.bytes.length:=by simp[ByteArray.size]
   unfold Ct zH
   refine bL.rule (λm (t:Wn) w'=>∃k:Nat,m=N-(ov.length+k)/\ov.length+k<=N/\zC w' w1.heap.size 1 t (ov.length+k) ((ov++List.replicate k 0).map zD)/\aJ w1 w' bR) (N-(ov.length+0))
    ⟨0,rfl,by omega,hos,x3⟩ ?_
   rintro m t w4 ⟨kz,rfl,hkz,ho4,x4⟩
   obtain⟨ta,tc,htv⟩:=ho4.len
   subst htv
   obtain⟨f0,f1,f2,f3,f4⟩:=co x4
   have q1:((o.at':Nat):Int)+((o.bytes.length:Nat):Int)=((o.at'+o.bytes.length:Nat):Int):=by omega
   have z14:=x4.size
   unfold Cs
   by_cases hlt:ov.length+kz<o.at'+o.bytes.length
   .have d2:decide (((ov.length+kz:Nat):Int)<((o.at'+o.bytes.length:Nat):Int))=true:=by simp only[decide_eq_true_eq];omega
    simp(disch:=omega)only[SV,f3,f4,hbsz,q1,d2,UQ]
    refine HZ (cells:= #[.int .u8 0]) (by decide) (by decide) (by kernel_rfl) λw5 o5 x5 s5=> ?_
    refine xO (ho4.ext x5 (λ_ _ h=>h)) (m:=1) (news:=[.int .u8 0]) ?_ (λy hy=> ?_) (by have:=x5.size;omega) (by omega) λv6 w6 o6 x6=> ?_
    .exact ⟨_,_,rfl,rfl,λ_=>⟨_,0,rfl,λj hj=>by rw[o5.cell,UQ]⟩⟩
    .rw [VZ]at hy;rw[hy]<;>rfl
    refine⟨N-(ov.length+(kz+1)),by omega,kz+1,rfl,by omega, ?_,(x4.seq x5).trans x6 λy hy hh=>by omega⟩
    rw[List.replicate_succ',<-VE,VF,<-VC]
    exact o6
   have d2:decide (((ov.length+kz:Nat):Int)<((o.at'+o.bytes.length:Nat):Int))=false:=by simp only[decide_eq_false_iff_not];omega
   have hNk:ov.length+kz=N:=by omega
   obtain⟨Z,hZ⟩:∃Z,Z=ov++List.replicate kz (0:UInt8):=⟨_,rfl⟩
   have hZl:Z.length=N:=by rw[hZ,UO,Vz];omega
   rw[<-hZ,hNk]at ho4
   rw[hNk]at d2⊢
   simp(disch:=omega)only[SV,f3,f4,hbsz,q1,d2,UQ]
   unfold Cr D7 Ik A7
   refine bL.rule (λm (t:Wn) w'=>∃k:Nat,m=o.bytes.length-k/\k<=o.bytes.length/\t= .int .i64 (k:Nat)/\zC w' w1.heap.size 1 (.slice ta N tc) N ((Ou Z o.at' o.bytes k).map zD)/\aJ w1 w' bR) o.bytes.length
    ⟨0,rfl,by omega,rfl,by rw[QD];exact ho4,x4⟩ ?_
   clear ho4 x4 f0 f1 f2 f3 f4 hos hown hs x3 s3 z14
   rintro m t w4 ⟨k,rfl,hkb,rfl,ho4,x4⟩
   obtain⟨f0,f1,f2,f3,f4⟩:=co x4
   have x4d:aJ w1 (dr w4) bR:=x4.seq (aJ.dr _ _)
   obtain⟨g0,g1,g2,g3,g4⟩:=co x4d
   unfold D5
   by_cases hkl:k<o.bytes.length
   .have d3:decide ((k:Int)<((o.bytes.length:Nat):Int))=true:=by simp;omega
    have q2:((o.at':Nat):Int)+(k:Int)=((o.at'+k:Nat):Int):=by omega
    have q3:(k:Int)+1=((k+1:Nat):Int):=by omega
    have hkn:(k:Int).toNat=k:=U3 _
    have han:((o.at'+k:Nat):Int).toNat=o.at'+k:=U3 _
    have hix:=λw=>Eo (k:= .i64) (a:=(k:Int)) ⟨o.bytes.toArray⟩ w (by omega) (by rw[hkn,hbsz];exact hkl)
    have hel:((⟨o.bytes.toArray⟩:ByteArray)[(k:Int).toNat]'(by rw[hkn];show k<ByteArray.size _;rw[hbsz];exact hkl))=o.bytes[k]:=by
     simp only[hkn];rfl
    obtain⟨hbl2,hcs⟩:=ho4
    rcases hcs with⟨_,hN0⟩|⟨bb,c',rest,he,hbb,hown,hcl,hnc⟩
    .omega
    simp only[Value.slice.injEq]at he
    obtain⟨rfl,-,rfl⟩:=he
    have hownd:=aP hown
    have hol:=Ov (Z:=Z) (a:=o.at') (b:=o.bytes) (i:=k) (by omega) hkb
    simp(disch:=omega)only[SV,f4,hbsz,d3,g3,g4,q2,hix,hel,han,UQ]
    refine Q0 hownd rfl (by rw[UO,UU];omega) λw5 o5 x5 s5=> ?_
    have hset:((Ou Z o.at' o.bytes k).map zD++rest).set (o.at'+k) (.int .u8 ((o.bytes[k]).toNat:Nat))=(Ou Z o.at' o.bytes (k+1)).map zD++rest:=by
     rw[Wi _ _ (by rw[UU];omega),<-QC (by omega) hkl,List.map_set]
     rfl
    have o5:bE w5 bb (((Ou Z o.at' o.bytes k).map zD++rest).set (o.at'+k) (.int .u8 ((o.bytes[k]).toNat:Nat))):=o5
    rw[hset]at o5
    have hol2:=Ov (Z:=Z) (a:=o.at') (b:=o.bytes) (i:=k+1) (by omega) hkl
    simp(disch:=omega)only[SV,q3]
    refine⟨o.bytes.length-(k+1),by omega,k+1,rfl,by omega,rfl,⟨by rw[UU];omega,.inr ⟨bb,_,rest,rfl,hbb,o5, ?_,hnc⟩⟩,x4d.trans x5 λy hy hh=>by omega⟩
    rw[<-hcl,UO,UO,UU,UU,hol,hol2]
   .have d3:decide ((k:Int)<((o.bytes.length:Nat):Int))=false:=by simp;omega
    have hkk:k=o.bytes.length:=by omega
    subst hkk
    have hfin:Ou Z o.at' o.bytes o.bytes.length=over ov o.at' o.bytes:=by
     rw[hZ,show kz=max ov.length (o.at'+o.bytes.length)-ov.length from by omega]
     exact RT
    rw[hfin]at ho4
    have hbs:Bs w4 (.slice ta N tc) (over ov o.at' o.bytes):=ho4.sl
    have hcv:=kP hbs
    unfold D3
    simp(disch:=omega)only[SV,f4,hbsz,d3,f1,hcv,UQ]
    refine(OB (h.new (x1.seq x4)) (by omega)).mono ?_
    rintro r w5 ⟨hr5,x5⟩
    rw[hRR]
    refine⟨?_,(x1.seq x4).seq x5⟩
    unfold JE
    rw[if_pos hk0,<-hov]
    exact hr5
  .have d1:(((o.kind:Nat):Int)==0)=false:=by rw[beq_eq_false_iff_ne];omega
   unfold G4 DZ Ij
   cases hg:bC o.name l with
   |none=>
    have d2:decide (i<0)=true:=by simp[hi.2 hg]
    simp(disch:=omega)only[SV,c0,d1,UQ,d2]
    rw[hRR]
    refine⟨?_,x1⟩
    unfold JE
    rw[if_neg hk0,hg]
    exact h.new x1
   |some old=>
    have d2:decide (i<0)=false:=by
     rw[decide_eq_false_iff_not]
     intro hh
     rw[hi.1 hh]at hg
     cases hg
    rw[hg,VI]at hov
    subst hov
    simp(disch:=omega)only[SV,c0,d1,c1,UQ,d2]
    refine(JT (h.new x1) (by omega)).mono ?_
    rintro r w3 ⟨ho,x3⟩
    have hfl:Dh Z w3 r (Cd o.name l):=⟨ho.cl,Lg ho λb hb=>Vb (h.2.2 b hb) x1.size,λb hb=>Vb (h.2.2 b hb) (x1.seq x3).size⟩
    obtain⟨e0,e1,e2,e3,e4⟩:=co x3
    have hlen:=Hg o.name l
    unfold DY
    by_cases hk1:o.kind=1
    .have d3:(((o.kind:Nat):Int)==1)=true:=by rw[hk1]<;>rfl
     simp(disch:=omega)only[SV,e0,d3,e2,UQ]
     refine(OB hfl (by omega)).mono ?_
     rintro r w4 ⟨hr4,x4⟩
     rw[hRR]
     refine⟨?_,(x1.seq x3).seq x4⟩
     unfold JE
     rw[if_neg hk0,hg]
     simp only[hk1,if_true]
     exact hr4
    .have d3:(((o.kind:Nat):Int)==1)=false:=by rw[beq_eq_false_iff_ne];omega
     simp(disch:=omega)only[SV,e0,d3,UQ]
     rw[hRR]
     refine⟨?_,x1.seq x3⟩
     unfold JE
     rw[if_neg hk0,hg]
     simp only[hk1,if_false]
     exact hfl
 rcases hr with⟨hg,rfl⟩|⟨i,hi,hg,hn,rfl⟩
 .have d1:decide ((0:Int)<=(-1:Int))=false:=by decide
  have:=go (-1) [] (by rw[hg]<;>rfl) ⟨λ_=>hg,λ_=>by decide⟩ (by decide)
  simp(disch:=omega)only[SV,d1]
  exact this
 .have d1:decide ((0:Int)<=((i:Nat):Int))=true:=by simp
  obtain⟨bb,off,c',rfl,h1,h2⟩:=(h.new x1).at hi
  have hin:(i:Int).toNat=i:=U3 _
  have:=go i l[i].2 (by rw[hg]<;>rfl) ⟨λhh=>by omega,λhh=>by rw[hg]at hh;cases hh⟩ (by omega)
  simp(disch:=omega)only[SV,d1,hin,h2]
  exact this
structure vE where
 room:Int
 sure:aX
 way:List Bc
 left:Int
 down:Bool
def cI(D:vE):aX:=D.way.foldl (λl o=>JE o l) D.sure
abbrev IM(l:List Bc):List Wn:=l.flatMap Rl
abbrev uA(D:vE)(sv wv:Wn):List Wn:=[.int .i64 D.room,sv,wv,.int .i64 D.left,.bool D.down]
structure Cc(Z:Nat->Prop)(w:Wm)(D:vE)(sv wv:Wn):Prop where
 sure:Dh Z w sv D.sure
 way:Cl w 5 wv D.way.length (IM D.way)
 wz:¬CR wv Z
def FB(l:aX):Prop:=∀n b,bC n l=some b->b.length<=1000000000
structure OP(D:vE):Prop where
 fs:FB D.sure
 ops:∀o∈D.way,o.kind<=2/\o.at'+o.bytes.length<=1000000000
 len:D.sure.length+D.way.length<=50000
theorem Cc.new {w w':Wm}{D:vE}{sv wv:Wn}(h:Cc Z w D sv wv)(x:aJ w w' bR):Cc Z w' D sv wv:=⟨h.sure.new x,H0 h.way x (kD _),h.wz⟩
theorem QO{o:Bc}{l:aX}(h:FB l)(ho:o.at'+o.bytes.length<=1000000000):FB (JE o l):=by
 intro n b hb
 unfold JE at hb
 split at hb
 .rw [GK]at hb
  split at hb
  .cases hb
   rw[tS]
   have:((bC o.name l).getD []).length<=1000000000:=by
    cases hg:bC o.name l with
    |none=>simp
    |some c=>exact h _ _ hg
   omega
  .exact h _ _ hb
 .split at hb
  .exact h _ _ hb
  .rename_i old hg
   split at hb
   .rw [GK]at hb
    split at hb
    .cases hb;exact h _ _ hg
    .rw [DJ]at hb
     split at hb
     .cases hb
     .exact h _ _ hb
   .rw [DJ]at hb
    split at hb
    .cases hb
    .exact h _ _ hb
theorem Oz{n:ByteArray}{b:List UInt8}{l:aX}:(PE n b l).length<=l.length+1:=by
 have h1:=Hg n l
 have h2:(Cd n l).length=((Cd n l).takeWhile (λp=>fW p.1 n)++(Cd n l).dropWhile (λp=>fW p.1 n)).length:=by rw[List.takeWhile_append_dropWhile]
 rw[UO]at h2
 unfold PE
 rw[UO,U6];omega
theorem Lm{o:Bc}{l:aX}:(JE o l).length<=l.length+1:=by
 unfold JE
 split
 .exact Oz
 .split
  .omega
  .split
   .have:=Oz (n:=o.other) (b:=‹List UInt8›) (l:=Cd o.name l)
    have:=Hg o.name l
    omega
   .have:=Hg o.name l
    omega
theorem El:∀(ops:List Bc) {l:aX},FB l->(∀o∈ops,o.kind<=2/\o.at'+o.bytes.length<=1000000000)->FB (ops.foldl (λl o=>JE o l) l)/\(ops.foldl (λl o=>JE o l) l).length<=l.length+ops.length
 |[],l,h,_=>⟨h,U0 _⟩
 |o::ops,l,h,ho=>by
  have h1:=QO h (ho o Va).2
  obtain⟨h2,h3⟩:=El ops h1 λx hx=>ho x (UX _ hx)
  refine⟨h2,VG h3 ?_⟩
  have:=Lm (o:=o) (l:=l)
  rw[U6];omega
theorem Q9 (l:List Bc):(IM l).length=l.length*5:=by
 induction l with
 |nil=>rfl
 |cons p r ih=>simp only[IM,VQ,UO,U6,VY]at ih⊢;omega
theorem IZ:∀{l:List Bc} {i j:Nat} (hi:i<l.length),j<5->(IM l)[i*5+j]?=(Rl l[i])[j]?
 |p::r,0,j,_,hj=>by
  show(Rl p++IM r)[0*5+j]?=_
  rw[U8 (by simpa using hj),Wl,UQ]
  rfl
 |p::r,i+1,j,hi,hj=>by
  have h:=IZ (l:=r) (i:=i) (j:=j) (by simp at hi;omega) hj
  show(Rl p++IM r)[(i+1)*5+j]?=_
  rw[VR (by simp;omega),show(i+1)*5+j-(Rl p).length=i*5+j from by simp;omega]
  exact h
theorem Cc.op {w:Wm}{D:vE}{sv wv:Wn}(h:Cc Z w D sv wv){i:Nat}(hi:i<D.way.length):∃a off c,wv= .slice (some ⟨a,off,none⟩) D.way.length c/\(aD 71 (.pointer (some ⟨a,off+i*5,none⟩))).run pg w= .ok (.value (.agg (Rl D.way[i]).toArray)) w:=by
 obtain⟨a,c,hv,hl,hh⟩:=h.way
 obtain⟨b,off,rfl,h2⟩:=hh (by omega)
 refine⟨b,off,c,hv,De (l:=Rl D.way[i]) rfl λj hj=> ?_⟩
 have hj:j<5:=hj
 rw[VC,h2 _ (by rw[Q9];omega),IZ hi hj]
theorem Ex{D:vE}{sv wv:Wn}{w:Wm}(h:Cc Z w D sv wv)(hB:OP D):
 aH pg nZ #[.agg (uA D sv wv).toArray] w (λr w'=>Dh Z w' r (cI D)/\aJ w w' bR):=by
 refine IH ?_
 obtain⟨RR,hRR⟩:∃RR:Wn->Wm->Prop,RR=λr w'=>Dh Z w' r (cI D)/\aJ w w' bR:=⟨_,rfl⟩
 rw[<-hRR]
 unfold JK Fx Fw
 refine kG λw1 o1 x1 s1=> ?_
 obtain⟨db,hdb⟩:∃db,db=w.heap.size:=⟨_,rfl⟩
 obtain⟨sa,sc,hsv⟩:=h.sure.len
 obtain⟨wa,wc,hwv,_⟩:=h.way
 have o1:bE w1 w.heap.size (uA D sv wv):=by
  have:(Value.agg (uA D sv wv).toArray).cells.toList=uA D sv wv:=by
   subst hsv;subst hwv;rfl
  rw[this]at o1
  exact o1
 rw[<-hdb]at o1⊢
 have cd:∀{w'},aJ w1 w' bR->w'.cell? ⟨db,1,none⟩=some sv/\w'.cell? ⟨db,2,none⟩=some wv:=λx=>
  ⟨(o1.ext x (λh=>h)).cell (off:=1),(o1.ext x (λh=>h)).cell (off:=2)⟩
 obtain⟨c1,c2⟩:=cd (aJ.refl w1 bR)
 have hn:=hB.len
 simp(disch:=omega)only[SV,c1,UQ]
 unfold BA Bz Fv xC
 refine bL.rule (λm (t:Wn×Wn) w'=>∃(i:Nat) (lv:Wn),m=D.way.length-i/\i<=D.way.length/\t=(lv,.int .i64 (i:Nat))/\Dh Z w' lv ((D.way.take i).foldl (λl o=>JE o l) D.sure)/\aJ w1 w' bR) D.way.length
  ⟨0,sv,rfl,by omega,rfl,h.sure.new x1,aJ.refl _ _⟩ ?_
 rintro m t w2 ⟨i,lv,rfl,hi,rfl,hlv,x2⟩
 obtain⟨d1,d2⟩:=cd x2
 have d2':=d2
 rw[hwv]at d2'
 unfold By
 by_cases hlt:i<D.way.length
 .have k1:decide ((i:Int)<(D.way.length:Int))=true:=by simp;omega
  obtain⟨a,off,c',he,hld⟩:=(h.new (x1.seq x2)).op hlt
  rw[he]at d2
  have hin:(i:Int).toNat=i:=U3 _
  have q1:(i:Int)+1=((i+1:Nat):Int):=by omega
  have hops:=hB.ops _ (VU hlt)
  obtain⟨hfb,hfl⟩:=El (D.way.take i) hB.fs (λo ho=>hB.ops o (Wg ho))
  rw[Vd]at hfl
  simp(disch:=omega)only[SV,d2,k1,hin,hld,UQ]
  refine(QN hlv (by omega) hops.1 (by omega) (by omega) (λb hb=>hfb _ _ hb)).mono ?_
  rintro r w3 ⟨hr,x3⟩
  simp(disch:=omega)only[SV,q1]
  refine⟨D.way.length-(i+1),by omega,i+1,r,rfl,by omega,rfl, ?_,x2.seq x3⟩
  rw[VH hlt,List.foldl_append]
  exact hr
 .have k1:decide ((i:Int)<(D.way.length:Int))=false:=by simp;omega
  unfold Bx
  simp(disch:=omega)only[SV,d2',k1,UQ]
  rw[hRR]
  rw[Vj (by omega)]at hlv
  exact⟨hlv,x1.seq x2⟩
theorem wA{w:Wm}{D:vE}{sv wv:Wn}(h:Cc Z w D sv wv):(Value.agg (uA D sv wv).toArray).cells.toList=uA D sv wv:=by
 obtain⟨sa,sc,hsv⟩:=h.sure.len
 obtain⟨wa,wc,hwv,_⟩:=h.way
 subst hsv;subst hwv;rfl
theorem zG{w:Wm}{D:vE}{sv wv:Wn}(h:Cc Z w D sv wv):∀x∈uA D sv wv,one x=true:=by
 obtain⟨sa,sc,hsv⟩:=h.sure.len
 obtain⟨wa,wc,hwv,_⟩:=h.way
 subst hsv;subst hwv
 intro x hx
 simp only[UZ,Vn,or_false]at hx
 rcases hx with rfl|rfl|rfl|rfl|rfl<;>rfl
def G9 (D:vE)(n:ByteArray):List UInt8×Int:=if D.down then([],20)else match bC n (cI D)with
 |none=>([],21)
 |some b=>(b,0)
theorem R3 {D:vE}{sv wv:Wn}{n:ByteArray}{w:Wm}(h:Cc Z w D sv wv)(hB:OP D):
 aH pg uI #[.agg (uA D sv wv).toArray,.string n] w (λr w'=>r= .tuple #[.string ⟨(G9 D n).1.toArray⟩,.int .i64 (G9 D n).2]/\aJ w w' bR):=by
 refine IG ?_
 obtain⟨RR,hRR⟩:∃RR:Wn->Wm->Prop,RR=λr w'=>r= .tuple #[.string ⟨(G9 D n).1.toArray⟩,.int .i64 (G9 D n).2]/\aJ w w' bR:=⟨_,rfl⟩
 rw[<-hRR]
 unfold JJ Fu
 refine kG λw1 o1 x1 s1=> ?_
 rw[wA h]at o1
 obtain⟨db,hdb⟩:∃db,db=w.heap.size:=⟨_,rfl⟩
 rw[<-hdb]at o1⊢
 have c4:w1.cell? ⟨db,4,none⟩=some (.bool D.down):=o1.cell (off:=4)
 cases hd:D.down with
 |true=>
  rw[hd]at c4
  simp(disch:=omega)only[SV,c4,UQ]
  rw[hRR]
  refine⟨?_,x1⟩
  unfold G9
  rw[if_pos hd]
 |false=>
  rw[hd]at c4
  have ld:(aD 41 (.pointer (some ⟨db,0,none⟩))).run pg w1= .ok (.value (.agg (uA D sv wv).toArray)) w1:=cC (off:=0) o1 (by simp)
  simp(disch:=omega)only[SV,c4,ld,UQ]
  refine(Ex (h.new x1) hB).mono ?_
  rintro r w2 ⟨hr,x2⟩
  obtain⟨hfb,hfl⟩:=El D.way hB.fs hB.ops
  have hl:(cI D).length<=1000000:=by have:=hB.len;unfold cI;omega
  refine(G8 hr hl).mono ?_
  rintro r2 w3 ⟨hw,hr2⟩
  rw[hw];clear hw w3
  rcases hr2 with⟨hg,rfl⟩|⟨i,hi,hg,hn,rfl⟩
  .have d1:decide ((-1:Int)<0)=true:=by decide
   simp(disch:=omega)only[SV,d1]
   rw[hRR]
   refine⟨?_,x1.seq x2⟩
   unfold G9
   rw[if_neg (by rw[hd];decide),hg]
  .have d1:decide (((i:Nat):Int)<0)=false:=by simp
   obtain⟨bb,off,c',rfl,h1,h2⟩:=hr.at hi
   have hin:(i:Int).toNat=i:=U3 _
   simp(disch:=omega)only[SV,d1,hin,h2]
   rw[hRR]
   refine⟨?_,x1.seq x2⟩
   unfold G9
   rw[if_neg (by rw[hd];decide),hg]
def gB(D:vE):vE×Bool:=if D.left=0 then({D with down:=true},true)else({D with left:=tP D.left},false)
theorem MC{D:vE}{sv wv:Wn}{w:Wm}(h:Cc Z w D sv wv)(hl: -1<=D.left/\D.left<=9223372036854775807):
 aH pg rO #[.agg (uA D sv wv).toArray] w (λr w'=>r= .tuple #[.agg (uA (gB D).1 sv wv).toArray,.bool (gB D).2]/\aJ w w' bR):=by
 refine HM ?_
 obtain⟨RR,hRR⟩:∃RR:Wn->Wm->Prop,RR=λr w'=>r= .tuple #[.agg (uA (gB D).1 sv wv).toArray,.bool (gB D).2]/\aJ w w' bR:=⟨_,rfl⟩
 rw[<-hRR]
 unfold Il Eb Ea
 refine kG λw1 o1 x1 s1=> ?_
 rw[wA h]at o1
 obtain⟨db,hdb⟩:∃db,db=w.heap.size:=⟨_,rfl⟩
 rw[<-hdb]at o1⊢
 refine bY λw2 o2 x2 s2=> ?_
 obtain⟨rb,hrb⟩:∃rb,rb=w1.heap.size:=⟨_,rfl⟩
 rw[<-hrb]at o2⊢
 have o1:=o1.ext x2 (λh=>h)
 have hne:db≠rb:=by omega
 have c3:w2.cell? ⟨db,3,none⟩=some (.int .i64 D.left):=o1.cell (off:=3)
 have h1:=zG h
 have fin:∀(D':vE) (w3:Wm) (K:Wn->Wm->Prop),bE w3 db (uA D' sv wv)->bE w3 rb [.int .i64 0,.slice none 0 0,.slice none 0 0,.int .i64 0,.bool false]->aJ w w3 bR->(∀w4,aJ w w4 bR->K (.agg (uA D' sv wv).toArray) w4)→
     aB pg (aD 41 (.pointer (some ⟨db,0,none⟩))) w3 λt w=>aB pg (aO 41 (.pointer (some ⟨rb,0,none⟩)) t) w λ_u w=>Iq pg 41 (.pointer (some ⟨rb,0,none⟩)) w λr0=>K r0 w:=by
  intro D' w3 K oa ob x3 hK
  have ld:(aD 41 (.pointer (some ⟨db,0,none⟩))).run pg w3= .ok (.value (.agg (uA D' sv wv).toArray)) w3:=cC (off:=0) oa (by simp)
  have h1':∀x∈uA D' sv wv,one x=true:=by
   obtain⟨sa,sc,hsv⟩:=h.sure.len
   obtain⟨wa,wc,hwv,_⟩:=h.way
   subst hsv;subst hwv
   intro x hx
   simp only[UZ,Vn,or_false]at hx
   rcases hx with rfl|rfl|rfl|rfl|rfl<;>rfl
  simp(disch:=omega)only[SV,ld]
  refine iS ob rfl (by simpa using h1') (by simp) λw4 o4 x4 s4=> ?_
  refine iR o4 (by simp[nG]) ?_
  exact hK w4 (x3.trans x4 λy hy hh=>by have:=x1.size;omega)
 have x02:aJ w w2 bR:=x1.seq x2
 by_cases h0:D.left=0
 .have d1:(D.left==0)=true:=by rw[h0]<;>rfl
  simp(disch:=omega)only[SV,c3,d1,UQ]
  refine IX o1 rfl (by simp) λw3 o3 x3 s3=> ?_
  have o3:bE w3 db (uA {D with down:=true} sv wv):=o3
  refine fin _ w3 (λr0 w=>RR (.tuple #[r0,.bool true]) w) o3 (o2.ext x3 (λhh=>hne hh.symm)) (x02.trans x3 λy hy hh=>by omega) λw4 x4=> ?_
  rw[hRR]
  refine⟨?_,x4⟩
  unfold gB
  rw[if_pos h0]
 .have d1:(D.left==0)=false:=beq_eq_false_iff_ne.2 h0
  have hst:gB D=({D with left:=tP D.left},false):=by unfold gB;rw[if_neg h0]
  unfold Az
  by_cases hp:0<D.left
  .have d2:decide ((0:Int)<D.left)=true:=by simpa using hp
   have q1:D.left-1=tP D.left:=by unfold tP;rw[if_pos hp]
   simp(disch:=omega)only[SV,c3,d1,d2,q1,UQ]
   refine Eg o1 rfl (by simp) λw3 o3 x3 s3=> ?_
   have o3:bE w3 db (uA {D with left:=tP D.left} sv wv):=by
    first|exact o3|(rw[<-q1];exact o3)
   refine fin _ w3 (λr0 w=>RR (.tuple #[r0,.bool false]) w) o3 (o2.ext x3 (λhh=>hne hh.symm)) (x02.trans x3 λy hy hh=>by omega) λw4 x4=> ?_
   rw[hRR,hst]
   exact⟨rfl,x4⟩
  .have d2:decide ((0:Int)<D.left)=false:=by simpa using hp
   simp(disch:=omega)only[SV,c3,d1,d2,UQ]
   have q1:tP D.left=D.left:=by unfold tP;rw[if_neg hp]
   refine fin D w2 (λr0 w=>RR (.tuple #[r0,.bool false]) w) o1 o2 x02 λw4 x4=> ?_
   rw[hRR,hst,q1]
   exact⟨rfl,x4⟩
end Go.Proofs.Ytmhokapokchneaa
namespace Go.Proofs.Ytmhokapokchneaa
open Go Go.En Go.Pu
set_option maxRecDepth 4000
set_option maxHeartbeats 4000000
variable {Z : Nat -> Prop}
abbrev MV(k:Nat)(n m:ByteArray)(a:Int)(b:List UInt8):List Wn:=[.int .i64 (k:Nat),.string n,.string m,.int .i64 a,.string ⟨b.toArray⟩]
def oJ(D:vE)(k:Nat)(n m:ByteArray)(a:Int)(b:List UInt8):Int:=
 if D.down then 20 else if(k=1/\tZ m=false)∨(k=0/\a<0)∨(k<2/\tZ n=false)then 1
 else if 0<k then(if bC n (cI D)=none then 21 else 0)
 else if(((bC n (cI D)).getD []).length:Int)<a then 17
 else if D.room<(bG (JE ⟨0,n,m,a.toNat,b⟩ (cI D)):Nat)then 22 else 0
theorem OE(n:ByteArray):(n.toList==(⟨#[]⟩:ByteArray).toList)=decide (n.size=0):=by
 rw[Hi]
 by_cases h:n.size=0
 .rw [decide_eq_true h]
  refine decide_eq_true ?_
  cases n with
  |mk d=>
   have:d.size=0:=h
   rw[Array.eq_empty_of_size_eq_zero this]
 .rw [decide_eq_false h]
  refine decide_eq_false λe=>h ?_
  rw[e]<;>rfl
theorem KC(n:ByteArray):tZ n= !(decide (n.size=0)||decide ((32:Int)<(n.size:Int))):=by
 unfold tZ
 by_cases h:n.size=0
 .rw [decide_eq_true h,decide_eq_false (by omega)]<;>rfl
 .by_cases h2:n.size<=32
  .rw [decide_eq_false h,decide_eq_true (by omega),decide_eq_false (by omega)]<;>rfl
  .rw [decide_eq_false h,decide_eq_false (by omega),decide_eq_true (by omega)]<;>rfl
theorem Nc{l:aX}{i:Nat}(hi:i<l.length):bG (l.take (i+1))=bG (l.take i)+l[i].2.length:=by
 unfold bG
 rw[VH hi,VF,List.sum_append]
 simp
theorem Ff(l:aX)(i:Nat):bG (l.take i)<=bG l:=by
 have:bG l=bG (l.take i)+bG (l.drop i):=by
  unfold bG
  rw[<-List.sum_append,<-VF,VA]
 omega
theorem Pd{D:vE}{sv wv lv:Wn}{l:aX}{db:Nat}{w:Wm}{RR:K1}(o:bE w db (uA D sv wv))(h:Dh Z w lv l)(hl:l.length<=100000)(hz:bG l<=1000000000000)
 (hR:RR (.int .i64 (if D.room<(bG l:Nat)then 22 else 0)) w):rV RR (.pointer (some ⟨db,0,none⟩)) lv (.int .i64 0) w:=by
 obtain⟨a,c,hv⟩:=h.len
 unfold rV BD Fz xE
 refine bL.rule (λm (t:Wn×Wn) w'=>∃i:Nat,m=l.length-i/\i<=l.length/\t=(.int .i64 (bG (l.take i):Nat),.int .i64 (i:Nat))/\w'=w) l.length
  ⟨0,rfl,by omega,rfl,rfl⟩ ?_
 rintro m t w' ⟨i,rfl,hi,rfl,rfl⟩
 subst hv
 have hsz:=Ff l i
 unfold BC
 by_cases hlt:i<l.length
 .have d1:decide ((i:Int)<(l.length:Int))=true:=by simp;omega
  obtain⟨b,off,c',he,h1,h2⟩:=h.at hlt
  simp only[Value.slice.injEq]at he
  obtain⟨rfl,-,rfl⟩:=he
  have hin:(i:Int).toNat=i:=U3 _
  have q1:(i:Int)+1=((i+1:Nat):Int):=by omega
  have hsb:(⟨l[i].2.toArray⟩:ByteArray).size=l[i].2.length:=by simp[ByteArray.size]
  have ht:=Nc hlt
  have hle:=Ff l (i+1)
  have q2:((bG (l.take i):Nat):Int)+((l[i].2.length:Nat):Int)=((bG (l.take (i+1)):Nat):Int):=by omega
  simp(disch:=omega)only[SV,d1,hin,h2,hsb,q1,q2]
  first
   |exact⟨l.length-(i+1),by omega,i+1,rfl,by omega,rfl,rfl⟩
   |exact⟨l.length-(i+1),by omega,i+1,rfl,by omega,rfl⟩
 .have d1:decide ((i:Int)<(l.length:Int))=false:=by simp;omega
  have c0:w'.cell? ⟨db,0,none⟩=some (.int .i64 D.room):=o.cell (off:=0)
  unfold BB
  rw[Vj (by omega)]
  by_cases hr:D.room<((bG l:Nat):Int)
  .have d2:decide (D.room<((bG l:Nat):Int))=true:=decide_eq_true hr
   rw[if_pos hr]at hR
   simp(disch:=omega)only[SV,d1,c0,d2,UQ]
   exact hR
  .have d2:decide (D.room<((bG l:Nat):Int))=false:=decide_eq_false hr
   rw[if_neg hr]at hR
   simp(disch:=omega)only[SV,d1,c0,d2,UQ]
   exact hR
end Go.Proofs.Ytmhokapokchneaa
namespace Go.Proofs.Ytmhokapokchneaa
open Go Go.En Go.Pu
set_option maxRecDepth 4000
set_option maxHeartbeats 8000000
variable {Z : Nat -> Prop}
theorem R1 {D:vE}{sv wv:Wn}{k:Nat}{n m:ByteArray}{a:Int}{b:List UInt8}{w:Wm}(h:Cc Z w D sv wv)(hB:OP D)(hk:k<=2)(hb:b.length<=1000000000)
 (hz:k=0->0<=a->a<=(((bC n (cI D)).getD []).length:Int)->bG (JE ⟨0,n,m,a.toNat,b⟩ (cI D))<=1000000000000):
 aH pg zB #[.agg (uA D sv wv).toArray,.agg (MV k n m a b).toArray] w (λr w'=>r= .int .i64 (oJ D k n m a b)/\aJ w w' bR):=by
 refine IJ ?_
 obtain⟨RR,hRR⟩:∃RR:Wn->Wm->Prop,RR=λr w'=>r= .int .i64 (oJ D k n m a b)/\aJ w w' bR:=⟨_,rfl⟩
 rw[<-hRR]
 have hR:∀(e:Int) w',aJ w w' bR->oJ D k n m a b=e->RR (.int .i64 e) w':=λe w' x he=>by rw[hRR,he];exact⟨rfl,x⟩
 clear hRR
 unfold JM FD FC
 refine kG λw1 o1 x1 s1=> ?_
 rw[wA h]at o1
 obtain⟨db,hdb⟩:∃db,db=w.heap.size:=⟨_,rfl⟩
 rw[<-hdb]at o1⊢
 refine kG λw2 o2 x2 s2=> ?_
 have o2:bE w2 w1.heap.size (MV k n m a b):=o2
 obtain⟨ob,hob⟩:∃ob,ob=w1.heap.size:=⟨_,rfl⟩
 rw[<-hob]at o2⊢
 have x02:=x1.seq x2
 have oD:∀{w'},aJ w2 w' bR->bE w' db (uA D sv wv):=λx=>(o1.ext x2 (λh=>h)).ext x (λh=>h)
 have c4:w2.cell? ⟨db,4,none⟩=some (.bool D.down):=(oD (aJ.refl _ _)).cell (off:=4)
 have co:∀{w'},aJ w2 w' bR->w'.cell? ⟨ob,0,none⟩=some (.int .i64 (k:Nat))/\w'.cell? ⟨ob,1,none⟩=some (.string n)/\w'.cell? ⟨ob,2,none⟩=some (.string m)/\w'.cell? ⟨ob,3,none⟩=some (.int .i64 a)/\w'.cell? ⟨ob,4,none⟩=some (.string ⟨b.toArray⟩):=λx=>
  ⟨(o2.ext x (λh=>h)).cell (off:=0),(o2.ext x (λh=>h)).cell (off:=1),(o2.ext x (λh=>h)).cell (off:=2),(o2.ext x (λh=>h)).cell (off:=3),(o2.ext x (λh=>h)).cell (off:=4)⟩
 obtain⟨f0,f1,f2,f3,f4⟩:=co (aJ.refl w2 bR)
 cases hd:D.down with
 |true=>
  rw[hd]at c4
  simp(maxSteps:=4000000) (disch:=omega)only[aB,bH,UQ,bK,aV,bJ,bD,bP,true_and,tA,nD,zF,c4,fV,jG]
  exact hR _ _ x02 (by unfold oJ;rw[if_pos hd])
 |false=>
 rw[hd]at c4
 have hnd:¬D.down=true:=by rw[hd];decide
 have hmn:=KC n
 have hmm:=KC m
 have kn:=OE n
 have km:=OE m
 have ld:(aD 41 (.pointer (some ⟨db,0,none⟩))).run pg w2= .ok (.value (.agg (uA D sv wv).toArray)) w2:=cC (off:=0) (oD (aJ.refl _ _)) (by simp)
 obtain⟨hfb,hfl⟩:=El D.way hB.fs hB.ops
 have hl:(cI D).length<=50000:=by have:=hB.len;unfold cI;omega
 obtain⟨eN,hEN⟩:∃e,decide (n.size=0)=e:=⟨_,rfl⟩
 obtain⟨gN,hGN⟩:∃e,decide ((32:Int)<(n.size:Int))=e:=⟨_,rfl⟩
 obtain⟨eM,hEM⟩:∃e,decide (m.size=0)=e:=⟨_,rfl⟩
 obtain⟨gM,hGM⟩:∃e,decide ((32:Int)<(m.size:Int))=e:=⟨_,rfl⟩
 rw[hEN]at kn
 rw[hEM]at km
 rw[hEN,hGN]at hmn
 rw[hEM,hGM]at hmm
 clear hEN hEM
 have u1:bB undef false=false:=by kernel_rfl
 have u2:bB undef true=false:=by kernel_rfl
 have t00:(((0:Nat):Int)==0)=true:=rfl
 have t01:(((0:Nat):Int)==1)=false:=rfl
 have t10:(((1:Nat):Int)==0)=false:=rfl
 have t11:(((1:Nat):Int)==1)=true:=rfl
 have t20:(((2:Nat):Int)==0)=false:=rfl
 have t21:(((2:Nat):Int)==1)=false:=rfl
 have l0:decide (((0:Nat):Int)<2)=true:=rfl
 have l1:decide (((1:Nat):Int)<2)=true:=rfl
 have l2:decide (((2:Nat):Int)<2)=false:=rfl
 have p0:decide ((0:Int)<((0:Nat):Int))=false:=rfl
 have p1:decide ((0:Int)<((1:Nat):Int))=true:=rfl
 have p2:decide ((0:Int)<((2:Nat):Int))=true:=rfl
 have hk3:k=0∨k=1∨k=2:=by omega
 rcases hk3 with rfl|rfl|rfl
 .
  by_cases ha:a<0
  .have ka:decide (a<0)=true:=decide_eq_true ha
   have hf:oJ D 0 n m a b=1:=by unfold oJ;rw[if_neg hnd,if_pos (.inr (.inl ⟨rfl,ha⟩))]
   cases eN<;>cases gN<;>(simp(maxSteps:=4000000) (disch:=omega)only[aB,bH,UQ,bK,aV,bJ,bD,bP,true_and,tA,nD,zF,c4,fV,f1,Br,kn,uR,qE,UY,if_false,lT,pE,yW,hGN,f0,GY,t01,uS,kN,u1,t00,vY,if_true,f3,yC,ka,F6,jG,u2,eE];exact hR _ _ x02 hf)
  have ka:decide (a<0)=false:=decide_eq_false ha
  cases hN:tZ n with
  |false=>
   have hf:oJ D 0 n m a b=1:=by unfold oJ;rw[if_neg hnd,if_pos (.inr (.inr ⟨by decide,hN⟩))]
   rw[hN]at hmn
   cases eN<;>cases gN<;>first|(cases hmn;done)|(simp(maxSteps:=4000000) (disch:=omega)only[aB,bH,UQ,bK,aV,bJ,bD,bP,true_and,tA,nD,zF,c4,fV,f1,Br,kn,uR,qE,UY,if_false,lT,pE,yW,hGN,f0,GY,t01,uS,kN,u1,t00,vY,if_true,f3,yC,ka,l0,jG,eE,F6];exact hR _ _ x02 hf)
  |true=>
   rw[hN]at hmn
   have hgood:¬((0=1/\tZ m=false)∨(0=0/\a<0)∨(0<2/\tZ n=false)):=by rw[hN];simp[ha]
   cases eN
   .cases gN
    .simp (maxSteps:=4000000) (disch:=omega)only[aB,bH,UQ,bK,aV,bJ,bD,bP,true_and,tA,nD,zF,c4,fV,f1,Br,kn,uR,qE,UY,if_false,lT,pE,yW,hGN,f0,GY,t01,uS,kN,u1,t00,vY,if_true,f3,yC,ka,l0,ld,eE]
     refine(Ex (h.new x02) hB).mono ?_
     rintro r w3 ⟨hr,x3⟩
     obtain⟨e0,e1,e2,e3,e4⟩:=co x3
     obtain⟨g0,g1,g2,g3,g4⟩:=co (x3.seq (aJ.dr w3 bR))
     simp(maxSteps:=4000000) (disch:=omega)only[e1,fV,aV]
     refine(G8 hr (by omega)).mono ?_
     rintro r2 w4 ⟨hw,hr2⟩
     rw[hw];clear hw w4
     have x0d:aJ w (dr w3) bR:=(x02.seq x3).seq (aJ.dr _ _)
     have fin:¬(((bC n (cI D)).getD []).length:Int)<a->aH pg sM #[r,.agg (MV 0 n m a b).toArray] (dr w3) (λt88 w=>rV RR (.pointer (some ⟨db,0,none⟩)) t88 (.int .i64 0) w):=λhle=>by
      obtain⟨an,rfl⟩:∃an:Nat,a=an:=⟨a.toNat,by omega⟩
      have hg1:((bC n (cI D)).getD []).length<=1000000000:=by
       cases hg:bC n (cI D)with
       |none=>simp
       |some c=>exact hfb _ _ hg
      have hz':=hz rfl (by omega) (by omega)
      rw[U3]at hz'
      refine(QN (o:=⟨0,n,m,an,b⟩) (hr.new (aJ.dr _ _)) (by omega) (Nat.zero_le _) (by show an<=_;omega) hb (λc hc=>hfb _ _ hc)).mono ?_
      rintro r3 w5 ⟨hr3,x5⟩
      have x05:=x0d.seq x5
      refine Pd (D:=D) (sv:=sv) (wv:=wv) (oD ((x3.seq (aJ.dr _ _)).seq x5)) hr3 ?_ hz' ?_
      .have:=Lm (o:=⟨0,n,m,an,b⟩) (l:=cI D);omega
      .refine hR _ _ x05 ?_
       unfold oJ
       rw[if_neg hnd,if_neg hgood,if_neg (by decide),if_neg hle,U3]
     have hf17:(((bC n (cI D)).getD []).length:Int)<a->oJ D 0 n m a b=17:=λhlt=>by
      unfold oJ
      rw[if_neg hnd,if_neg hgood,if_neg (by decide),if_pos hlt]
     have ldo:(aD 71 (.pointer (some ⟨ob,0,none⟩))).run pg (dr w3)= .ok (.value (.agg (MV 0 n m a b).toArray)) (dr w3):=pH (off:=0) (o2.ext (x3.seq (aJ.dr _ _)) (λh=>h)) (by simp)
     rcases hr2 with⟨hg,rfl⟩|⟨i,hi,hg,hn,rfl⟩
     .have k1:decide ((-1:Int)<0)=true:=by decide
      have k2:decide ((0:Int)<= -1)=false:=by decide
      rw[hg]at hf17 fin
      by_cases ha0:0<a
      .have k3:decide ((0:Int)<a)=true:=decide_eq_true ha0
       simp(maxSteps:=4000000) (disch:=omega)only[e0,fV,yC,k1,aV,jG,vY,qE,if_true,true_and,lT,tA,yW,p0,g3,k3,F6,kN,u2,eE]
       exact hR _ _ x0d (hf17 (by simpa using ha0))
      .have k3:decide ((0:Int)<a)=false:=decide_eq_false ha0
       have:=fin (by simpa using ha0)
       simp(maxSteps:=4000000) (disch:=omega)only[e0,fV,yC,k1,aV,jG,vY,qE,if_true,true_and,lT,tA,yW,p0,g3,ldo,k3,uR,UY,if_false,B4,k2,uS,eE,kN]
       exact this
     .have k1:decide (((i:Nat):Int)<0)=false:=by simp
      have k2:decide ((0:Int)<=((i:Nat):Int))=true:=by simp
      have hin:(i:Int).toNat=i:=U3 _
      obtain⟨bb,off,c',rfl,h1,h2⟩:=(hr.new (aJ.dr w3 bR)).at hi
      have hsb:(⟨(cI D)[i].2.toArray⟩:ByteArray).size=(cI D)[i].2.length:=by simp[ByteArray.size]
      rw[hg,VI]at hf17 fin
      by_cases hlt:(((cI D)[i].2.length:Nat):Int)<a
      .have k3:decide ((((cI D)[i].2.length:Nat):Int)<a)=true:=decide_eq_true hlt
       simp(maxSteps:=4000000) (disch:=omega)only[e0,fV,yC,k1,aV,eE,uS,qE,UY,if_false,uR,true_and,lT,B4,k2,vY,if_true,jL,hin,gR,nD,tA,kN,yW,p0,g3,h2,pE,hsb,k3,jG]
       exact hR _ _ x0d (hf17 hlt)
      .have k3:decide ((((cI D)[i].2.length:Nat):Int)<a)=false:=decide_eq_false hlt
       have:=fin hlt
       simp(maxSteps:=4000000) (disch:=omega)only[e0,fV,yC,k1,aV,eE,uS,qE,UY,if_false,uR,true_and,lT,B4,k2,vY,if_true,jL,hin,gR,nD,tA,kN,yW,p0,g3,h2,ldo,pE,hsb,k3]
       exact this
    .cases hmn
   .cases hmn
 .
  by_cases hbad:tZ m=false∨tZ n=false
  .have hf:oJ D 1 n m a b=1:=by
    unfold oJ
    rw[if_neg hnd,if_pos]
    rcases hbad with h|h
    .exact .inl ⟨rfl,h⟩
    .exact .inr (.inr ⟨by decide,h⟩)
   rw[hmn,hmm]at hbad
   cases eN<;>cases gN<;>cases eM<;>cases gM<;>first|(exfalso;revert hbad;decide)|(simp(maxSteps:=4000000) (disch:=omega)only[aB,bH,UQ,bK,aV,bJ,bD,bP,true_and,tA,nD,zF,c4,fV,f1,Br,kn,uR,qE,UY,if_false,lT,pE,yW,hGN,f0,GY,t11,vY,if_true,f2,km,hGM,F6,jG,kN,u2,eE,t10,uS,yC,l1];exact hR _ _ x02 hf)
  .have hm1:tZ m=true:=by cases hq:tZ m with|true=>rfl|false=>exact absurd (.inl hq) hbad
   have hn1:tZ n=true:=by cases hq:tZ n with|true=>rfl|false=>exact absurd (.inr hq) hbad
   have hgood:¬((1=1/\tZ m=false)∨(1=0/\a<0)∨(1<2/\tZ n=false)):=by rw[hm1,hn1];simp
   rw[hm1]at hmm
   rw[hn1]at hmn
   cases eN<;>cases gN<;>cases eM<;>cases gM<;>first|(cases hmn;done)|(cases hmm;done)|skip
   simp(maxSteps:=4000000) (disch:=omega)only[aB,bH,UQ,bK,aV,bJ,bD,bP,true_and,tA,nD,zF,c4,fV,f1,Br,kn,uR,qE,UY,if_false,lT,pE,yW,hGN,f0,GY,t11,vY,if_true,f2,km,hGM,t10,uS,kN,yC,l1,ld,eE]
   refine(Ex (h.new x02) hB).mono ?_
   rintro r w3 ⟨hr,x3⟩
   obtain⟨e0,e1,e2,e3,e4⟩:=co x3
   have x03:=x02.seq x3
   simp(maxSteps:=4000000) (disch:=omega)only[e1,fV,aV]
   refine(G8 hr (by omega)).mono ?_
   rintro r2 w4 ⟨hw,hr2⟩
   rw[hw];clear hw w4
   rcases hr2 with⟨hg,rfl⟩|⟨i,hi,hg,hn,rfl⟩
   .have k1:decide ((-1:Int)<0)=true:=by decide
    simp(maxSteps:=4000000) (disch:=omega)only[e0,fV,yC,k1,aV,jG,vY,qE,if_true,true_and,lT,tA,yW,p1]
    refine hR _ _ x03 ?_
    unfold oJ
    rw[if_neg hnd,if_neg hgood,if_pos (by decide),if_pos hg]
   .have k1:decide (((i:Nat):Int)<0)=false:=by simp
    simp(maxSteps:=4000000) (disch:=omega)only[e0,fV,yC,k1,aV,eE,uS,qE,UY,if_false,uR,true_and,lT,B4,kN,yW,p1,jG]
    refine hR _ _ x03 ?_
    unfold oJ
    rw[if_neg hnd,if_neg hgood,if_pos (by decide),if_neg (by rw[hg];simp)]
 .
  have hgood:¬((2=1/\tZ m=false)∨(2=0/\a<0)∨(2<2/\tZ n=false)):=by simp
  cases eN<;>cases gN
  all_goals
   simp(maxSteps:=4000000) (disch:=omega)only[aB,bH,UQ,bK,aV,bJ,bD,bP,true_and,tA,nD,zF,c4,fV,f1,Br,kn,uR,qE,UY,if_false,lT,pE,yW,hGN,f0,GY,t21,uS,kN,u1,t20,yC,l2,eE,ld,F6,if_true]
   refine(Ex (h.new x02) hB).mono ?_
   rintro r w3 ⟨hr,x3⟩
   obtain⟨e0,e1,e2,e3,e4⟩:=co x3
   have x03:=x02.seq x3
   simp(maxSteps:=4000000) (disch:=omega)only[e1,fV,aV]
   refine(G8 hr (by omega)).mono ?_
   rintro r2 w4 ⟨hw,hr2⟩
   rw[hw];clear hw w4
   rcases hr2 with⟨hg,rfl⟩|⟨i,hi,hg,hn,rfl⟩
   .have k1:decide ((-1:Int)<0)=true:=by decide
    simp(maxSteps:=4000000) (disch:=omega)only[e0,fV,yC,k1,aV,jG,vY,qE,if_true,true_and,lT,tA,yW,p2]
    refine hR _ _ x03 ?_
    unfold oJ
    rw[if_neg hnd,if_neg hgood,if_pos (by decide),if_pos hg]
   .have k1:decide (((i:Nat):Int)<0)=false:=by simp
    simp(maxSteps:=4000000) (disch:=omega)only[e0,fV,yC,k1,aV,eE,uS,qE,UY,if_false,uR,true_and,lT,B4,kN,yW,p2,jG]
    refine hR _ _ x03 ?_
    unfold oJ
    rw[if_neg hnd,if_neg hgood,if_pos (by decide),if_neg (by rw[hg];simp)]
end Go.Proofs.Ytmhokapokchneaa
namespace Go.Proofs.Ytmhokapokchneaa
open Go Go.En Go.Pu
set_option maxRecDepth 4000
set_option maxHeartbeats 2000000
variable {Z : Nat -> Prop}
theorem JO{w w3:Wm}{db rb:Nat}{D':vE}{sv wv:Wn}{cs:List Wn}{K:Wn->Wm->Prop}(h1:∀x∈uA D' sv wv,one x=true)(oa:bE w3 db (uA D' sv wv))(ob:bE w3 rb cs)(hcs:cs.length=5)(hb:w.heap.size<=rb)(x3:aJ w w3 bR)
 (hK:∀w4,aJ w3 w4 (λy=>y=rb)->aJ w w4 bR->K (.agg (uA D' sv wv).toArray) w4):
 aB pg (aD 41 (.pointer (some ⟨db,0,none⟩))) w3 λt w=>aB pg (aO 41 (.pointer (some ⟨rb,0,none⟩)) t) w λ_u w=>Iq pg 41 (.pointer (some ⟨rb,0,none⟩)) w λr0=>K r0 w:=by
 have ld:(aD 41 (.pointer (some ⟨db,0,none⟩))).run pg w3= .ok (.value (.agg (uA D' sv wv).toArray)) w3:=cC (off:=0) oa (by simp)
 simp(disch:=omega)only[SV,ld]
 refine iS ob rfl (by simpa using h1) (by omega) λw4 o4 x4 s4=> ?_
 have hset:nG cs 0 (uA D' sv wv)=uA D' sv wv:=by
  match cs,hcs with
  |[a,b,c,d,e],_=>rfl
 have o4:bE w4 rb (nG cs 0 (uA D' sv wv)):=o4
 rw[hset]at o4
 refine iR o4 (by simp) ?_
 exact hK w4 x4 (x3.trans x4 λy hy hh=>by omega)
def uV(D:vE)(k:Nat)(n m:ByteArray)(a:Int)(b:List UInt8):vE×Int:=
 if oJ D k n m a b≠0 then(D,oJ D k n m a b)
 else if(gB D).2 then((gB D).1,20)
 else({(gB D).1 with way:=D.way++[⟨k,n,m,a.toNat,b⟩]},0)
theorem yE(D:vE):(gB D).1.sure=D.sure/\(gB D).1.way=D.way/\(gB D).1.room=D.room:=by
 unfold gB
 split<;>exact⟨rfl,rfl,rfl⟩
theorem Cc.like {w:Wm}{D D':vE}{sv wv:Wn}(h:Cc Z w D sv wv)(h1:D'.sure=D.sure)(h2:D'.way=D.way):Cc Z w D' sv wv:=⟨h1▸h.sure,h2▸h.way,h.wz⟩
theorem Oy(o:Bc):∀x∈Rl o,one x=true:=λx hx=>by
 simp only[UZ,Vn,or_false]at hx
 rcases hx with rfl|rfl|rfl|rfl|rfl<;>rfl
theorem Ra(l:List Bc):∀x∈IM l,one x=true:=λx hx=>by
 obtain⟨o,-,hx⟩:=List.mem_flatMap.1 hx
 exact Oy o x hx
theorem Ns{D:vE}{sv wv:Wn}{k:Nat}{n m:ByteArray}{a:Int}{b:List UInt8}{w:Wm}(h:Cc Z w D sv wv)(hB:OP D)(hk:k<=2)(hka:k≠0->a=0)(hb:b.length<=1000000000)(hl: -1<=D.left/\D.left<=9223372036854775807)
 (hz:k=0->0<=a->a<=(((bC n (cI D)).getD []).length:Int)->bG (JE ⟨0,n,m,a.toNat,b⟩ (cI D))<=1000000000000):
 aH pg lR #[.agg (uA D sv wv).toArray,.agg (MV k n m a b).toArray] w (λr w'=>∃sv' wv',r= .tuple #[.agg (uA (uV D k n m a b).1 sv' wv').toArray,.int .i64 (uV D k n m a b).2]/\Cc Z w' (uV D k n m a b).1 sv' wv'/\aJ w w' bR):=by
 refine JF ?_
 obtain⟨RR,hRR⟩:∃RR:Wn->Wm->Prop,RR=λr w'=>∃sv' wv',r= .tuple #[.agg (uA (uV D k n m a b).1 sv' wv').toArray,.int .i64 (uV D k n m a b).2]/\Cc Z w' (uV D k n m a b).1 sv' wv'/\aJ w w' bR:=⟨_,rfl⟩
 rw[<-hRR]
 have hR:∀D' e sv' wv' w',uV D k n m a b=(D',e)->Cc Z w' D' sv' wv'->aJ w w' bR->RR (.tuple #[.agg (uA D' sv' wv').toArray,.int .i64 e]) w':=λD' e sv' wv' w' he hv x=>by
  rw[hRR,he]
  exact⟨sv',wv',rfl,hv,x⟩
 clear hRR
 unfold KI GZ
 refine kG λw1 o1 x1 s1=> ?_
 rw[wA h]at o1
 obtain⟨db,hdb⟩:∃db,db=w.heap.size:=⟨_,rfl⟩
 rw[<-hdb]at o1⊢
 refine kG λw2 o2 x2 s2=> ?_
 have o2:bE w2 w1.heap.size (MV k n m a b):=o2
 obtain⟨ob,hob⟩:∃ob,ob=w1.heap.size:=⟨_,rfl⟩
 rw[<-hob]at o2⊢
 refine bY λw3 o3 x3 s3=> ?_
 obtain⟨rb,hrb⟩:∃rb,rb=w2.heap.size:=⟨_,rfl⟩
 rw[<-hrb]at o3⊢
 have x03:aJ w w3 bR:=(x1.seq x2).seq x3
 have oD:bE w3 db (uA D sv wv):=(o1.ext x2 (λh=>h)).ext x3 (λh=>h)
 have oO:bE w3 ob (MV k n m a b):=o2.ext x3 (λh=>h)
 have ld:(aD 41 (.pointer (some ⟨db,0,none⟩))).run pg w3= .ok (.value (.agg (uA D sv wv).toArray)) w3:=cC (off:=0) oD (by simp)
 have lo:(aD 71 (.pointer (some ⟨ob,0,none⟩))).run pg w3= .ok (.value (.agg (MV k n m a b).toArray)) w3:=pH (off:=0) oO (by simp)
 simp(disch:=omega)only[SV,ld,lo]
 refine(R1 (h.new x03) hB hk hb hz).mono ?_
 rintro r w4 ⟨rfl,x4⟩
 have x04:=x03.seq x4
 have h1:=zG h
 have oD4:=oD.ext x4 (λh=>h)
 have oO4:=oO.ext x4 (λh=>h)
 have oR4:=o3.ext x4 (λh=>h)
 by_cases he:oJ D k n m a b=0
 rotate_left
 .have d1:(oJ D k n m a b !=0)=true:=bne_iff_ne.2 he
  have:=JO (w:=w) (K:=λr0 w=>RR (.tuple #[r0,.int .i64 (oJ D k n m a b)]) w) h1 oD4 oR4 rfl (by omega) x04 (λw5 x5 x05=>hR D (oJ D k n m a b) sv wv w5 (by unfold uV;rw[if_pos he]) (h.new x05) x05)
  simp(disch:=omega)only[SV,d1]
  exact this
 have d1:(oJ D k n m a b !=0)=false:=by rw[he]<;>rfl
 have ld4:(aD 41 (.pointer (some ⟨db,0,none⟩))).run pg w4= .ok (.value (.agg (uA D sv wv).toArray)) w4:=cC (off:=0) oD4 (by simp)
 simp(disch:=omega)only[SV,d1,ld4]
 refine(MC (h.new x04) hl).mono ?_
 rintro r w5 ⟨rfl,x5⟩
 obtain⟨k1,k2,k3⟩:=yE D
 obtain⟨E,hE⟩:∃E,E=(gB D).1:=⟨_,rfl⟩
 have hv5:Cc Z w E sv wv:=by rw[hE];exact h.like k1 k2
 have h1E:=zG hv5
 rw[<-hE]
 simp(disch:=omega)only[SV]
 refine iS (oD4.ext x5 (λh=>h)) rfl (by simpa using h1E) (by simp) λw6 o6 x6 s6=> ?_
 have o6:bE w6 db (uA E sv wv):=o6
 have x06:aJ w w6 bR:=(x04.seq x5).trans x6 λy hy hh=>by omega
 have oR6:bE w6 rb [.int .i64 0,.slice none 0 0,.slice none 0 0,.int .i64 0,.bool false]:=(oR4.ext x5 (λh=>h)).ext x6 (λhh=>by omega)
 have oO6:bE w6 ob (MV k n m a b):=(oO4.ext x5 (λh=>h)).ext x6 (λhh=>by omega)
 cases hs:(gB D).2 with
 |true=>
  have:=JO (w:=w) (K:=λr0 w=>RR (.tuple #[r0,.int .i64 20]) w) h1E o6 oR6 rfl (by omega) x06 (λw7 x7 x07=>hR E 20 sv wv w7 (by unfold uV;rw[if_neg (by rw[he];decide),if_pos hs,hE]) (hv5.new x07) x07)
  simp(disch:=omega)only[SV]
  exact this
 |false=>
  have c2:w6.cell? ⟨db,2,none⟩=some wv:=o6.cell (off:=2)
  have ha:0<=a:=by
   by_cases hk0:k=0
   .subst hk0
    unfold oJ at he
    by_cases ha:a<0
    .exfalso
     split at he
     .cases he
     .rw [if_pos (.inr (.inl ⟨rfl,ha⟩))]at he
      cases he
    .omega
   .rw [hka hk0];exact Int.le_refl 0
  obtain⟨an,rfl⟩:∃an:Nat,a=an:=⟨a.toNat,by omega⟩
  obtain⟨wa,wc,hwv,hwl,_⟩:=h.way
  have hway:=(hv5.new x06).way
  have hel:E.way.length=D.way.length:=by rw[hE,k2]
  simp(disch:=omega)only[SV,c2,UQ]
  refine fU (zC.nil w6 w6.heap.size 5) hway (Ra _) (U0 _) (by have:=hB.len;omega) λv7 w7 o7 x7=> ?_
  rw[UQ,Vm]at o7
  have x67:aJ w6 w7 (λy=>w6.heap.size<=y):=x7
  have x07:aJ w w7 bR:=x06.trans x7 λy hy hh=>by have:=x06.size;omega
  have l6:∀{q:Nat} {cs:List Wn},bE w6 q cs->bE w7 q cs:=λo=>o.ext x7 (λhh=>by have:=o.lt;omega)
  have oO7:=l6 oO6
  have o7d:=l6 o6
  have oR7:=l6 oR6
  have lo7:(aD 71 (.pointer (some ⟨ob,0,none⟩))).run pg w7= .ok (.value (.agg (MV k n m an b).toArray)) w7:=pH (off:=0) oO7 (by simp)
  simp(disch:=omega)only[SV,lo7]
  refine BM (cells:=(MV k n m an b).toArray) (by decide) (by decide) (by kernel_rfl) λw8 o8 x8 s8=> ?_
  have l7:∀{q:Nat} {cs:List Wn},bE w7 q cs->bE w8 q cs:=λo=>o.ext x8 (λh=>h)
  refine fU (o7.ext x8 (λ_ _ h=>h)) (m:=1) (news:=MV k n m an b) ?_ (λy hy=>Oy ⟨k,n,m,an,b⟩ y hy) (by have:=x7.size;have:=x8.size;omega) (by have:=hB.len;omega) λv9 w9 o9 x9=> ?_
  .exact ⟨_,_,rfl,rfl,λ_=>⟨_,0,rfl,λj hj=>by rw[o8.cell,UQ]⟩⟩
  have l8:∀{q:Nat} {cs:List Wn},q<w6.heap.size->bE w8 q cs->bE w9 q cs:=λhq o=>o.ext x9 (λhh=>by omega)
  have ldb:=o6.lt
  have lrb:=oR6.lt
  have x09:aJ w w9 bR:=(x07.seq x8).trans x9 λy hy hh=>by have:=x06.size;omega
  have o9d:=l8 ldb (l7 o7d)
  have oR9:=l8 lrb (l7 oR7)
  obtain⟨v9a,v9c,hv9⟩:=o9.len
  refine nO (off:=2) o9d (by rw[hv9]<;>rfl) (by simp) λwa' oa xa sa=> ?_
  obtain⟨F,hF⟩:∃F:vE,F={E with way:=D.way++[⟨k,n,m,an,b⟩]}:=⟨_,rfl⟩
  have oa:bE wa' db (uA F sv v9):=by rw[hF];exact oa
  have x0a:aJ w wa' bR:=x09.trans xa λy hy hh=>by omega
  have hvF:∀{w'},aJ wa' w' (λy=>y=rb)->aJ w w' bR->Cc Z w' F sv v9:=λ{w'} xx x0=>by
   refine⟨?_, ?_,Lg o9 λb hb=>by have:=h.sure.2.2 b hb;have:=x06.size;omega⟩
   .rw [hF]
    show Dh Z w' sv E.sure
    exact(hv5.new x0).sure
   .rw [hF]
    show Cl w' 5 v9 (D.way++[_]).length (IM (D.way++[_]))
    have hq:=(o9.ext xa (λbq hbq hh=>by subst hh;omega)).ext xx (λbq hbq hh=>by subst hh;omega)
    have hq:=hq.cl
    rw[UO,Wc,show IM (D.way++[⟨k,n,m,an,b⟩])=IM D.way++MV k n m an b from by simp[IM],<-hel,show E.way=D.way from by rw[hE,k2]]at*
    exact hq
  have h1F:∀x∈uA F sv v9,one x=true:=by
   have hx:=zG (hvF (w':=wa') (aJ.refl _ _) x0a)
   exact hx
  have:=JO (w:=w) (K:=λr0 w=>RR (.tuple #[r0,.int .i64 0]) w) h1F oa (oR9.ext xa (λhh=>by omega)) rfl (by omega) x0a (λw7 x7 x07=>hR F 0 sv v9 w7 (by unfold uV;rw[if_neg (by rw[he];decide),if_neg (by rw[hs];decide),<-hE,hF,U3]) (hvF x7 x07) x07)
  try simp(disch:=omega)only[SV]
  exact this
def A2:Wn->Bool| .string _=>true|_=>false
theorem Dh.notin {w:Wm}{v:Wn}{l:aX}{b:Nat}{cs:List Wn}(h:Dh Z w v l)(o:bE w b cs)(hs:∀c∈cs,A2 c=false):¬CR v (λy=>y=b):=by
 intro hi
 obtain⟨⟨a,c,rfl,hl,hh⟩,_⟩:=h
 unfold CR at hi
 split at hi
 .rename_i e
  simp only[Value.slice.injEq]at e
  obtain⟨rfl,e2,rfl⟩:=e
  obtain⟨b',off,he,h2⟩:=hh (by omega)
  cases he
  have hi:b'=b:=hi
  subst hi
  have h3:=h2 0 (by rw[hl];omega)
  have h4:=(Ln (l:=l) (i:=0) (by omega)).1
  rw[Wl]at h4
  rw[o.cell,h4]at h3
  have:=hs _ (VO h3)
  cases this
 .exact hi
theorem Dh.keep {w w':Wm}{v:Wn}{l:aX}{b:Nat}{cs:List Wn}(h:Dh Z w v l)(o:bE w b cs)(hs:∀c∈cs,A2 c=false)(x:aJ w w' (λy=>y=b)):Dh Z w' v l:=⟨H0 h.1 x (h.notin o hs),h.2.1,λb hb=>Vb (h.2.2 b hb) x.size⟩
def yX(D:vE):vE×Int:=
 if D.down then(D,20)else if(gB D).2 then((gB D).1,20)else({(gB D).1 with sure:=cI D,way:=[]},0)
theorem wB{w:Wm}{D:vE}{sv wv:Wn}(h:Cc Z w D sv wv):∀x∈uA D sv wv,A2 x=false:=by
 obtain⟨sa,sc,hsv⟩:=h.sure.len
 obtain⟨wa,wc,hwv,_⟩:=h.way
 subst hsv;subst hwv
 intro x hx
 simp only[UZ,Vn,or_false]at hx
 rcases hx with rfl|rfl|rfl|rfl|rfl<;>rfl
theorem I0 (w:Wm):Cl w 5 (.slice none 0 0) ([]:List Bc).length (IM []):=⟨none,0,rfl,rfl,λh=>by simp at h⟩
theorem R5 {D:vE}{sv wv:Wn}{w:Wm}(h:Cc Z w D sv wv)(hB:OP D)(hl: -1<=D.left/\D.left<=9223372036854775807):
 aH pg uJ #[.agg (uA D sv wv).toArray] w (λr w'=>∃sv' wv',r= .tuple #[.agg (uA (yX D).1 sv' wv').toArray,.int .i64 (yX D).2]/\Cc Z w' (yX D).1 sv' wv'/\aJ w w' bR):=by
 refine II ?_
 obtain⟨RR,hRR⟩:∃RR:Wn->Wm->Prop,RR=λr w'=>∃sv' wv',r= .tuple #[.agg (uA (yX D).1 sv' wv').toArray,.int .i64 (yX D).2]/\Cc Z w' (yX D).1 sv' wv'/\aJ w w' bR:=⟨_,rfl⟩
 rw[<-hRR]
 have hR:∀D' e sv' wv' w',yX D=(D',e)->Cc Z w' D' sv' wv'->aJ w w' bR->RR (.tuple #[.agg (uA D' sv' wv').toArray,.int .i64 e]) w':=λD' e sv' wv' w' he hv x=>by
  rw[hRR,he]
  exact⟨sv',wv',rfl,hv,x⟩
 clear hRR
 unfold JL Fy
 refine kG λw1 o1 x1 s1=> ?_
 rw[wA h]at o1
 obtain⟨db,hdb⟩:∃db,db=w.heap.size:=⟨_,rfl⟩
 rw[<-hdb]at o1⊢
 refine bY λw3 o3 x3 s3=> ?_
 obtain⟨rb,hrb⟩:∃rb,rb=w1.heap.size:=⟨_,rfl⟩
 rw[<-hrb]at o3⊢
 have x03:aJ w w3 bR:=x1.seq x3
 have oD:bE w3 db (uA D sv wv):=o1.ext x3 (λh=>h)
 have h1:=zG h
 have c4:w3.cell? ⟨db,4,none⟩=some (.bool D.down):=oD.cell (off:=4)
 cases hd:D.down with
 |true=>
  rw[hd]at c4
  have:=JO (w:=w) (K:=λr0 w=>RR (.tuple #[r0,.int .i64 20]) w) h1 oD o3 rfl (by omega) x03 (λw5 x5 x05=>hR D 20 sv wv w5 (by unfold yX;rw[if_pos hd]) (h.new x05) x05)
  simp(disch:=omega)only[SV,c4,UQ]
  exact this
 |false=>
 rw[hd]at c4
 have hnd:¬D.down=true:=by rw[hd];decide
 have ld:(aD 41 (.pointer (some ⟨db,0,none⟩))).run pg w3= .ok (.value (.agg (uA D sv wv).toArray)) w3:=cC (off:=0) oD (by simp)
 simp(disch:=omega)only[SV,c4,ld,UQ]
 refine(MC (h.new x03) hl).mono ?_
 rintro r w5 ⟨rfl,x5⟩
 obtain⟨k1,k2,k3⟩:=yE D
 obtain⟨E,hE⟩:∃E,E=(gB D).1:=⟨_,rfl⟩
 have hv5:Cc Z w E sv wv:=by rw[hE];exact h.like k1 k2
 have h1E:=zG hv5
 rw[<-hE]
 simp(disch:=omega)only[SV]
 refine iS (oD.ext x5 (λh=>h)) rfl (by simpa using h1E) (by simp) λw6 o6 x6 s6=> ?_
 have o6:bE w6 db (uA E sv wv):=o6
 have x06:aJ w w6 bR:=(x03.seq x5).trans x6 λy hy hh=>by omega
 have oR6:bE w6 rb [.int .i64 0,.slice none 0 0,.slice none 0 0,.int .i64 0,.bool false]:=(o3.ext x5 (λh=>h)).ext x6 (λhh=>by omega)
 cases hs:(gB D).2 with
 |true=>
  have:=JO (w:=w) (K:=λr0 w=>RR (.tuple #[r0,.int .i64 20]) w) h1E o6 oR6 rfl (by omega) x06 (λw7 x7 x07=>hR E 20 sv wv w7 (by unfold yX;rw[if_neg hnd,if_pos hs,hE]) (hv5.new x07) x07)
  try simp(disch:=omega)only[SV]
  exact this
 |false=>
  have ld6:(aD 41 (.pointer (some ⟨db,0,none⟩))).run pg w6= .ok (.value (.agg (uA E sv wv).toArray)) w6:=cC (off:=0) o6 (by simp)
  have hBE:OP E:=by
   rw[hE]
   exact⟨k1▸hB.fs,k2▸hB.ops,by rw[k1,k2];exact hB.len⟩
  have hse:cI E=cI D:=by unfold cI;rw[hE,k1,k2]
  simp(disch:=omega)only[SV,ld6]
  refine(Ex (hv5.new x06) hBE).mono ?_
  rintro r w7 ⟨hr,x7⟩
  rw[hse]at hr
  obtain⟨ra,rc,hrv⟩:=hr.len
  have o7:=o6.ext x7 (λh=>h)
  have oR7:=oR6.ext x7 (λh=>h)
  try simp(disch:=omega)only[SV,UQ]
  refine tV (off:=1) o7 (by rw[hrv]<;>rfl) (by simp) λw8 o8 x8 s8=> ?_
  have o8:bE w8 db (uA {E with sure:=cI D} r wv):=o8
  have hr8:Dh Z w8 r (cI D):=hr.keep o7 (wB hv5) x8
  have x08:aJ w w8 bR:=(x06.seq x7).trans x8 λy hy hh=>by omega
  have h8:Cc Z w8 {E with sure:=cI D} r wv:=⟨hr8,(hv5.new x08).way,h.wz⟩
  try simp(disch:=omega)only[SV,UQ]
  refine nO (off:=2) o8 rfl (by simp) λw9 o9 x9 s9=> ?_
  obtain⟨F,hF⟩:∃F:vE,F={E with sure:=cI D,way:=[]}:=⟨_,rfl⟩
  have o9:bE w9 db (uA F r (.slice none 0 0)):=by rw[hF];exact o9
  have hr9:Dh Z w9 r (cI D):=hr8.keep o8 (wB h8) x9
  have x09:aJ w w9 bR:=x08.trans x9 λy hy hh=>by omega
  have oR9:=(oR7.ext x8 (λhh=>by omega)).ext x9 (λhh=>by omega)
  have hvF:∀{w'},Dh Z w' r (cI D)->Cc Z w' F r (.slice none 0 0):=λ{w'} hf=>by
   rw[hF]
   exact⟨hf,I0 w',λh=>h⟩
  have hns:∀c∈([.int .i64 0,.slice none 0 0,.slice none 0 0,.int .i64 0,.bool false]:List Wn),A2 c=false:=by
   intro c hc
   simp only[UZ,Vn,or_false]at hc
   rcases hc with rfl|rfl|rfl|rfl|rfl<;>rfl
  have:=JO (w:=w) (K:=λr0 w=>RR (.tuple #[r0,.int .i64 0]) w) (zG (hvF hr9)) o9 oR9 rfl (by omega) x09 (λw7 x7 x07=>hR F 0 r (.slice none 0 0) w7 (by unfold yX;rw[if_neg hnd,if_neg (by rw[hs];decide),<-hE,hF]) (hvF (hr9.keep oR9 hns x7)) x07)
  try simp(disch:=omega)only[SV]
  exact this
def ET(os:List Bc)(ks:List Bool)(l:aX):Nat->aX
 |0=>l
 |i+1=>match os[i]?,ks[i]? with
  |some o,some true=>JE o (ET os ks l i)
  |_,_=>ET os ks l i
def HD(D:vE)(ks:List Bool):vE:={D with sure:=ET D.way ks D.sure D.way.length,way:=[],left:= -1,down:=false}
theorem Mu{os:List Bc}{ks:List Bool}{l:aX}{i:Nat}(h:ks.length<=i):∀d,ET os ks l (i+d)=ET os ks l i
 |0=>rfl
 |d+1=>by
  rw[<-VC,ET]
  split
  .rename_i o h1 h2
   rw[Vy (by omega)]at h2
   cases h2
  .exact Mu h d
theorem Nt{os:List Bc}{ks:List Bool}{l:aX}(h:FB l)(ho:∀o∈os,o.kind<=2/\o.at'+o.bytes.length<=1000000000):∀i,FB (ET os ks l i)/\(ET os ks l i).length<=l.length+i
 |0=>⟨h,U0 _⟩
 |i+1=>by
  obtain⟨h1,h2⟩:=Nt h ho i (ks:=ks)
  rw[ET]
  split
  .rename_i o hq _
   refine⟨QO h1 (ho o (VO hq)).2, ?_⟩
   have:=Lm (o:=o) (l:=ET os ks l i)
   omega
  .exact ⟨h1,by omega⟩
theorem QM{D:vE}{sv wv kv:Wn}{ks:List Bool}{w:Wm}(h:Cc Z w D sv wv)(hB:OP D)(hk:Sl w kv (ks.map Value.bool))(hkl:ks.length<=9223372036854775807):
 aH pg rN #[.agg (uA D sv wv).toArray,kv] w (λr w'=>∃sv' wv',r= .agg (uA (HD D ks) sv' wv').toArray/\Cc Z w' (HD D ks) sv' wv'/\aJ w w' bR):=by
 refine HE ?_
 obtain⟨RR,hRR⟩:∃RR:Wn->Wm->Prop,RR=λr w'=>∃sv' wv',r= .agg (uA (HD D ks) sv' wv').toArray/\Cc Z w' (HD D ks) sv' wv'/\aJ w w' bR:=⟨_,rfl⟩
 rw[<-hRR]
 obtain⟨ka,kc,rfl,hkc⟩:=hk.len
 rw[UU]at hk hkc⊢
 unfold Ii CV CU
 refine kG λw1 o1 x1 s1=> ?_
 rw[wA h]at o1
 obtain⟨db,hdb⟩:∃db,db=w.heap.size:=⟨_,rfl⟩
 rw[<-hdb]at o1⊢
 refine bY λw3 o3 x3 s3=> ?_
 obtain⟨rb,hrb⟩:∃rb,rb=w1.heap.size:=⟨_,rfl⟩
 rw[<-hrb]at o3⊢
 have x03:aJ w w3 bR:=x1.seq x3
 have oD:bE w3 db (uA D sv wv):=o1.ext x3 (λh=>h)
 obtain⟨wa,wc,hwv,_⟩:=h.way
 have hn:=hB.len
 unfold Ay Ax DX uX
 refine bL.rule (λm (t:Wn) w'=>∃(i:Nat) (lv:Wn),m=D.way.length-i/\i<=D.way.length/\t= .int .i64 (i:Nat)/\Dh Z w' lv (ET D.way ks D.sure i)/\bE w' db (uA {D with sure:=ET D.way ks D.sure i} lv wv)/\bE w' rb [.int .i64 0,.slice none 0 0,.slice none 0 0,.int .i64 0,.bool false]/\aJ w w' bR) D.way.length
  ⟨0,sv,rfl,by omega,rfl,h.sure.new x03,oD,o3,x03⟩ ?_
 clear oD o3 o1
 rintro m t w4 ⟨i,lv,rfl,hi,rfl,hlv,oD,oR,x4⟩
 have hv4:Cc Z w4 {D with sure:=ET D.way ks D.sure i} lv wv:=⟨hlv,(h.new x4).way,h.wz⟩
 have c1:w4.cell? ⟨db,1,none⟩=some lv:=oD.cell (off:=1)
 have c2:w4.cell? ⟨db,2,none⟩=some wv:=oD.cell (off:=2)
 have c2':=c2
 rw[hwv]at c2'
 obtain⟨hfb,hfl⟩:=Nt (ks:=ks) hB.fs hB.ops i
 have fin:ET D.way ks D.sure i=ET D.way ks D.sure D.way.length->uW RR (.pointer (some ⟨db,0,none⟩)) (.pointer (some ⟨rb,0,none⟩)) w4:=λhe=>by
  unfold uW
  try simp(disch:=omega)only[SV,UQ]
  refine nO (off:=2) oD rfl (by simp) λw5 o5 x5 s5=> ?_
  have h5:=hlv.keep oD (wB hv4) x5
  have o5:bE w5 db (uA {D with sure:=ET D.way ks D.sure i,way:=[]} lv (.slice none 0 0)):=o5
  have v5:Cc Z w5 {D with sure:=ET D.way ks D.sure i,way:=[]} lv (.slice none 0 0):=⟨h5,I0 w5,λh=>h⟩
  try simp(disch:=omega)only[SV,UQ]
  refine IX (off:=4) o5 rfl (by simp) λw6 o6 x6 s6=> ?_
  have h6:=h5.keep o5 (wB v5) x6
  have o6:bE w6 db (uA {D with sure:=ET D.way ks D.sure i,way:=[],down:=false} lv (.slice none 0 0)):=o6
  have v6:Cc Z w6 {D with sure:=ET D.way ks D.sure i,way:=[],down:=false} lv (.slice none 0 0):=⟨h6,I0 w6,λh=>h⟩
  try simp(disch:=omega)only[SV,UQ]
  refine Eg (off:=3) o6 rfl (by simp) λw7 o7 x7 s7=> ?_
  have h7:=h6.keep o6 (wB v6) x7
  obtain⟨F,hF⟩:∃F:vE,F=HD D ks:=⟨_,rfl⟩
  have o7:bE w7 db (uA F lv (.slice none 0 0)):=by rw[hF];exact o7
  have x07:aJ w w7 bR:=((x4.trans x5 λy hy hh=>by omega).trans x6 λy hy hh=>by omega).trans x7 λy hy hh=>by omega
  have oR7:=((oR.ext x5 (λhh=>by omega)).ext x6 (λhh=>by omega)).ext x7 (λhh=>by omega)
  have hvF:∀{w'},Dh Z w' lv (ET D.way ks D.sure i)->Cc Z w' F lv (.slice none 0 0):=λ{w'} hf=>by
   rw[hF]
   exact⟨by show Dh Z w' lv (ET D.way ks D.sure D.way.length);rw[<-he];exact hf,I0 w',λh=>h⟩
  have hns:∀c∈([.int .i64 0,.slice none 0 0,.slice none 0 0,.int .i64 0,.bool false]:List Wn),A2 c=false:=by
   intro c hc
   simp only[UZ,Vn,or_false]at hc
   rcases hc with rfl|rfl|rfl|rfl|rfl<;>rfl
  have:=JO (w:=w) (K:=λr0 w=>RR r0 w) (zG (hvF h7)) o7 oR7 rfl (by omega) x07 (λw8 x8 x08=>by
   rw[hRR]
   refine⟨lv,.slice none 0 0,by rw[hF], ?_,x08⟩
   have:=hvF (h7.keep oR7 hns x8)
   rw[hF]at this
   exact this)
  try simp(disch:=omega)only[SV]
  exact this
 unfold Aw DW
 by_cases hlt:i<D.way.length
 rotate_left
 .have k1:decide ((i:Int)<(D.way.length:Int))=false:=by simp;omega
  have:=fin (by rw[show i=D.way.length from by omega])
  simp(disch:=omega)only[SV,c2',k1,UQ]
  exact this
 have k1:decide ((i:Int)<(D.way.length:Int))=true:=by simp;omega
 by_cases hlk:i<ks.length
 rotate_left
 .have k2:decide ((i:Int)<(ks.length:Int))=false:=by simp;omega
  have:=fin (by
   have:=Mu (os:=D.way) (l:=D.sure) (i:=i) (ks:=ks) (by omega) (D.way.length-i)
   rw[show i+(D.way.length-i)=D.way.length from by omega]at this
   exact this.symm)
  simp(disch:=omega)only[SV,c2',k1,k2,UQ]
  exact this
 have k2:decide ((i:Int)<(ks.length:Int))=true:=by simp;omega
 have hin:(i:Int).toNat=i:=U3 _
 have q1:(i:Int)+1=((i+1:Nat):Int):=by omega
 obtain⟨kb,koff,hka,hkcell⟩:∃kb koff,ka=some ⟨kb,koff,none⟩/\w4.cell? ⟨kb,koff+i,none⟩=some (.bool ks[i]):=by
  obtain⟨a',n',c',he',hn',hc',hh⟩:=hk.ext x4 (kD _)
  simp only[Value.slice.injEq]at he'
  obtain⟨rfl,rfl,rfl⟩:=he'
  obtain⟨kb,koff,rfl,h2⟩:=hh (by omega)
  refine⟨kb,koff,rfl, ?_⟩
  rw[h2 i (by omega),Vt,U1 hlk]
  rfl
 subst hka
 have hstep:ET D.way ks D.sure (i+1)=if ks[i]then JE D.way[i] (ET D.way ks D.sure i)else ET D.way ks D.sure i:=by
  rw[ET,U1 hlt,U1 hlk]
  cases ks[i]<;>rfl
 unfold Av
 cases hki:ks[i]with
 |false=>
  rw[hki]at hkcell
  rw[hki,if_neg (by decide)]at hstep
  simp(disch:=omega)only[SV,c2',k1,k2,hin,hkcell,q1,UQ]
  exact⟨D.way.length-(i+1),by omega,i+1,lv,rfl,by omega,rfl,by rw[hstep];exact hlv,by rw[hstep];exact oD,oR,x4⟩
 |true=>
  rw[hki]at hkcell
  rw[hki,if_pos rfl]at hstep
  have x4d:aJ w (dr w4) bR:=x4.seq (aJ.dr _ _)
  have oDd:=aP oD
  have d1:(dr w4).cell? ⟨db,1,none⟩=some lv:=oDd.cell (off:=1)
  have d2:(dr w4).cell? ⟨db,2,none⟩=some wv:=oDd.cell (off:=2)
  obtain⟨a,off,c',he,hld⟩:=(h.new x4d).op hlt
  rw[he]at d2
  have hops:=hB.ops _ (VU hlt)
  simp(disch:=omega)only[SV,c2',k1,k2,hin,hkcell,d1,d2,hld,UQ]
  refine(QN (hlv.new (aJ.dr _ _)) (by omega) hops.1 (by omega) (by omega) (λb hb=>hfb _ _ hb)).mono ?_
  rintro r w5 ⟨hr,x5⟩
  obtain⟨ra,rc,hrv⟩:=hr.len
  have oD5:=oDd.ext x5 (λh=>h)
  have oR5:=(aP oR).ext x5 (λh=>h)
  try simp(disch:=omega)only[SV,UQ]
  refine tV (off:=1) oD5 (by rw[hrv]<;>rfl) (by simp) λw6 o6 x6 s6=> ?_
  have v5:Cc Z w5 {D with sure:=ET D.way ks D.sure i} lv wv:=hv4.new ((aJ.dr _ _).seq x5)
  have hr6:=hr.keep oD5 (wB v5) x6
  rw[<-hstep]at hr6
  have o6:bE w6 db (uA {D with sure:=ET D.way ks D.sure (i+1)} r wv):=o6
  simp(disch:=omega)only[SV,q1]
  exact⟨D.way.length-(i+1),by omega,i+1,r,rfl,by omega,rfl,hr6,o6,oR5.ext x6 (λhh=>by omega),(x4d.seq x5).trans x6 λy hy hh=>by omega⟩
end Go.Proofs.Ytmhokapokchneaa
namespace Go.Proofs.Ytmhokapokchneaa
open Go Go.En Go.Pu
structure zP(S:iQ)(D:vE):Prop where
 rm:D.room=S.room
 lf:D.left=S.left
 dn:D.down=S.down
 wy:D.way=S.under
 su:KU S.sure D.sure
 se:KU S.seen (cI D)
 kd:∀o∈S.under,o.kind<=2
theorem R7 (r:Int):zP (Ml r) ⟨r,[],[],-1,false⟩:=⟨rfl,rfl,rfl,rfl,KU.nil,KU.nil,λo h=>by cases h⟩
theorem QY{S:iQ}{D:vE}(h:zP S D)(n:ByteArray):G9 D n=if S.down then(([]:List UInt8),(20:Int))else match bC n S.seen with
 |none=>([],21)
 |some b=>(b,0):=by
 unfold G9
 by_cases hd:S.down=true
 .rw [h.dn,if_pos hd,if_pos hd]
 .rw [h.dn,h.se.eq]<;>simp only[if_neg hd]<;>(cases bC n (cI D)<;>rfl)
theorem QX{S:iQ}{D:vE}(h:zP S D)(a:Int):zP {S with left:=a} {D with left:=a}:=⟨h.rm,rfl,h.dn,h.wy,h.su,h.se,h.kd⟩
theorem KN{S:iQ}{D:vE}(h:zP S D)(hd:S.down=false):(gB D).2=LZ S/\zP {S with left:=tP S.left,down:=LZ S} (gB D).1:=by
 unfold gB LZ
 rw[h.lf,hd,Bool.false_or]
 by_cases h0:S.left=0
 .rw [if_pos h0]
  refine⟨by rw[h0]<;>rfl,⟨h.rm, ?_,by show true=_;rw[h0]<;>rfl,h.wy,h.su,h.se,h.kd⟩⟩
  show S.left=tP S.left
  rw[h0]<;>rfl
 .rw [if_neg h0]
  have:(S.left==0)=false:=beq_eq_false_iff_ne.2 h0
  refine⟨this.symm,⟨h.rm,rfl,by show D.down=_;rw[h.dn,hd,this],h.wy,h.su,h.se,h.kd⟩⟩
theorem JV{S:iQ}{D:vE}(h:zP S D)(hd:S.down=false){k:Nat}{n m:ByteArray}{a:Int}{b:List UInt8}(hf:oJ D k n m a b=0)(hk:k<=2):(uV D k n m a b).2=(xS S ⟨k,n,m,a.toNat,b⟩).2/\zP (xS S ⟨k,n,m,a.toNat,b⟩).1 (uV D k n m a b).1:=by
 obtain⟨h1,h2⟩:=KN h hd
 unfold uV xS
 rw[if_neg (by rw[hf];decide),h1]
 cases hs:LZ S with
 |true=>
  rw[hs]at h2
  exact⟨rfl,h2⟩
 |false=>
  rw[hs]at h2
  refine⟨rfl,⟨h2.rm,h2.lf,h2.dn, ?_,h2.su, ?_,λo ho=> ?_⟩⟩
  .show D.way++[_]=S.under++[_]
   rw[h.wy]
  .have h3:=h.se.do (o:=⟨k,n,m,a.toNat,b⟩) hk
   have hr:cI {(gB D).1 with way:=D.way++[⟨k,n,m,a.toNat,b⟩]}=JE ⟨k,n,m,a.toNat,b⟩ (cI D):=by
    unfold cI
    show(D.way++[_]).foldl _ (gB D).1.sure=_
    rw[List.foldl_append,(yE D).1]
    rfl
   have h4:KU (Fe ⟨k,n,m,a.toNat,b⟩ S.seen) (cI {(gB D).1 with way:=D.way++[⟨k,n,m,a.toNat,b⟩]}):=by rw[hr];exact h3
   exact h4
  .rcases Vw.1 ho with ho|ho
   .exact h.kd o ho
   .rw [VZ]at ho
    rw[ho];exact hk
theorem wK{S:iQ}{D:vE}(h:zP S D){k:Nat}{n m:ByteArray}{a:Int}{b:List UInt8}{e:Int}(hf:oJ D k n m a b=e)(he:e≠0):(uV D k n m a b).2=e/\zP S (uV D k n m a b).1:=by
 unfold uV
 rw[if_pos (by rw[hf];exact he)]
 exact⟨hf,h⟩
theorem KO{S:iQ}{D:vE}(h:zP S D)(n:ByteArray)(a:Int)(b:List UInt8):(uV D 0 n ⟨#[]⟩ a b).2=(LB S n a b).2/\zP (LB S n a b).1 (uV D 0 n ⟨#[]⟩ a b).1:=by
 have hf:oJ D 0 n ⟨#[]⟩ a b=Rn S n a b.length:=by
  unfold oJ Rn
  rw[h.dn]
  by_cases hd:S.down=true
  .rw [if_pos hd,if_pos hd]
  rw[if_neg hd,if_neg hd]
  by_cases hb:tZ n=false∨a<0
  .rw [if_pos hb,if_pos]
   rcases hb with hb|hb
   .exact .inr (.inr ⟨by decide,hb⟩)
   .exact .inr (.inl ⟨rfl,hb⟩)
  rw[if_neg hb,if_neg,if_neg (by decide),<-h.se.eq]
  .have hsb:tT S n=(bC n S.seen).getD []:=rfl
   rw[hsb]
   by_cases h17:(((bC n S.seen).getD []).length:Int)<a
   .rw [if_pos h17,if_pos h17]
   rw[if_neg h17,if_neg h17,h.rm,<-((h.se.do (o:=⟨0,n,⟨#[]⟩,a.toNat,b⟩) (Nat.zero_le _)).both).1]
   have hs:=BU n (over ((bC n S.seen).getD []) a.toNat b) S.seen
   rw[tS]at hs
   have hdo:Fe ⟨0,n,⟨#[]⟩,a.toNat,b⟩ S.seen=sY n (over ((bC n S.seen).getD []) a.toNat b) S.seen:=rfl
   rw[hdo]
   have ha:0<=a:=by
    by_cases ha:a<0
    .exact absurd (.inr ha) hb
    .omega
   have heq:((bG (sY n (over ((bC n S.seen).getD []) a.toNat b) S.seen):Nat):Int)=(bG S.seen:Int)+max (a+(b.length:Int)-(((bC n S.seen).getD []).length:Int)) 0:=by
    generalize((bC n S.seen).getD []).length=q at*
    omega
   rw[heq]
  .rintro (hh|hh|hh)
   .exact absurd hh.1 (by decide)
   .exact hb (.inr hh.2)
   .exact hb (.inl hh.2)
 unfold LB
 by_cases he:Rn S n a b.length=0
 .rw [if_pos he]
  have hd:S.down=false:=by
   cases hd:S.down with
   |false=>rfl
   |true=>unfold Rn at he;rw[if_pos hd]at he;cases he
  exact JV h hd (by rw[hf,he]) (Nat.zero_le _)
 .rw [if_neg he]
  exact wK h hf he
theorem JW{S:iQ}{D:vE}(h:zP S D)(n:ByteArray):(uV D 2 n ⟨#[]⟩ 0 []).2=(Nw S n).2/\zP (Nw S n).1 (uV D 2 n ⟨#[]⟩ 0 []).1:=by
 unfold Nw
 by_cases hd:S.down=true
 .rw [if_pos hd]
  exact wK (e:=20) h (by unfold oJ;rw[h.dn,if_pos hd]) (by decide)
 have hd':S.down=false:=by cases hq:S.down with|true=>exact absurd hq hd|false=>rfl
 have hf:oJ D 2 n ⟨#[]⟩ 0 []=if bC n S.seen=none then 21 else 0:=by
  unfold oJ
  rw[h.dn,if_neg hd,if_neg (by simp),if_pos (by decide),h.se.eq]
 rw[if_neg hd]
 cases hg:bC n S.seen with
 |none=>
  rw[hg,if_pos rfl]at hf
  exact wK (e:=21) h hf (by decide)
 |some b=>
  rw[hg,if_neg (by simp)]at hf
  exact JV h hd' hf (by decide)
theorem JX{S:iQ}{D:vE}(h:zP S D)(n m:ByteArray):(uV D 1 n m 0 []).2=(Nx S n m).2/\zP (Nx S n m).1 (uV D 1 n m 0 []).1:=by
 unfold Nx
 by_cases hd:S.down=true
 .rw [if_pos hd]
  exact wK (e:=20) h (by unfold oJ;rw[h.dn,if_pos hd]) (by decide)
 have hd':S.down=false:=by cases hq:S.down with|true=>exact absurd hq hd|false=>rfl
 rw[if_neg hd]
 by_cases hb:tZ n=false∨tZ m=false
 .rw [if_pos hb]
  refine wK (e:=1) h ?_ (by decide)
  unfold oJ
  rw[h.dn,if_neg hd,if_pos]
  rcases hb with hb|hb
  .exact .inr (.inr ⟨by decide,hb⟩)
  .exact .inl ⟨rfl,hb⟩
 have hf:oJ D 1 n m 0 []=if bC n S.seen=none then 21 else 0:=by
  unfold oJ
  rw[h.dn,if_neg hd,if_neg,if_pos (by decide),h.se.eq]
  rintro(hh|hh|hh)
  .exact hb (.inr hh.2)
  .exact absurd hh.1 (by decide)
  .exact hb (.inl hh.2)
 rw[if_neg hb]
 cases hg:bC n S.seen with
 |none=>
  rw[hg,if_pos rfl]at hf
  exact wK (e:=21) h hf (by decide)
 |some b=>
  rw[hg,if_neg (by simp)]at hf
  exact JV h hd' hf (by decide)
theorem MI{S:iQ}{D:vE}(h:zP S D):(yX D).2=(MW S).2/\zP (MW S).1 (yX D).1:=by
 unfold yX MW
 rw[h.dn]
 by_cases hd:S.down=true
 .rw [if_pos hd,if_pos hd]
  exact⟨rfl,h⟩
 have hd':S.down=false:=by cases hq:S.down with|true=>exact absurd hq hd|false=>rfl
 obtain⟨h1,h2⟩:=KN h hd'
 rw[if_neg hd,if_neg hd,h1]
 cases hs:LZ S with
 |true=>
  rw[hs]at h2
  exact⟨rfl,h2⟩
 |false=>
  rw[hs]at h2
  refine⟨rfl,⟨h2.rm,h2.lf,h2.dn,rfl,h.se, ?_,λo ho=>by cases ho⟩⟩
  show KU S.seen (cI {(gB D).1 with sure:=cI D,way:=[]})
  exact h.se
theorem Ph{S:iQ}{D:vE}(h:zP S D)(ks:List Bool):zP (SK S ks) (HD D ks):=by
 have hi:∀i,KU (H2 S.under ks S.sure i) (ET D.way ks D.sure i):=by
  intro i
  induction i with
  |zero=>exact h.su
  |succ i ih=>
   rw[H2,ET,h.wy]
   rw[h.wy]at ih
   cases ho:S.under[i]? with
   |none=>exact ih
   |some o=>
    cases hk:ks[i]? with
    |none=>exact ih
    |some z=>
     cases z with
     |false=>exact ih
     |true=>exact ih.do (h.kd o (VO ho))
 have hh:=hi S.under.length
 refine⟨h.rm,rfl,rfl,rfl, ?_, ?_,λo ho=>by cases ho⟩
 .show KU _ (ET D.way ks D.sure D.way.length)
  rw[show D.way.length=S.under.length from by rw[h.wy]]
  exact hh
 .show KU _ (ET D.way ks D.sure D.way.length)
  rw[show D.way.length=S.under.length from by rw[h.wy]]
  exact hh
end Go.Proofs.Ytmhokapokchneaa
namespace Go.Proofs.Ytmhokapokchneaa
open Go Go.En Go.Pu
set_option maxRecDepth 4000
set_option maxHeartbeats 2000000
theorem RL(x:ByteArray)(w:Wm):aH pg mU #[.string x] w (λr w'=>r= .bool false/\w'=w):=by
 refine EE ?_
 unfold Dq AO
 have k1:(x.toList==x.toList)=true:=beq_self_eq_true _
 simp(disch:=omega)only[aB,JD,k1,VV,aV,and_true]
theorem pC(x y:ByteArray)(w:Wm):aH pg bQ #[.string x,.string y] w (λr w'=>r= .bool (fW x y)/\w'=w):=by
 refine FX ?_
 unfold EZ BN
 refine(RL x w).mono ?_
 rintro r w1 ⟨rfl,rfl⟩
 simp(disch:=omega)only[uS,aB,qE,UY,if_false,aV,uR,lT,Nr,true_and,kN]
end Go.Proofs.Ytmhokapokchneaa
namespace Go.Proofs.Ytmhokapokchneaa
open Go Go.En Go.Pu
def I5 (L:List ByteArray):Prop:=L.Pairwise λx y=>fW x y=true
theorem MJ:∀{A B:List ByteArray},I5 A->I5 B->(∀x,x∈A↔x∈B)->A=B
 |[],[],_,_,_=>rfl
 |[],b::B,_,_,h=>by have:=(h b).2 Va;cases this
 |a::A,[],_,_,h=>by have:=(h a).1 Va;cases this
 |a::A,b::B,ha,hb,h=>by
  obtain⟨ha1,ha2⟩:=VB.1 ha
  obtain⟨hb1,hb2⟩:=VB.1 hb
  have hab:a=b:=by
   rcases UZ.1 ((h a).1 Va)with h1|h1
   .exact h1
   .rcases UZ.1 ((h b).2 Va)with h2|h2
    .exact h2.symm
    .have:=zN (hb1 a h1) (ha1 b h2)
     rw[A3]at this
     cases this
  subst hab
  refine congrArg _ (MJ ha2 hb2 λx=> ?_)
  have hx:=h x
  rw[UZ,UZ]at hx
  constructor
  .intro hm
   rcases hx.1 (.inr hm)with e|e
   .have:=ha1 x hm
    rw[e,A3]at this
    cases this
   .exact e
  .intro hm
   rcases hx.2 (.inr hm)with e|e
   .have:=hb1 x hm
    rw[e,A3]at this
    cases this
   .exact e
end Go.Proofs.Ytmhokapokchneaa
namespace Go.Pu
def F9 (p:Int):Int:=if p<0 then 1 else p
def fits:Int->List Int->Bool
 |left,[]=>left==0
 |left,p::r=>if p< -1∨left<F9 p then false else fits (left-F9 p) r
def MP(ps:List Int):Int:=(ps.map F9).sum
def Se(log:Int)(ps:List Int):Bool:=decide (5<=log/\log<=15/\1<=ps.length/\ps.length<=256/\ps.getLast?≠some 0)
def TH(log:Int)(ps:List Int):Bool:=Se log ps&&fits (2^log.toNat) ps
theorem KP(p:Int)(ps:List Int):MP (p::ps)=F9 p+MP ps:=by simp[MP]
theorem Kf{p:Int}(h: -1<=p):0<=F9 p:=by unfold F9;split<;>omega
theorem MQ{ps:List Int}(h:∀p∈ps,-1<=p):0<=MP ps:=by
 induction ps with
 |nil=>simp[MP]
 |cons p r ih=>
  rw[KP]
  have:=Kf (h p (by simp))
  have:=ih λq hq=>h q (UX _ hq)
  omega
theorem L5:∀{ps:List Int} {left:Int},fits left ps=true↔(∀p∈ps,-1<=p)/\MP ps=left
 |[],left=>by simp[fits,MP];constructor<;>intro h<;>omega
 |p::r,left=>by
  rw[fits,KP]
  by_cases h:p< -1∨left<F9 p
  .rw [if_pos h]
   constructor
   .intro h;cases h
   .rintro ⟨h1,h2⟩
    have hp:=h1 p (by simp)
    have:=MQ (ps:=r) λq hq=>h1 q (UX _ hq)
    omega
  .rw [if_neg h,L5]
   constructor
   .rintro ⟨h1,h2⟩
    exact⟨λq hq=>by rcases UZ.1 hq with rfl|hq;·omega
                    .exact h1 q hq,by omega⟩
   .rintro ⟨h1,h2⟩
    exact⟨λq hq=>h1 q (UX _ hq),by omega⟩
structure Uq(log:Nat)(ps:List Int):Prop where
 log5:5<=log
 log15:log<=15
 len1:1<=ps.length
 len256:ps.length<=256
 last:ps.getLast?≠some 0
 low:∀p∈ps,-1<=p
 sum:MP ps=2^log
theorem Uq.b {log:Nat}{ps:List Int}(h:Uq log ps):TH log ps=true:=by
 unfold TH Se
 simp only[UT,decide_eq_true_eq]
 have h1:=h.log5
 have h2:=h.log15
 refine⟨⟨by omega,by omega,h.len1,h.len256,h.last⟩, ?_⟩
 rw[L5,U3]
 exact⟨h.low,h.sum⟩
def pos(n j:Nat):Nat:=(j*(n/2+n/8+3))%n
def bl(k:Nat):Nat:=if k=0 then 0 else k.log2+1
theorem Sd(k:Nat):k<2^bl k:=by
 unfold bl
 split
 .subst_vars;simp
 .exact Nat.lt_log2_self
theorem Of{k:Nat}(h:k≠0):2^(bl k-1)<=k:=by
 unfold bl
 rw[if_neg h,Nat.add_sub_cancel]
 exact Nat.log2_self_le h
theorem SI{k:Nat}(h:k≠0):1<=bl k:=by unfold bl;rw[if_neg h];omega
theorem LP{k n:Nat}(h:k<2^n):bl k<=n:=by
 by_cases h0:k=0
 .subst h0;simp[bl]
 .rcases Vk n (bl k)with hh|hh
  .have h1:=Of h0
   have:=Nat.pow_le_pow_right (n:=2) (by omega) (show n<=bl k-1 by omega)
   omega
  .exact hh
theorem Tz{k n:Nat}(h1:2^n<=k)(h2:k<2^(n+1)):bl k=n+1:=by
 have h0:k≠0:=by have:=Nat.two_pow_pos n;omega
 have a:=LP h2
 have b:=Sd k
 rcases Vk (bl k) (n+1)with h|h
 .have:=Nat.pow_le_pow_right (n:=2) (by omega) (show bl k<=n by omega)
  omega
 .omega
end Go.Pu
namespace Go.Proofs.Ytmhokapokchneaa
open Go Go.En Go.Pu
set_option maxRecDepth 4000
def Nj:ByteArray:=⟨#[0,1,2,2,3,3,3,3,4,4,4,4,4,4,4,4,5,5,5,5,5,5,5,5,5,5,5,5,5,5,5,5,6,6,6,6,6,6,6,6,6,6,6,6,6,6,6,6,6,6,6,6,6,6,6,6,6,6,6,6,6,6,6,6,7,7,7,7,7,7,7,7,7,7,7,7,7,7,7,7,7,7,7,7,7,7,7,7,7,7,7,7,7,7,7,7,7,7,7,7,7,7,7,7,7,7,7,7,7,7,7,7,7,7,7,7,7,7,7,7,7,7,7,7,7,7,7,7,8,8,8,8,8,8,8,8,8,8,8,8,8,8,8,8,8,8,8,8,8,8,8,8,8,8,8,8,8,8,8,8,8,8,8,8,8,8,8,8,8,8,8,8,8,8,8,8,8,8,8,8,8,8,8,8,8,8,8,8,8,8,8,8,8,8,8,8,8,8,8,8,8,8,8,8,8,8,8,8,8,8,8,8,8,8,8,8,8,8,8,8,8,8,8,8,8,8,8,8,8,8,8,8,8,8,8,8,8,8,8,8,8,8,8,8,8,8,8,8,8,8,8,8,8,8,8,8]⟩
theorem HA:Nj.size=256:=by decide
set_option maxRecDepth 100000 in
theorem Qn(x:Nat)(h:x<256):(Nj[x]'(by rw[HA];exact h)).toNat=bl x:=by
 have:∀k:Fin 256,(Nj.data[k.val]!).toNat=bl k.val:=by decide+kernel
 have h2:=this ⟨x,h⟩
 simp only at h2
 rw[<-h2]
 have hs:x<Nj.data.size:=by have:=HA;exact(show Nj.data.size=256 from this)▸h
 rw[getElem!_pos Nj.data x hs]
 rfl
theorem Jb{x j:Nat}(h:2^j<=x):bl x=bl (x/2^j)+j:=by
 have hp:=Nat.two_pow_pos j
 have h0:x/2^j≠0:=by
  have:=Nat.div_pos h hp
  omega
 have a:=Of h0
 have b:=Sd (x/2^j)
 have c:=SI h0
 obtain⟨m,hm⟩:∃m,bl (x/2^j)=m+1:=⟨bl (x/2^j)-1,by omega⟩
 rw[hm,Nat.add_sub_cancel]at a
 rw[hm]at b⊢
 have h1:2^(m+j)<=x:=by
  rw[Nat.pow_add]
  exact VG (V3 _ a) (Nat.div_mul_le_self _ _)
 have h2:x<2^(m+j+1):=by
  rw[show m+j+1=(m+1)+j from by omega,Nat.pow_add]
  exact(Nat.div_lt_iff_lt_mul hp).1 b
 rw[Tz h1 h2];omega
theorem Mf{x n:Nat}(hx:x<256)(hn:n<=1000)(R:Wn->Wm->Prop)(w:Wm)(h:R (.int .i64 ((n+bl x:Nat):Int)) w):
 oF R (.int .u64 x) (.int .i64 n) w:=by
 have hg:=Qn x hx
 have hs:=HA
 have hb:bl x<=8:=LP (n:=8) (by omega)
 unfold oF
 change aB pg _ w λt21 w=>aB pg (Pg 9 (.string Nj) t21) w _
 simp(disch:=omega)only[aB,yN,Tr,aV,Eo,U3,hg,Cj,Ca,Ie]
 rw[Int.natCast_add]at h
 exact h
theorem Qc(a b:Nat):((a:Int)).fdiv (b:Int)=((a/b:Nat):Int):=by rw[Int.fdiv_eq_ediv_of_nonneg _ (by omega)]<;>rfl
theorem Lt(x j:Nat)(hj:j<=64):((x:Int)).fdiv (2^(min (j:Nat) IntKind.u64.bits))=((x/2^j:Nat):Int):=by
 have e:min j IntKind.u64.bits=j:=by simp only[IntKind.bits];omega
 rw[e,<-Qc];simp
theorem RN(x:Nat)(hx:x<18446744073709551616)(w:Wm):aH pg pL #[.int .u64 x] w (λr w'=>r= .int .i64 (bl x:Nat)/\w'=w):=by
 refine DU ?_
 unfold CT Ar Aq
 have step8:∀(y n:Nat),y<65536->n<=64->n+bl y=bl x->oH (λr w'=>r= .int .i64 (bl x:Nat)/\w'=w) (.int .u64 y) (.int .i64 n) w:=by
  intro y n hy hn e
  unfold oH Ao
  by_cases h:256<=y
  .have d:decide ((256:Int)<=(y:Int))=true:=by simp;omega
   have sh:=Lt y 8 (by omega)
   have hq:y/2^8<256:=by omega
   have:=Jb (x:=y) (j:=8) (by omega)
   have e2:(n:Int)+8=((n+8:Nat):Int):=by omega
   simp(disch:=omega)only[aB,B4,d,Ig,Ie,e2,Ca,aV,jG]
   rw[show(8:Int).toNat=8 from rfl,sh]
   exact Mf hq (by omega) _ _ ⟨by rw[<-e,this];congr 2;omega,rfl⟩
  .have d:decide ((256:Int)<=(y:Int))=false:=by simp;omega
   simp(disch:=omega)only[aB,B4,d,Ig,Ie,Ca,aV,eE]
   exact Mf (by omega) (by omega) _ _ ⟨by rw[e],rfl⟩
 have step16:∀(y n:Nat),y<4294967296->n<=32->n+bl y=bl x->oI (λr w'=>r= .int .i64 (bl x:Nat)/\w'=w) (.int .u64 y) (.int .i64 n) w:=by
  intro y n hy hn e
  unfold oI Ap
  by_cases h:65536<=y
  .have d:decide ((65536:Int)<=(y:Int))=true:=by simp;omega
   have sh:=Lt y 16 (by omega)
   have hq:y/2^16<65536:=by omega
   have:=Jb (x:=y) (j:=16) (by omega)
   have e2:(n:Int)+16=((n+16:Nat):Int):=by omega
   simp(disch:=omega)only[aB,B4,d,Ig,Ie,e2,Ca,aV,jG]
   rw[show(16:Int).toNat=16 from rfl,sh]
   exact step8 _ _ hq (by omega) (by rw[<-e,this];omega)
  .have d:decide ((65536:Int)<=(y:Int))=false:=by simp;omega
   simp(disch:=omega)only[aB,B4,d,Ig,Ie,Ca,aV,eE]
   exact step8 _ _ (by omega) (by omega) e
 by_cases h:4294967296<=x
 .have d:decide ((4294967296:Int)<=(x:Int))=true:=by simp;omega
  have sh:=Lt x 32 (by omega)
  have hq:x/2^32<4294967296:=by omega
  have:=Jb (x:=x) (j:=32) (by omega)
  simp(disch:=omega)only[aB,B4,d,Ig,aV,jG]
  rw[show(32:Int).toNat=32 from rfl,sh]
  exact step16 _ 32 hq (by omega) (by rw[this];omega)
 .have d:decide ((4294967296:Int)<=(x:Int))=false:=by simp;omega
  simp(disch:=omega)only[aB,B4,d,Ig,aV,eE]
  exact step16 _ 0 (by omega) (by omega) (by omega)
theorem Qo(x:Nat)(hx:x<18446744073709551616)(w:Wm):aH pg oQ #[.int .u64 x] w (λr w'=>r= .int .i64 (bl x:Nat)/\w'=w):=by
 refine F8 ?_
 simp(disch:=omega)only[Fm,BZ,aB,zW,aV,eE]
 exact RN x hx w
end Go.Proofs.Ytmhokapokchneaa
namespace Go.Proofs.Ytmhokapokchneaa
open Go Go.En Go.Pu
set_option maxRecDepth 4000
set_option maxHeartbeats 2000000
theorem Qk{a:Option Addr}{c:Nat}{w:Wm}:aH pg aZ #[.slice a 0 c,.int .i64 0,.int .i64 (0:Nat)] w (λr w'=>r= .tuple #[]/\w'=w):=by
 refine jM ?_
 have z1:(0:Int)+1=((1:Nat):Int):=rfl
 unfold gU fB fA
 simp(disch:=omega)only[aB,Ie,z1,Ca,true_and,aV]
 unfold bW
 refine bL.rule (λm (t:Wn) w'=>m=0/\t= .int .i64 ((1:Nat):Int)/\w'=w) 0 ⟨rfl,rfl,rfl⟩ ?_
 rintro m t w1 ⟨rfl,rfl,rfl⟩
 have d1:decide (((1:Nat):Int)<((0:Nat):Int))=false:=rfl
 unfold cX fP
 simp(disch:=omega)only[aB,yC,d1,aV,eE]
theorem TI{a:Option Addr}{n c:Nat}{l:Int}{w:Wm}{R:Wn->Wm->Prop}(hn:n<=12)(h:aH pg aZ #[.slice a n c,.int .i64 0,.int .i64 (n:Nat)] w (λr w'=>R (.tuple #[]) w')):
 aH pg aY #[.slice a n c,.int .i64 0,.int .i64 (n:Nat),.int .i64 l] w R:=by
 refine iP ?_
 unfold iC eQ eP cG
 refine bL.rule (λm (t:Wn×Wn×Wn×Wn×Wn) w'=>m=0/\t=(.int .i64 0,.int .i64 (n:Nat),.int .i64 l,.bool true,.bool true)/\w'=w) 0 ⟨rfl,rfl,rfl⟩ ?_
 rintro m t w1 ⟨rfl,rfl,rfl⟩
 unfold cF fG fF
 have q1:((n:Nat):Int)-0=((n:Nat):Int):=by omega
 have d1:decide (((n:Nat):Int)<=12)=true:=by simp only[decide_eq_true_eq];omega
 simp(disch:=omega)only[aB,QL,q1,Ca,GY,QK,VV,aV,eE,QI,d1,jG]
 exact h
theorem Tf{a:Option Addr}{n c:Nat}{w:Wm}{R:Wn->Wm->Prop}(hn:n<=12)(h:aH pg aZ #[.slice a n c,.int .i64 0,.int .i64 (n:Nat)] w (λr w'=>R (.tuple #[]) w')):
 aH pg iT #[.slice a n c] w R:=by
 refine vM ?_
 unfold wN rI
 have e1:IntKind.u64.wrap ((n:Nat):Int)=((n:Nat):Int):=KQ (by omega) (by omega)
 simp(disch:=omega)only[aB,Cn,aV,Dw,e1]
 refine(Qo n (by omega) w).mono ?_
 rintro r w1 ⟨rfl,rfl⟩
 exact TI hn h
end Go.Proofs.Ytmhokapokchneaa
namespace Go.Proofs.Ytmhokapokchneaa
open Go Go.En Go.Pu Go.Sort
set_option maxRecDepth 4000
theorem Ez:SWO fW where
 irrefl:=A3
 trans:=λ_ _ _=>zN
 ntrans:=λx y z h1 h2=>by
  by_cases e1:x=y
  .rw [e1];exact h2
  .have h3:=Er e1 h1
   by_cases e2:y=z
   .rw [<-e2];exact h1
   .have h4:=Er e2 h2
    have h5:=zN h4 h3
    cases h6:fW x z with
    |false=>rfl
    |true=>have:=zN h5 h6;rw[A3]at this;cases this
abbrev iD(d:Array ByteArray):List Wn:=d.toList.map Value.string
theorem gS(d:Array ByteArray):(iD d).length=d.size:=by simp
theorem Ug{d:Array ByteArray}{i:Nat}(h:i<d.size):d.toList[i]?=some d[i]! :=by
 rw[getElem!_pos d i h,VK,U2 h]
theorem dG{W:Wm}{b i:Nat}{d:Array ByteArray}{rest:List Wn}(o:bE W b (iD d++rest))(h:i<d.size):W.cell? ⟨b,i,none⟩=some (.string d[i]!):=by
 rw[o.cell,U8 (by rw[gS];exact h),Vt,Ug h]
 rfl
theorem xH{d:Array ByteArray}{i j:Nat}{rest:List Wn}(hi:i<d.size)(hj:j<d.size):((iD d++rest).set i (.string d[j]!)).set j (.string d[i]!)=iD (swp d i j)++rest:=by
 rw[Wi _ _ (by rw[gS];exact hi),Wi _ _ (by rw[Vf,gS];exact hj)]
 unfold iD swp
 rw[Array.toList_setIfInBounds,Array.toList_setIfInBounds,List.map_set,List.map_set]
abbrev rW(b n c:Nat):Wn:= .slice (some ⟨b,0,none⟩) n c
theorem Jy{b c x y sp:Nat}{s:Nat}{d:Array ByteArray}{rest:List Wn}{w:Wm}(o:bE w b (iD d++rest))(hx:x<d.size)(hy:y<d.size)(hd:d.size<=1000000)(os:bE w sp [.int .i64 (s:Nat)])(hs:s<=1000000):
 aH pg cO #[rW b d.size c,.int .i64 (x:Nat),.int .i64 (y:Nat),.pointer (some ⟨sp,0,none⟩)] w (λr w'=>∃x' y' s':Nat,r= .tuple #[.int .i64 (x':Nat),.int .i64 (y':Nat)]/\((x'=x/\y'=y)∨(x'=y/\y'=x))/\bE w' sp [.int .i64 (s':Nat)]/\s'<=s+1/\aJ w w' (λz=>z=sp)):=by
 refine wP ?_
 unfold rD pA
 have cx:=dG (aP o) hx
 have cy:=dG (aP o) hy
 simp(disch:=omega)only[SV,cx,cy]
 refine(pC _ _ _).mono ?_
 rintro r w1 ⟨rfl,rfl⟩
 have cs:=(aP os).cell (off:=0)
 simp only[UP]at cs
 have e1:((s:Nat):Int)+1=((s+1:Nat):Int):=by omega
 cases hl:fW d[y]! d[x]! with
 |true=>
  simp(disch:=omega)only[SV,hl,cs,e1]
  refine Eg (aP os) rfl (by simp) λw2 o2 x2 s2=> ?_
  exact⟨y,x,s+1,rfl,.inr ⟨rfl,rfl⟩,o2,by omega,(aJ.dr _ _).seq x2⟩
 |false=>
  simp(disch:=omega)only[SV,hl]
  exact⟨x,y,s,rfl,.inl ⟨rfl,rfl⟩,aP os,by omega,aJ.dr _ _⟩
theorem Qs{b c x y z sp:Nat}{s:Nat}{d:Array ByteArray}{rest:List Wn}{w:Wm}(o:bE w b (iD d++rest))(hx:x<d.size)(hy:y<d.size)(hz:z<d.size)(hd:d.size<=1000000)(os:bE w sp [.int .i64 (s:Nat)])(hs:s<=1000)(hb:b≠sp):
 aH pg fZ #[rW b d.size c,.int .i64 (x:Nat),.int .i64 (y:Nat),.int .i64 (z:Nat),.pointer (some ⟨sp,0,none⟩)] w (λr w'=>∃m s':Nat,r= .int .i64 (m:Nat)/\(m=x∨m=y∨m=z)/\bE w' sp [.int .i64 (s':Nat)]/\s'<=s+3/\aJ w w' (λz=>z=sp)):=by
 refine wO ?_
 unfold rC oZ
 refine(Jy o hx hy hd os (by omega)).mono ?_
 rintro r w1 ⟨x1,y1,s1,rfl,h1,o1,hs1,e1⟩
 simp(disch:=omega)only[SV]
 have ob1:=o.ext e1 hb
 refine(Jy ob1 (x:=y1) (y:=z) (by omega) hz hd o1 (by omega)).mono ?_
 rintro r w2 ⟨x2,y2,s2,rfl,h2,o2,hs2,e2⟩
 simp(disch:=omega)only[SV]
 have ob2:=ob1.ext e2 hb
 refine(Jy ob2 (x:=x1) (y:=x2) (by omega) (by omega) hd o2 (by omega)).mono ?_
 rintro r w3 ⟨x3,y3,s3,rfl,h3,o3,hs3,e3⟩
 simp(disch:=omega)only[SV]
 exact⟨y3,s3,rfl,by omega,o3,by omega,(e1.seq e2).seq e3⟩
theorem TO(k:Nat)(h:k<=20):IntKind.u64.wrap (1*2^(min k IntKind.u64.bits))=((2^k:Nat):Int):=by
 have:∀k:Fin 21,IntKind.u64.wrap (1*2^(min k.val IntKind.u64.bits))=((2^k.val:Nat):Int):=by decide
 exact this ⟨k,by omega⟩
theorem Re(a b:Int):∃n:Nat,MT .u64 a b=(n:Int)/\n<2^64:=by
 unfold MT
 refine⟨(IntKind.u64.wrap ((BitVec.ofInt IntKind.u64.bits a^^^BitVec.ofInt IntKind.u64.bits b).toNat:Int)).toNat, ?_, ?_⟩<;>rw[show∀z:Int,IntKind.u64.wrap z=z%18446744073709551616 fromλ_=>rfl]<;>omega
theorem RQ{n:Nat}{w:Wm}(hn:n<=1000000):aH pg jK #[.int .i64 (n:Nat)] w (λr w'=>r= .int .u64 ((2^bl n:Nat):Int)/\w'=w):=by
 refine AF ?_
 unfold vO sE
 have e1:IntKind.u64.wrap ((n:Nat):Int)=((n:Nat):Int):=KQ (by omega) (by omega)
 simp(disch:=omega)only[SV,e1]
 refine(Qo n (by omega) w).mono ?_
 rintro r w1 ⟨rfl,rfl⟩
 have hb:bl n<=20:=by
  unfold bl
  split
  .omega
  .have h2:n.log2<20:=(Nat.log2_lt (by omega)).2 (by omega)
   omega
 have q1:=TO (bl n) hb
 simp(disch:=omega)only[SV,q1]
theorem T5 {p:Nat}{v:Nat}{w:Wm}(o:bE w p [.int .u64 (v:Nat)])(hv:v<2^64):aH pg kB #[.pointer (some ⟨p,0,none⟩)] w (λr w'=>∃v':Nat,r= .int .u64 (v':Nat)/\v'<2^64/\bE w' p [.int .u64 (v':Nat)]/\aJ w w' (λz=>z=p)):=by
 refine AM ?_
 unfold yG tU
 have c0:=(aP o).cell (off:=0)
 simp only[UP]at c0
 simp(disch:=omega)only[SV,c0,Int.reduceToNat]
 obtain⟨v1,h1,hv1⟩:=Re (v:Nat) (IntKind.u64.wrap ((v:Nat)*2^min 13 IntKind.u64.bits))
 simp(disch:=omega)only[SV,h1]
 refine oN (aP o) rfl (by simp) λw1 o1 x1 s1=> ?_
 simp only[U7]at o1
 have c1:=(aP o1).cell (off:=0)
 simp only[UP]at c1
 simp(disch:=omega)only[SV,c1]
 generalize hz2:MT IntKind.u64 (v1:Nat) _=z2
 obtain⟨v2,h2,hv2⟩:∃n:Nat,z2=(n:Int)/\n<2^64:=hz2▸Re _ _
 subst h2
 refine oN (aP o1) rfl (by simp) λw2 o2 x2 s2=> ?_
 simp only[U7]at o2
 have c2:=(aP o2).cell (off:=0)
 simp only[UP]at c2
 simp(disch:=omega)only[SV,c2]
 generalize hz3:MT IntKind.u64 (v2:Nat) _=z3
 obtain⟨v3,h3,hv3⟩:∃n:Nat,z3=(n:Int)/\n<2^64:=hz3▸Re _ _
 subst h3
 refine oN (aP o2) rfl (by simp) λw3 o3 x3 s3=> ?_
 simp only[U7]at o3
 have c3:=o3.cell (off:=0)
 simp only[UP]at c3
 simp(disch:=omega)only[SV,c3]
 exact⟨v3,rfl,hv3,o3,((((aJ.dr _ _).seq x1).seq (aJ.dr _ _)).seq x2).seq ((aJ.dr _ _).seq x3)⟩
def Rr(b:Nat)(rest:List Wn)(a e:Nat)(d:Array ByteArray)(w':Wm):Prop:=∃d',bE w' b (iD d'++rest)/\PermIn a e d d'
theorem Pa{b c a e:Nat}{d:Array ByteArray}{rest:List Wn}{w:Wm}(o:bE w b (iD d++rest))(hae:a<=e)(he1:1<=e)(he:e<=d.size)(hd:d.size<=1000000):
 aH pg dX #[rW b d.size c,.int .i64 (a:Nat),.int .i64 (e:Nat)] w (λr w'=>r= .tuple #[]/\Rr b rest a e d w'/\aJ w w' (λy=>y=b)):=by
 refine rK ?_
 obtain⟨RR,hRR⟩:∃RR:Wn->Wm->Prop,RR=λr w'=>r= .tuple #[]/\Rr b rest a e d w'/\aJ w w' (λy=>y=b):=⟨_,rfl⟩
 rw[<-hRR]
 unfold mQ lE lD
 have e1:((e:Nat):Int)-1=((e-1:Nat):Int):=by omega
 simp(disch:=omega)only[SV,e1]
 unfold dV
 refine bL.rule (λm (t:Wn×Wn) w'=>∃(i j:Int) (d':Array ByteArray),m=(j-i+1).toNat/\t=(.int .i64 i,.int .i64 j)/\(a:Int)<=i/\j<(e:Nat)/\ -1<=j/\i<=2000000/\bE w' b (iD d'++rest)/\PermIn a e d d'/\aJ w w' (λy=>y=b)) _
  ⟨_,_,d,rfl,rfl,by omega,by omega,by omega,by omega,o,permIn_refl _ _ _,aJ.refl _ _⟩ ?_
 rintro m t w1 ⟨i,j,d',rfl,rfl,hi,hj,hj1,hi2,o1,hp,x1⟩
 have hsz:=hp.1
 unfold fS
 by_cases hlt:i<j
 .have d1:decide (i<j)=true:=decide_eq_true hlt
  obtain⟨i',rfl⟩:∃i':Nat,i=(i':Int):=⟨i.toNat,by omega⟩
  obtain⟨j',rfl⟩:∃j':Nat,j=(j':Int):=⟨j.toNat,by omega⟩
  have ci:=dG (aP o1) (i:=i') (by omega)
  have cj:=dG (aP o1) (i:=j') (by omega)
  simp(disch:=omega)only[SV,d1,ci,cj]
  refine eF (aP o1) rfl (by rw[UO,gS];omega) λw2 o2 x2 s2=> ?_
  try simp(disch:=omega)only[SV]
  refine eF o2 rfl (by rw[Vf,UO,gS];omega) λw3 o3 x3 s3=> ?_
  rw[xH (by omega) (by omega)]at o3
  have q1:((i':Nat):Int)+1=((i'+1:Nat):Int):=by omega
  have q2:((j':Nat):Int)-1=((j'-1:Nat):Int):=by omega
  simp(disch:=omega)only[SV,q1,q2]
  exact⟨(((j'-1:Nat):Int)-((i'+1:Nat):Int)+1).toNat,by omega,_,_,swp d' i' j',rfl,rfl,by omega,by omega,by omega,by omega,o3,permIn_trans _ _ _ _ _ hp (swp_permIn _ _ _ _ _ (by omega) (by omega) (by omega) (by omega) (by omega)),((x1.seq (aJ.dr _ _)).seq x2).seq x3⟩
 .have d1:decide (i<j)=false:=decide_eq_false hlt
  simp(disch:=omega)only[SV,d1]
  rw[hRR]
  exact⟨rfl,⟨d',o1,hp⟩,x1⟩
theorem Ty{a b:Nat}:∃n:Nat,M0 .u64 (a:Int) (b:Int)=(n:Int)/\n<=b:=by
 refine⟨(BitVec.ofInt 64 (a:Int)&&&BitVec.ofInt 64 (b:Int)).toNat, ?_, ?_⟩
 .unfold M0
  rw[show IntKind.u64.bits=64 from rfl,show∀z:Int,IntKind.u64.wrap z=z%18446744073709551616 fromλ_=>rfl]
  have:=(BitVec.ofInt 64 (a:Int)&&&BitVec.ofInt 64 (b:Int)).isLt
  omega
 .rw [BitVec.toNat_and]
  refine VG Nat.and_le_right ?_
  rw[BitVec.ofInt_natCast,BitVec.toNat_ofNat]
  exact Nat.mod_le _ _
theorem SJ{n:Nat}(h:1<=n):1<=2^bl n/\2^bl n<=2*n:=by
 refine⟨Nat.one_le_two_pow, ?_⟩
 unfold bl
 rw[if_neg (by omega),Nat.pow_succ,Nat.mul_comm]
 exact Nat.mul_le_mul_left 2 (Nat.log2_self_le (by omega))
theorem Rx{b c a e:Nat}{d:Array ByteArray}{rest:List Wn}{w:Wm}(o:bE w b (iD d++rest))(hae:a<=e)(he:e<=d.size)(hd:d.size<=1000000):
 aH pg dT #[rW b d.size c,.int .i64 (a:Nat),.int .i64 (e:Nat)] w (λr w'=>r= .tuple #[]/\Rr b rest a e d w'/\aJ w w' (λy=>y=b)):=by
 refine qR ?_
 obtain⟨RR,hRR⟩:∃RR:Wn->Wm->Prop,RR=λr w'=>r= .tuple #[]/\Rr b rest a e d w'/\aJ w w' (λy=>y=b):=⟨_,rfl⟩
 rw[<-hRR]
 unfold lX jZ jY
 have e1:((e:Nat):Int)-((a:Nat):Int)=((e-a:Nat):Int):=by omega
 obtain⟨n,hn⟩:∃n,n=e-a:=⟨_,rfl⟩
 rw[<-hn]at e1
 by_cases h8:n<8
 .have d1:decide ((8:Int)<=((n:Nat):Int))=false:=decide_eq_false (by omega)
  simp(disch:=omega)only[SV,e1,d1]
  unfold cW jX
  simp(disch:=omega)only[SV]
  rw[hRR]
  exact⟨rfl,⟨d,o,permIn_refl _ _ _⟩,aJ.refl _ _⟩
 have d1:decide ((8:Int)<=((n:Nat):Int))=true:=decide_eq_true (by omega)
 simp(disch:=omega)only[SV,e1,d1]
 unfold cW jW jV
 have e2:IntKind.u64.wrap ((n:Nat):Int)=((n:Nat):Int):=KQ (by omega) (by omega)
 simp(disch:=omega)only[SV,e2]
 refine FO λw1 o1 x1 s1=> ?_
 obtain⟨rp,hrp⟩:∃rp,rp=w.heap.size:=⟨_,rfl⟩
 rw[<-hrp]at o1⊢
 refine oN o1 rfl (by simp) λw2 o2 x2 s2=> ?_
 have o2:bE w2 rp [.int .u64 (n:Nat)]:=o2
 have hb:=o.lt
 have hbr:b≠rp:=by omega
 have x02:aJ w w2 (λy=>y=b):=(x1.trans x2 λy hy h=>by omega:aJ w w2 bR).mono λ_ _ h=>h.elim
 have ob2:bE w2 b (iD d++rest):=(o.ext x1 (λh=>h)).ext x2 hbr
 refine(RQ (n:=n) (by omega)).mono ?_
 rintro r w3 ⟨rfl,hw3⟩
 rw[hw3];clear hw3 w3
 obtain⟨M,hM⟩:∃M,M=2^bl n:=⟨_,rfl⟩
 have hM2:=SJ (n:=n) (by omega)
 rw[<-hM]at hM2⊢
 have q1:((n:Nat):Int).tdiv 4=((n/4:Nat):Int):=rfl
 obtain⟨K,hK⟩:∃K,K=n/4:=⟨_,rfl⟩
 rw[<-hK]at q1
 have q2:((K:Nat):Int)*2=((K*2:Nat):Int):=by omega
 have q3:((a:Nat):Int)+((K*2:Nat):Int)=((a+K*2:Nat):Int):=by omega
 have q4:((a+K*2:Nat):Int)-1=((a+K*2-1:Nat):Int):=by omega
 have q5:((a+K*2:Nat):Int)+1=((a+K*2+1:Nat):Int):=by omega
 have n4:((4:Int)==0)=false:=rfl
 simp(disch:=omega)only[SV,q1,q2,q3,q4,n4]
 unfold dC
 refine bL.rule (λm (t:Wn) w'=>∃(i v:Nat) (d':Array ByteArray),m=a+K*2+2-i/\t= .int .i64 (i:Nat)/\a+K*2-1<=i/\i<=a+K*2+2/\bE w' rp [.int .u64 (v:Nat)]/\v<2^64/\bE w' b (iD d'++rest)/\PermIn a e d d'/\aJ w2 w' (λy=>y=b∨y=rp)) _
  ⟨_,n,d,rfl,rfl,by omega,by omega,o2,by omega,ob2,permIn_refl _ _ _,aJ.refl _ _⟩ ?_
 rintro m t w4 ⟨i,v,d',rfl,rfl,hi1,hi2,o4,hv,ob4,hp,x4⟩
 have hsz:=hp.1
 unfold fL kK
 by_cases hlt:i<=a+K*2+1
 rotate_left
 .have d2:decide (((i:Nat):Int)<=((a+K*2+1:Nat):Int))=false:=decide_eq_false (by omega)
  simp(disch:=omega)only[SV,q1,q2,q3,q5,n4,d2]
  rw[hRR]
  exact⟨rfl,⟨d',ob4,hp⟩,x02.trans x4 λy hy h=>by omega⟩
 have d2:decide (((i:Nat):Int)<=((a+K*2+1:Nat):Int))=true:=decide_eq_true (by omega)
 simp(disch:=omega)only[SV,q1,q2,q3,q5,n4,d2]
 unfold fK fJ kJ
 refine(T5 o4 hv).mono ?_
 rintro r w5 ⟨v',rfl,hv',o5,x5⟩
 have ob5:=ob4.ext x5 hbr
 have q6:((M:Nat):Int)-1=((M-1:Nat):Int):=by omega
 obtain⟨t,ht,htM⟩:=Ty (a:=v') (b:=M-1)
 have go:∀u:Nat,u<n->dB (dA λ_ _ _ _ _ kR w=>∃m,m<a+K*2+2-i/\∃(i v:Nat) (d':Array ByteArray),m=a+K*2+2-i/\kR= .int .i64 (i:Nat)/\a+K*2-1<=i/\i<=a+K*2+2/\bE w rp [.int .u64 (v:Nat)]/\v<2^64/\bE w b (iD d'++rest)/\PermIn a e d d'/\aJ w2 w (λy=>y=b∨y=rp)) (rW b d.size c) (.int .i64 (a:Nat)) (.int .i64 (n:Nat)) (.pointer (some ⟨rp,0,none⟩)) (.int .u64 (M:Nat)) (.int .i64 (i:Nat)) (.int .i64 (u:Nat)) w5:=by
  intro u hu
  unfold dB
  have q7:((a:Nat):Int)+((u:Nat):Int)=((a+u:Nat):Int):=by omega
  have ci:=dG (aP ob5) (i:=i) (by omega)
  have cu:=dG (aP ob5) (i:=a+u) (by omega)
  simp(disch:=omega)only[SV,q7,ci,cu]
  refine eF (aP ob5) rfl (by rw[UO,gS];omega) λw6 o6 x6 s6=> ?_
  try simp(disch:=omega)only[SV,q7]
  refine eF o6 rfl (by rw[Vf,UO,gS];omega) λw7 o7 x7 s7=> ?_
  rw[xH (by omega) (by omega)]at o7
  unfold dA
  have q8:((i:Nat):Int)+1=((i+1:Nat):Int):=by omega
  simp(disch:=omega)only[SV,q8]
  exact⟨a+K*2+2-(i+1),by omega,i+1,v',swp d' i (a+u),rfl,rfl,by omega,by omega,((o5.ext (aJ.dr _ bR) (λh=>h)).ext x6 (Ne.symm hbr)).ext x7 (Ne.symm hbr),hv',o7,permIn_trans _ _ _ _ _ hp (swp_permIn _ _ _ _ _ (by omega) (by omega) (by omega) (by omega) (by omega)),(((x4.seq (x5.mono λ_ _ h=> .inr h)).seq (aJ.dr _ _)).seq (x6.mono λ_ _ h=> .inl h)).seq (x7.mono λ_ _ h=> .inl h)⟩
 by_cases hge:n<=t
 .have d3:decide (((n:Nat):Int)<=((t:Nat):Int))=true:=decide_eq_true (by omega)
  have q9:((t:Nat):Int)-((n:Nat):Int)=((t-n:Nat):Int):=by omega
  simp(disch:=omega)only[SV,q6,ht,d3,q9]
  exact go (t-n) (by omega)
 .have d3:decide (((n:Nat):Int)<=((t:Nat):Int))=false:=decide_eq_false (by omega)
  simp(disch:=omega)only[SV,q6,ht,d3]
  exact go t (by omega)
theorem PS{b c a e:Nat}{d:Array ByteArray}{rest:List Wn}{w:Wm}(o:bE w b (iD d++rest))(hae:a<e)(h50:e-a<50)(he:e<=d.size)(hd:d.size<=1000000):
 aH pg eA #[rW b d.size c,.int .i64 (a:Nat),.int .i64 (e:Nat)] w (λr w'=>(∃m h:Nat,r= .tuple #[.int .i64 (m:Nat),.int .i64 (h:Nat)]/\a<=m/\m<e/\h<=2)/\aJ w w' bR):=by
 refine sD ?_
 obtain⟨RR,hRR⟩:∃RR:Wn->Wm->Prop,RR=λr w'=>(∃m h:Nat,r= .tuple #[.int .i64 (m:Nat),.int .i64 (h:Nat)]/\a<=m/\m<e/\h<=2)/\aJ w w' bR:=⟨_,rfl⟩
 rw[<-hRR]
 unfold nH lC lB
 have e1:((e:Nat):Int)-((a:Nat):Int)=((e-a:Nat):Int):=by omega
 obtain⟨n,hn⟩:∃n,n=e-a:=⟨_,rfl⟩
 rw[<-hn]at e1
 simp(disch:=omega)only[SV,e1]
 refine SF λw1 o1 x1 s1=> ?_
 obtain⟨sp,hsp⟩:∃sp,sp=w.heap.size:=⟨_,rfl⟩
 rw[<-hsp]at o1⊢
 have o1:bE w1 sp [.int .i64 ((0:Nat):Int)]:=o1
 have hb:=o.lt
 have ob1:=o.ext x1 (λh=>h)
 have q1:((n:Nat):Int).tdiv 4=((n/4:Nat):Int):=rfl
 obtain⟨K,hK⟩:∃K,K=n/4:=⟨_,rfl⟩
 rw[<-hK]at q1
 have q0:((K:Nat):Int)*1=((K:Nat):Int):=by omega
 have q2:((K:Nat):Int)*2=((K*2:Nat):Int):=by omega
 have q3:((K:Nat):Int)*3=((K*3:Nat):Int):=by omega
 have q4:((a:Nat):Int)+((K:Nat):Int)=((a+K:Nat):Int):=by omega
 have q5:((a:Nat):Int)+((K*2:Nat):Int)=((a+K*2:Nat):Int):=by omega
 have q6:((a:Nat):Int)+((K*3:Nat):Int)=((a+K*3:Nat):Int):=by omega
 have n4:((4:Int)==0)=false:=rfl
 simp(disch:=omega)only[SV,q1,q0,q2,q3,q4,q5,q6,n4]
 unfold gE gD lK
 have fin:∀(m s:Nat) (W:Wm),a<=m->m<e->bE W sp [.int .i64 (s:Nat)]->aJ w W bR->dY RR (.pointer (some ⟨sp,0,none⟩)) (.int .i64 (m:Nat)) W:=by
  intro m s W h1 h2 oW xW
  unfold dY
  have cs:=oW.cell (off:=0)
  simp only[UP]at cs
  cases hs0:(((s:Nat):Int)==0)with
  |true=>
   simp(disch:=omega)only[SV,cs,hs0]
   rw[hRR];exact⟨⟨m,1,rfl,h1,h2,by omega⟩,xW⟩
  |false=>
   cases hs2:(((s:Nat):Int)==12)with
   |true=>
    simp(disch:=omega)only[SV,cs,hs0,hs2]
    rw[hRR];exact⟨⟨m,2,rfl,h1,h2,by omega⟩,xW⟩
   |false=>
    simp(disch:=omega)only[SV,cs,hs0,hs2]
    rw[hRR];exact⟨⟨m,0,rfl,h1,h2,by omega⟩,xW⟩
 by_cases h8:8<=n
 .have d1:decide ((8:Int)<=((n:Nat):Int))=true:=decide_eq_true (by omega)
  have d2:decide ((50:Int)<=((n:Nat):Int))=false:=decide_eq_false (by omega)
  simp(disch:=omega)only[SV,d1]
  unfold dZ lI lH
  simp(disch:=omega)only[SV,d2]
  unfold gC
  refine(Qs ob1 (x:=a+K) (y:=a+K*2) (z:=a+K*3) (by omega) (by omega) (by omega) hd o1 (by omega) (by omega)).mono ?_
  rintro r w2 ⟨m,s',rfl,hm,o2,hs',x2⟩
  try simp(disch:=omega)only[SV]
  exact fin m s' w2 (by omega) (by omega) o2 (x1.trans x2 λy hy h=>by omega)
 .have d1:decide ((8:Int)<=((n:Nat):Int))=false:=decide_eq_false (by omega)
  simp(disch:=omega)only[SV,d1]
  unfold dZ lJ
  try simp(disch:=omega)only[SV]
  exact fin (a+K*2) 0 w1 (by omega) (by omega) o1 x1
theorem NK{a e:Nat}{d:Array ByteArray}(h:∀k,a+1<=k->k<e->fW d[k]! d[k-1]! =false):SortedIn fW a e d:=by
 intro i j hi hij hj
 induction j with
 |zero=>omega
 |succ j ih=>
  have h1:=h (j+1) (by omega) hj
  by_cases he:i=j
  .rw [he];exact h1
  .exact Ez.ntrans _ _ _ h1 (ih (by omega) (by omega))
theorem O6 {b c a e:Nat}{d:Array ByteArray}{rest:List Wn}{w:Wm}(o:bE w b (iD d++rest))(hae:a<e)(h50:e-a<50)(he:e<=d.size)(hd:d.size<=1000000):
 aH pg cA #[rW b d.size c,.int .i64 (a:Nat),.int .i64 (e:Nat)] w (λr w'=>(∃k:Bool,r= .bool k/\(k=true->SortedIn fW a e d))/\aJ w w' bR):=by
 refine nK ?_
 obtain⟨RR,hRR⟩:∃RR:Wn->Wm->Prop,RR=λr w'=>(∃k:Bool,r= .bool k/\(k=true->SortedIn fW a e d))/\aJ w w' bR:=⟨_,rfl⟩
 rw[<-hRR]
 unfold jC gQ gP
 have e1:((a:Nat):Int)+1=((a+1:Nat):Int):=by omega
 simp(disch:=omega)only[SV,e1]
 unfold dO dN gO bU
 refine bL.rule (λm (t:Wn×Wn) w'=>m=0/\t=(.int .i64 ((a+1:Nat):Int),.int .i64 0)/\w'=w) 0 ⟨rfl,rfl,rfl⟩ ?_
 rintro m t w1 ⟨rfl,rfl,rfl⟩
 unfold dM gK
 have d0:decide ((0:Int)<5)=true:=rfl
 simp(disch:=omega)only[SV,d0,decide_true]
 unfold dL dK bT
 refine bL.rule (λm (t:Wn) w'=>∃i:Nat,m=e-i/\t= .int .i64 (i:Nat)/\a+1<=i/\i<=e/\(∀k,a+1<=k->k<i->fW d[k]! d[k-1]! =false)/\aJ w1 w' bR) _ ⟨_,rfl,rfl,by omega,by omega,λk h1 h2=>by omega,aJ.refl _ _⟩ ?_
 rintro m t w2 ⟨i,rfl,rfl,hi1,hi2,hk,x2⟩
 have o2:=(o.ext x2 (λh=>h)).ext (aJ.dr _ bR) (λh=>h)
 have xd:=x2.seq (aJ.dr _ bR)
 unfold dJ
 have q2:((e:Nat):Int)-((a:Nat):Int)=((e-a:Nat):Int):=by omega
 have d50:decide (((e-a:Nat):Int)<50)=true:=decide_eq_true (by omega)
 by_cases hlt:i<e
 .have d1:decide (((i:Nat):Int)<((e:Nat):Int))=true:=decide_eq_true (by omega)
  have q1:((i:Nat):Int)-1=((i-1:Nat):Int):=by omega
  have ci:=dG o2 (i:=i) (by omega)
  have cj:=dG o2 (i:=i-1) (by omega)
  have q3:((i:Nat):Int)+1=((i+1:Nat):Int):=by omega
  simp(disch:=omega)only[SV,d1,q1,ci,cj]
  refine(pC _ _ _).mono ?_
  rintro r w3 ⟨rfl,rfl⟩
  cases hl:fW d[i]! d[i-1]! with
  |false=>
   simp(disch:=omega)only[SV,hl,q3]
   exact⟨e-(i+1),by omega,i+1,rfl,rfl,by omega,by omega,λk h1 h2=>by
    by_cases hki:k=i
    .rw [hki];exact hl
    .exact hk k h1 (by omega),xd⟩
  |true=>
   have k1:(((i:Nat):Int)==((e:Nat):Int))=false:=beq_eq_false_iff_ne.2 (by omega)
   simp(disch:=omega)only[SV,hl]
   unfold bS dI
   simp(disch:=omega)only[SV,k1,q2,d50]
   rw[hRR]
   exact⟨⟨false,rfl,λh=>by cases h⟩,xd⟩
 .have d1:decide (((i:Nat):Int)<((e:Nat):Int))=false:=decide_eq_false (by omega)
  obtain rfl:i=e:=by omega
  have k1:(((i:Nat):Int)==((i:Nat):Int))=true:=beq_self_eq_true _
  simp(disch:=omega)only[SV,d1]
  unfold bS dI
  simp(disch:=omega)only[SV,k1]
  rw[hRR]
  exact⟨⟨true,rfl,λ_=>NK hk⟩,xd⟩
theorem Qh{b c a e:Nat}{d:Array ByteArray}{rest:List Wn}{w:Wm}(o:bE w b (iD d++rest))(hae:a<=e)(he:e<=d.size)(hd:d.size<=1000000):
 aH pg aZ #[rW b d.size c,.int .i64 (a:Nat),.int .i64 (e:Nat)] w (λr w'=>r= .tuple #[]/\(∃d',bE w' b (iD d'++rest)/\PermIn a e d d'/\SortedIn fW a e d')/\aJ w w' (λy=>y=b)):=by
 refine jM ?_
 obtain⟨RR,hRR⟩:∃RR:Wn->Wm->Prop,RR=λr w'=>r= .tuple #[]/\(∃d',bE w' b (iD d'++rest)/\PermIn a e d d'/\SortedIn fW a e d')/\aJ w w' (λy=>y=b):=⟨_,rfl⟩
 rw[<-hRR]
 unfold gU fB fA
 have e1:((a:Nat):Int)+1=((a+1:Nat):Int):=by omega
 simp(disch:=omega)only[SV,e1]
 unfold bW
 obtain⟨hP,hS⟩:=insertionSort_holds Ez d a e hae he
 refine bL.rule (λm (t:Wn) w'=>∃(i:Nat) (d':Array ByteArray),m=e-i/\t= .int .i64 (i:Nat)/\a+1<=i/\d'.size=d.size/\insOuter fW a e i d'=insertionSort fW d a e/\bE w' b (iD d'++rest)/\aJ w w' (λy=>y=b)/\i<=2000000) _ ⟨_,d,rfl,rfl,by omega,rfl,rfl,o,aJ.refl _ _,by omega⟩ ?_
 rintro m t w1 ⟨i,d1,rfl,rfl,hi,hsz,hO,o1,x1,hi2⟩
 unfold cX fP
 by_cases hlt:i<e
 rotate_left
 .have dd:decide (((i:Nat):Int)<((e:Nat):Int))=false:=decide_eq_false (by omega)
  rw[insOuter,if_neg hlt]at hO
  simp(disch:=omega)only[SV,dd]
  rw[hRR]
  exact⟨rfl,⟨d1,o1,hO▸hP,hO▸hS⟩,x1⟩
 have dd:decide (((i:Nat):Int)<((e:Nat):Int))=true:=decide_eq_true (by omega)
 rw[insOuter,if_pos hlt]at hO
 simp(disch:=omega)only[SV,dd]
 unfold fO fN kL dE
 refine bL.rule (λm (t:Wn) w'=>∃(j:Nat) (d':Array ByteArray),m=j/\t= .int .i64 (j:Nat)/\a<=j/\j<=i/\d'.size=d.size/\insInner fW a j d'=insInner fW a i d1/\bE w' b (iD d'++rest)/\aJ w w' (λy=>y=b)) _ ⟨i,d1,rfl,rfl,by omega,by omega,hsz,rfl,o1,x1⟩ ?_
 rintro m t w2 ⟨j,d2,rfl,rfl,hj1,hj2,hsz2,hI,o2,x2⟩
 unfold fM
 have xd2:aJ w (dr w2) (λy=>y=b):=x2.seq (aJ.dr _ _)
 have next:∀W,insInner fW a m d2=d2->bE W b (iD d2++rest)->aJ w W (λy=>y=b)->dD (λ_ _ _ rU w'=>∃m,m<e-i/\∃(i:Nat) (d':Array ByteArray),m=e-i/\rU= .int .i64 (i:Nat)/\a+1<=i/\d'.size=d.size/\insOuter fW a e i d'=insertionSort fW d a e/\bE w' b (iD d'++rest)/\aJ w w' (λy=>y=b)/\i<=2000000) (rW b d.size c) (.int .i64 (a:Nat)) (.int .i64 (e:Nat)) (.int .i64 (i:Nat)) W:=by
  intro W h1 oW xW
  unfold dD
  have q3:((i:Nat):Int)+1=((i+1:Nat):Int):=by omega
  simp(disch:=omega)only[SV,q3]
  exact⟨e-(i+1),by omega,i+1,d2,rfl,rfl,by omega,hsz2,by rw[<-hO,<-hI,h1],oW,xW,by omega⟩
 by_cases hja:a<m
 rotate_left
 .have d3:decide (((a:Nat):Int)<((m:Nat):Int))=false:=decide_eq_false (by omega)
  simp(disch:=omega)only[SV,d3]
  refine next _ ?_ (aP o2) xd2
  cases m with
  |zero=>rfl
  |succ m=>rw[insInner,if_neg (by simp;omega)]
 have d3:decide (((a:Nat):Int)<((m:Nat):Int))=true:=decide_eq_true (by omega)
 have cj:=dG (aP o2) (i:=m) (by omega)
 have ck:=dG (aP o2) (i:=m-1) (by omega)
 have q1:((m:Nat):Int)-1=((m-1:Nat):Int):=by omega
 obtain⟨m',rfl⟩:∃m',m=m'+1:=⟨m-1,by omega⟩
 rw[show m'+1-1=m' from rfl]at*
 simp(disch:=omega)only[SV,d3,q1,cj,ck]
 refine(pC _ _ _).mono ?_
 rintro r w3 ⟨rfl,rfl⟩
 cases hl:fW d2[m'+1]! d2[m']! with
 |false=>
  simp(disch:=omega)only[SV,hl]
  exact next _ (by rw[insInner,hl,Bool.and_false,if_neg (by decide)]) (aP o2) xd2
 |true=>
  have cj:=dG (aP (aP o2)) (i:=m'+1) (by omega)
  have ck:=dG (aP (aP o2)) (i:=m') (by omega)
  simp(disch:=omega)only[SV,hl,q1,cj,ck]
  refine eF (aP (aP o2)) rfl (by rw[UO,gS];omega) λw6 o6 x6 s6=> ?_
  try simp(disch:=omega)only[SV,q1]
  refine eF o6 rfl (by rw[Vf,UO,gS];omega) λw7 o7 x7 s7=> ?_
  rw[xH (by omega) (by omega)]at o7
  try simp(disch:=omega)only[SV,q1]
  exact⟨m',by omega,m',swp d2 (m'+1) m',rfl,rfl,by omega,by omega,by rw[size_swp];exact hsz2,by rw[<-hI,insInner,hl,if_pos (by simp;omega)],o7,((xd2.seq (aJ.dr _ _)).seq x6).seq x7⟩
theorem KM(hi first:Nat):∀(n root:Nat) (d:Array ByteArray),hi-root<=n->(siftDown fW hi first root d).size=d.size:=by
 intro n
 induction n with
 |zero=>intro root d h;rw[siftDown,dif_pos (by omega)]
 |succ n ih=>
  intro root d h
  rw[siftDown]
  split
  .rfl
  .split
   .split
    .rfl
    .split
     .rw [ih _ _ (by omega),size_swp]
     .rfl
   .split
    .rfl
    .rw [ih _ _ (by omega),size_swp]
theorem QW{b c lo hi first:Nat}{d:Array ByteArray}{rest:List Wn}{w:Wm}(o:bE w b (iD d++rest))(hf:first+hi<=d.size)(hd:d.size<=1000000)(hlo:lo<=1000000):
 aH pg dQ #[rW b d.size c,.int .i64 (lo:Nat),.int .i64 (hi:Nat),.int .i64 (first:Nat)] w (λr w'=>r= .tuple #[]/\bE w' b (iD (siftDown fW hi first lo d)++rest)/\aJ w w' (λy=>y=b)):=by
 refine vD ?_
 obtain⟨RR,hRR⟩:∃RR:Wn->Wm->Prop,RR=λr w'=>r= .tuple #[]/\bE w' b (iD (siftDown fW hi first lo d)++rest)/\aJ w w' (λy=>y=b):=⟨_,rfl⟩
 rw[<-hRR]
 unfold pQ nN nM eT
 obtain⟨Inv,hInv⟩:∃Inv:Nat->Wn->Wm->Prop,Inv=λm t w'=>∃(root:Nat) (d':Array ByteArray),m=hi-root/\t= .int .i64 (root:Nat)/\root<=1000000/\d'.size=d.size/\siftDown fW hi first root d'=siftDown fW hi first lo d/\bE w' b (iD d'++rest)/\aJ w w' (λy=>y=b):=⟨_,rfl⟩
 refine bL.rule Inv (hi-lo) (by rw[hInv];exact⟨lo,d,rfl,rfl,hlo,rfl,rfl,o,aJ.refl _ _⟩) ?_
 intro m t w1 hm
 rw[hInv]at hm
 obtain⟨root,d1,rfl,rfl,hr,hsz,hS,o1,x1⟩:=hm
 unfold iY nL
 have q1:(2:Int)*((root:Nat):Int)=((2*root:Nat):Int):=by omega
 have q2:((2*root:Nat):Int)+1=((2*root+1:Nat):Int):=by omega
 have q3:((2*root+1:Nat):Int)+1=((2*root+2:Nat):Int):=by omega
 rw[siftDown]at hS
 by_cases hge:hi<=2*root+1
 .have d1':decide (((hi:Nat):Int)<=((2*root+1:Nat):Int))=true:=decide_eq_true (by omega)
  rw[dif_pos hge]at hS
  simp(disch:=omega)only[SV,q1,q2,d1']
  rw[hRR]
  exact⟨rfl,hS▸o1,x1⟩
 have d1':decide (((hi:Nat):Int)<=((2*root+1:Nat):Int))=false:=decide_eq_false (by omega)
 rw[dif_neg hge]at hS
 have go:∀(W:Wm) (ch:Nat),root<ch->ch<hi->(if(!fW d1[first+root]! d1[first+ch]!)=true then d1 else siftDown fW hi first ch (swp d1 (first+root) (first+ch)))=siftDown fW hi first lo d->bE W b (iD d1++rest)->aJ w W (λy=>y=b)→
     eS (λ_ _ _ mC w=>∃m,m<hi-root/\Inv m mC w) RR (rW b d.size c) (.int .i64 (hi:Nat)) (.int .i64 (first:Nat)) (.int .i64 (root:Nat)) (.int .i64 (ch:Nat)) W:=by
  intro W ch h1 h2 hE oW xW
  unfold eS
  have p1:((first:Nat):Int)+((root:Nat):Int)=((first+root:Nat):Int):=by omega
  have p2:((first:Nat):Int)+((ch:Nat):Int)=((first+ch:Nat):Int):=by omega
  have ci:=dG (aP oW) (i:=first+root) (by omega)
  have cj:=dG (aP oW) (i:=first+ch) (by omega)
  simp(disch:=omega)only[SV,p1,p2,ci,cj]
  refine(pC _ _ _).mono ?_
  rintro r w3 ⟨rfl,rfl⟩
  cases hl:fW d1[first+root]! d1[first+ch]! with
  |false=>
   rw[hl,if_pos (by decide)]at hE
   simp(disch:=omega)only[SV,hl]
   rw[hRR]
   exact⟨rfl,hE▸aP oW,xW.seq (aJ.dr _ _)⟩
  |true=>
   rw[hl,if_neg (by decide)]at hE
   have ci:=dG (aP (aP oW)) (i:=first+root) (by omega)
   have cj:=dG (aP (aP oW)) (i:=first+ch) (by omega)
   simp(disch:=omega)only[SV,hl,p1,p2,ci,cj]
   refine eF (aP (aP oW)) rfl (by rw[UO,gS];omega) λw6 o6 x6 s6=> ?_
   try simp(disch:=omega)only[SV,p1,p2]
   refine eF o6 rfl (by rw[Vf,UO,gS];omega) λw7 o7 x7 s7=> ?_
   rw[xH (by omega) (by omega)]at o7
   try simp(disch:=omega)only[SV]
   refine⟨hi-ch,by omega, ?_⟩
   rw[hInv]
   exact⟨ch,_,rfl,rfl,by omega,by rw[size_swp];exact hsz,hE,o7,(((xW.seq (aJ.dr _ _)).seq (aJ.dr _ _)).seq x6).seq x7⟩
 have xd:=x1.seq (aJ.dr w1 _)
 by_cases h2:2*root+2<hi
 .have d2:decide (((2*root+2:Nat):Int)<((hi:Nat):Int))=true:=decide_eq_true (by omega)
  have p1:((first:Nat):Int)+((2*root+1:Nat):Int)=((first+(2*root+1):Nat):Int):=by omega
  have p2:((first+(2*root+1):Nat):Int)+1=((first+(2*root+1)+1:Nat):Int):=by omega
  have ci:=dG (aP o1) (i:=first+(2*root+1)) (by omega)
  have cj:=dG (aP o1) (i:=first+(2*root+1)+1) (by omega)
  simp(disch:=omega)only[SV,q1,q2,q3,d1',d2,p1,p2,ci,cj]
  refine(pC _ _ _).mono ?_
  rintro r w3 ⟨rfl,rfl⟩
  cases hl:fW d1[first+(2*root+1)]! d1[first+(2*root+1)+1]! with
  |true=>
   rw[hl,if_pos (by simp;omega)]at hS
   simp(disch:=omega)only[SV,hl,q3]
   refine go _ (2*root+2) (by omega) h2 ?_ (aP o1) xd
   rw[<-hS,dif_pos h2]
  |false=>
   rw[hl,if_neg (by simp)]at hS
   simp(disch:=omega)only[SV,hl]
   exact go _ (2*root+1) (by omega) (by omega) hS (aP o1) xd
 .have d2:decide (((2*root+2:Nat):Int)<((hi:Nat):Int))=false:=decide_eq_false (by omega)
  rw[if_neg (by simp;omega)]at hS
  simp(disch:=omega)only[SV,q1,q2,q3,d1',d2]
  exact go _ (2*root+1) (by omega) (by omega) hS (aP o1) xd
theorem SP{b c a e:Nat}{d:Array ByteArray}{rest:List Wn}{w:Wm}(o:bE w b (iD d++rest))(hae:a<e)(he:e<=d.size)(hd:d.size<=1000000):
 aH pg fD #[rW b d.size c,.int .i64 (a:Nat),.int .i64 (e:Nat)] w (λr w'=>r= .tuple #[]/\(∃d',bE w' b (iD d'++rest)/\PermIn a e d d'/\SortedIn fW a e d')/\aJ w w' (λy=>y=b)):=by
 refine vA ?_
 obtain⟨RR,hRR⟩:∃RR:Wn->Wm->Prop,RR=λr w'=>r= .tuple #[]/\(∃d',bE w' b (iD d'++rest)/\PermIn a e d d'/\SortedIn fW a e d')/\aJ w w' (λy=>y=b):=⟨_,rfl⟩
 rw[<-hRR]
 unfold pP mP mO
 obtain⟨hP,hS⟩:=heapSort_holds (lt:=fW) Ez d a e (by omega) he
 have e1:((e:Nat):Int)-((a:Nat):Int)=((e-a:Nat):Int):=by omega
 unfold heapSort at hP hS
 obtain⟨n,hn⟩:∃n,n=e-a:=⟨_,rfl⟩
 rw[<-hn]at e1 hP hS
 simp(disch:=omega)only[SV,e1]
 unfold iI iH nJ
 have e2:((n:Nat):Int)-1=((n-1:Nat):Int):=by omega
 have e3:((n-1:Nat):Int).tdiv 2=(((n-1)/2:Nat):Int):=rfl
 have n2:((2:Int)==0)=false:=rfl
 simp(disch:=omega)only[SV,e2,e3,n2]
 unfold eL
 obtain⟨D1,hD1⟩:∃D1,D1=heapBuild fW n a ((n-1)/2+1) d:=⟨_,rfl⟩
 rw[<-hD1]at hP hS
 refine bL.rule (λm (t:Wn) w'=>∃(k:Nat) (d':Array ByteArray),m=k/\t= .int .i64 ((k:Nat)-1:Int)/\k<=n/\d'.size=d.size/\heapBuild fW n a k d'=D1/\bE w' b (iD d'++rest)/\aJ w w' (λy=>y=b)) ((n-1)/2+1) ⟨_,d,rfl,by congr 1;omega,by omega,rfl,hD1.symm,o,aJ.refl _ _⟩ ?_
 rintro m t w1 ⟨k,d1,rfl,rfl,hk,hsz,hB,o1,x1⟩
 unfold iX
 cases m with
 |succ k=>
  have q1:((k+1:Nat):Int)-1=((k:Nat):Int):=by omega
  have d1':decide ((0:Int)<=((k:Nat):Int))=true:=decide_eq_true (by omega)
  rw[q1]
  simp(disch:=omega)only[SV,d1']
  rw[<-hsz]
  refine(QW o1 (lo:=k) (hi:=n) (first:=a) (by omega) (by omega) (by omega)).mono ?_
  rintro r w2 ⟨rfl,o2,x2⟩
  try simp(disch:=omega)only[SV]
  refine⟨k,by omega,k,_,rfl, ?_,by omega, ?_, ?_,o2,x1.seq x2⟩
  .first
    |rfl
    |(rw[Ca (by omega) (by omega)])
  .rw [KM n a _ _ _ (U0 _)]
  .rw [<-hB]<;>rfl
 |zero=>
  have hB:d1=D1:=hB
  subst hB
  have d1':decide ((0:Int)<=((0:Nat):Int)-1)=false:=rfl
  simp(disch:=omega)only[SV,d1',decide_false]
  unfold iW nI
  simp(disch:=omega)only[SV,e2]
  unfold eK
  refine bL.rule (λm (t:Wn) w'=>∃(k:Nat) (d':Array ByteArray),m=k/\t= .int .i64 ((k:Nat)-1:Int)/\k<=n/\d'.size=d.size/\heapPop fW a k d'=heapPop fW a n d1/\bE w' b (iD d'++rest)/\aJ w w' (λy=>y=b)) n ⟨n,d1,rfl,by congr 1;omega,by omega,hsz,rfl,o1,x1⟩ ?_
  rintro m t w2 ⟨k,d2,rfl,rfl,hk2,hsz2,hB2,o2,x2⟩
  unfold iV
  cases m with
  |zero=>
   have hB2:d2=heapPop fW a n d1:=hB2
   simp(disch:=omega)only[SV,d1',decide_false]
   rw[hRR]
   exact⟨rfl,⟨d2,o2,hB2▸hP,hB2▸hS⟩,x2⟩
  |succ k=>
   have q1:((k+1:Nat):Int)-1=((k:Nat):Int):=by omega
   have d2':decide ((0:Int)<=((k:Nat):Int))=true:=decide_eq_true (by omega)
   rw[q1]
   have p1:((a:Nat):Int)+((k:Nat):Int)=((a+k:Nat):Int):=by omega
   have ci:=dG (aP o2) (i:=a) (by omega)
   have cj:=dG (aP o2) (i:=a+k) (by omega)
   simp(disch:=omega)only[SV,d2',p1,ci,cj]
   refine eF (aP o2) rfl (by rw[UO,gS];omega) λw6 o6 x6 s6=> ?_
   try simp(disch:=omega)only[SV,p1]
   refine eF o6 rfl (by rw[Vf,UO,gS];omega) λw7 o7 x7 s7=> ?_
   rw[xH (by omega) (by omega)]at o7
   try simp(disch:=omega)only[SV]
   have hsw:(swp d2 a (a+k)).size=d.size:=by rw[size_swp];exact hsz2
   rw[<-hsw]
   refine(QW o7 (lo:=0) (hi:=k) (first:=a) (by omega) (by omega) (by omega)).mono ?_
   rintro r w8 ⟨rfl,o8,x8⟩
   try simp(disch:=omega)only[SV]
   refine⟨k,by omega,k,_,rfl, ?_,by omega, ?_, ?_,o8,(((x2.seq (aJ.dr _ _)).seq x6).seq x7).seq x8⟩
   .first
     |rfl
     |(rw[Ca (by omega) (by omega)])
   .rw [KM k a _ _ _ (U0 _)]
   .rw [<-hB2]<;>rfl
theorem TR{k0:K4}{b c a i j:Nat}{d:Array ByteArray}{rest:List Wn}{W:Wm}(o:bE W b (iD d++rest))(hi:1<=i)(hib:i<=1000001)(hj:j<d.size)(ha:a<d.size)(hd:d.size<=1000000)
 (hk:∀W',bE W' b (iD d++rest)->aJ W W' bR->k0 (rW b d.size c) (.int .i64 (a:Nat)) (.int .i64 ((scanUp (λx=>fW x d[a]!) d j i:Nat):Int)) (.int .i64 (j:Nat)) W'):
 cM k0 (rW b d.size c) (.int .i64 (a:Nat)) (.int .i64 (i:Nat)) (.int .i64 (j:Nat)) W:=by
 unfold cM
 obtain⟨Q,hQ⟩:∃Q,Q=scanUp (λx=>fW x d[a]!) d j i:=⟨_,rfl⟩
 rw[<-hQ]at hk
 refine bL.rule (λm (t:Wn) w'=>∃i':Nat,m=j+1-i'/\t= .int .i64 (i':Nat)/\i'<=1000001/\scanUp (λx=>fW x d[a]!) d j i'=Q/\bE w' b (iD d++rest)/\aJ W w' bR) _ ⟨i,rfl,rfl,hib,hQ.symm,o,aJ.refl _ _⟩ ?_
 rintro m t w1 ⟨i',rfl,rfl,hi',hS,o1,x1⟩
 have xd:=x1.seq (aJ.dr w1 bR)
 rw[scanUp]at hS
 unfold iA
 by_cases hlt:i'<=j
 .have d1:decide (((i':Nat):Int)<=((j:Nat):Int))=true:=decide_eq_true (by omega)
  have ci:=dG (aP o1) (i:=i') (by omega)
  have ca:=dG (aP o1) (i:=a) (by omega)
  have q1:((i':Nat):Int)+1=((i'+1:Nat):Int):=by omega
  simp(disch:=omega)only[SV,d1,ci,ca]
  refine(pC _ _ _).mono ?_
  rintro r w3 ⟨rfl,rfl⟩
  cases hl:fW d[i']! d[a]! with
  |true=>
   rw[if_pos (by simp[hl,hlt])]at hS
   simp(disch:=omega)only[SV,hl,q1]
   exact⟨j+1-(i'+1),by omega,i'+1,rfl,rfl,by omega,hS,aP o1,xd⟩
  |false=>
   rw[if_neg (by simp[hl])]at hS
   simp(disch:=omega)only[SV,hl]
   rw[hS]
   exact hk _ (aP o1) xd
 .have d1:decide (((i':Nat):Int)<=((j:Nat):Int))=false:=decide_eq_false (by omega)
  rw[if_neg (by simp[hlt])]at hS
  simp(disch:=omega)only[SV,d1]
  rw[hS]
  exact hk _ (aP o1) xd
theorem TA{k0:K4}{b c a i j:Nat}{d:Array ByteArray}{rest:List Wn}{W:Wm}(o:bE W b (iD d++rest))(hi:1<=i)(hib:i<=1000001)(hj:j<d.size)(ha:a<d.size)(hd:d.size<=1000000)
 (hk:∀W',bE W' b (iD d++rest)->aJ W W' bR->k0 (rW b d.size c) (.int .i64 (a:Nat)) (.int .i64 (i:Nat)) (.int .i64 ((scanDown (λx=> !fW x d[a]!) d i j:Nat):Int)) W'):
 cL k0 (rW b d.size c) (.int .i64 (a:Nat)) (.int .i64 (i:Nat)) (.int .i64 (j:Nat)) W:=by
 unfold cL
 obtain⟨Q,hQ⟩:∃Q,Q=scanDown (λx=> !fW x d[a]!) d i j:=⟨_,rfl⟩
 rw[<-hQ]at hk
 refine bL.rule (λm (t:Wn) w'=>∃j':Nat,m=j'/\t= .int .i64 (j':Nat)/\j'<d.size/\scanDown (λx=> !fW x d[a]!) d i j'=Q/\bE w' b (iD d++rest)/\aJ W w' bR) _ ⟨j,rfl,rfl,hj,hQ.symm,o,aJ.refl _ _⟩ ?_
 rintro m t w1 ⟨j',rfl,rfl,hj',hS,o1,x1⟩
 have xd:=x1.seq (aJ.dr w1 bR)
 unfold hJ
 by_cases hlt:i<=m
 .have d1:decide (((i:Nat):Int)<=((m:Nat):Int))=true:=decide_eq_true (by omega)
  have ci:=dG (aP o1) (i:=m) (by omega)
  have ca:=dG (aP o1) (i:=a) (by omega)
  obtain⟨n,rfl⟩:∃n,m=n+1:=⟨m-1,by omega⟩
  rw[scanDown]at hS
  have q1:((n+1:Nat):Int)-1=((n:Nat):Int):=by omega
  simp(disch:=omega)only[SV,d1,ci,ca]
  refine(pC _ _ _).mono ?_
  rintro r w3 ⟨rfl,rfl⟩
  cases hl:fW d[n+1]! d[a]! with
  |false=>
   rw[if_pos (by simp[hl,hlt])]at hS
   simp(disch:=omega)only[SV,hl,q1]
   exact⟨n,by omega,n,rfl,rfl,by omega,hS,aP o1,xd⟩
  |true=>
   rw[if_neg (by simp[hl])]at hS
   simp(disch:=omega)only[SV,hl]
   rw[hS]
   exact hk _ (aP o1) xd
 .have d1:decide (((i:Nat):Int)<=((m:Nat):Int))=false:=decide_eq_false (by omega)
  have hS:m=Q:=by
   cases m with
   |zero=>exact hS
   |succ n=>rw[scanDown,if_neg (by simp;omega)]at hS;exact hS
  simp(disch:=omega)only[SV,d1]
  rw[hS]
  exact hk _ (aP o1) xd
theorem TS{k0:K4}{b c a i j:Nat}{d:Array ByteArray}{rest:List Wn}{W:Wm}(o:bE W b (iD d++rest))(hi:1<=i)(hib:i<=1000001)(hj:j<d.size)(ha:a<d.size)(hd:d.size<=1000000)
 (hk:∀W',bE W' b (iD d++rest)->aJ W W' bR->k0 (rW b d.size c) (.int .i64 (a:Nat)) (.int .i64 ((scanUp (λx=>fW x d[a]!) d j i:Nat):Int)) (.int .i64 (j:Nat)) W'):
 cS k0 (rW b d.size c) (.int .i64 (a:Nat)) (.int .i64 (i:Nat)) (.int .i64 (j:Nat)) W:=by
 unfold cS
 obtain⟨Q,hQ⟩:∃Q,Q=scanUp (λx=>fW x d[a]!) d j i:=⟨_,rfl⟩
 rw[<-hQ]at hk
 refine bL.rule (λm (t:Wn) w'=>∃i':Nat,m=j+1-i'/\t= .int .i64 (i':Nat)/\i'<=1000001/\scanUp (λx=>fW x d[a]!) d j i'=Q/\bE w' b (iD d++rest)/\aJ W w' bR) _ ⟨i,rfl,rfl,hib,hQ.symm,o,aJ.refl _ _⟩ ?_
 rintro m t w1 ⟨i',rfl,rfl,hi',hS,o1,x1⟩
 have xd:=x1.seq (aJ.dr w1 bR)
 rw[scanUp]at hS
 unfold iO
 by_cases hlt:i'<=j
 .have d1:decide (((i':Nat):Int)<=((j:Nat):Int))=true:=decide_eq_true (by omega)
  have ci:=dG (aP o1) (i:=i') (by omega)
  have ca:=dG (aP o1) (i:=a) (by omega)
  have q1:((i':Nat):Int)+1=((i'+1:Nat):Int):=by omega
  simp(disch:=omega)only[SV,d1,ci,ca]
  refine(pC _ _ _).mono ?_
  rintro r w3 ⟨rfl,rfl⟩
  cases hl:fW d[i']! d[a]! with
  |true=>
   rw[if_pos (by simp[hl,hlt])]at hS
   simp(disch:=omega)only[SV,hl,q1]
   exact⟨j+1-(i'+1),by omega,i'+1,rfl,rfl,by omega,hS,aP o1,xd⟩
  |false=>
   rw[if_neg (by simp[hl])]at hS
   simp(disch:=omega)only[SV,hl]
   rw[hS]
   exact hk _ (aP o1) xd
 .have d1:decide (((i':Nat):Int)<=((j:Nat):Int))=false:=decide_eq_false (by omega)
  rw[if_neg (by simp[hlt])]at hS
  simp(disch:=omega)only[SV,d1]
  rw[hS]
  exact hk _ (aP o1) xd
theorem TB{k0:K4}{b c a i j:Nat}{d:Array ByteArray}{rest:List Wn}{W:Wm}(o:bE W b (iD d++rest))(hi:1<=i)(hib:i<=1000001)(hj:j<d.size)(ha:a<d.size)(hd:d.size<=1000000)
 (hk:∀W',bE W' b (iD d++rest)->aJ W W' bR->k0 (rW b d.size c) (.int .i64 (a:Nat)) (.int .i64 (i:Nat)) (.int .i64 ((scanDown (λx=> !fW x d[a]!) d i j:Nat):Int)) W'):
 cR k0 (rW b d.size c) (.int .i64 (a:Nat)) (.int .i64 (i:Nat)) (.int .i64 (j:Nat)) W:=by
 unfold cR
 obtain⟨Q,hQ⟩:∃Q,Q=scanDown (λx=> !fW x d[a]!) d i j:=⟨_,rfl⟩
 rw[<-hQ]at hk
 refine bL.rule (λm (t:Wn) w'=>∃j':Nat,m=j'/\t= .int .i64 (j':Nat)/\j'<d.size/\scanDown (λx=> !fW x d[a]!) d i j'=Q/\bE w' b (iD d++rest)/\aJ W w' bR) _ ⟨j,rfl,rfl,hj,hQ.symm,o,aJ.refl _ _⟩ ?_
 rintro m t w1 ⟨j',rfl,rfl,hj',hS,o1,x1⟩
 have xd:=x1.seq (aJ.dr w1 bR)
 unfold iM
 by_cases hlt:i<=m
 .have d1:decide (((i:Nat):Int)<=((m:Nat):Int))=true:=decide_eq_true (by omega)
  have ci:=dG (aP o1) (i:=m) (by omega)
  have ca:=dG (aP o1) (i:=a) (by omega)
  obtain⟨n,rfl⟩:∃n,m=n+1:=⟨m-1,by omega⟩
  rw[scanDown]at hS
  have q1:((n+1:Nat):Int)-1=((n:Nat):Int):=by omega
  simp(disch:=omega)only[SV,d1,ci,ca]
  refine(pC _ _ _).mono ?_
  rintro r w3 ⟨rfl,rfl⟩
  cases hl:fW d[n+1]! d[a]! with
  |false=>
   rw[if_pos (by simp[hl,hlt])]at hS
   simp(disch:=omega)only[SV,hl,q1]
   exact⟨n,by omega,n,rfl,rfl,by omega,hS,aP o1,xd⟩
  |true=>
   rw[if_neg (by simp[hl])]at hS
   simp(disch:=omega)only[SV,hl]
   rw[hS]
   exact hk _ (aP o1) xd
 .have d1:decide (((i:Nat):Int)<=((m:Nat):Int))=false:=decide_eq_false (by omega)
  have hS:m=Q:=by
   cases m with
   |zero=>exact hS
   |succ n=>rw[scanDown,if_neg (by simp;omega)]at hS;exact hS
  simp(disch:=omega)only[SV,d1]
  rw[hS]
  exact hk _ (aP o1) xd
theorem Mq{b c a e pv:Nat}{d:Array ByteArray}{rest:List Wn}{w:Wm}(o:bE w b (iD d++rest))(hp1:a<=pv)(hp2:pv<e)(hae:a+2<=e)(he:e<=d.size)(hd:d.size<=1000000):
 aH pg cY #[rW b d.size c,.int .i64 (a:Nat),.int .i64 (e:Nat),.int .i64 (pv:Nat)] w (λr w'=>(∃(m:Nat) (k:Bool) (d':Array ByteArray),r= .tuple #[.int .i64 (m:Nat),.bool k]/\a<=m/\m<e/\bE w' b (iD d'++rest)/\PermIn a e d d'/\(∀i,a<=i->i<m->fW d'[i]! d'[m]! =true)/\(∀i,m<i->i<e->fW d'[i]! d'[m]! =false))/\aJ w w' (λy=>y=b)):=by
 refine uE ?_
 obtain⟨g1,g2,g3,g4,g5⟩:=partition_holds fW Ez d a e pv hp1 hp2 he
 rw[partition_fst]at g1 g2 g4 g5
 rw[partition_arr]at g3 g4 g5
 obtain⟨d0,hd0⟩:∃d0,d0=swp d a pv:=⟨_,rfl⟩
 rw[<-hd0]at g1 g2 g3 g4 g5
 obtain⟨P,hP⟩:∃P,P=partLoop fW a (a+1) (e-1) d0:=⟨_,rfl⟩
 rw[<-hP]at g1 g2 g3 g4 g5
 have hs0:d0.size=d.size:=by rw[hd0,size_swp]
 obtain⟨RR,hRR⟩:∃RR:Wn->Wm->Prop,RR=λr w'=>(∃(m:Nat) (k:Bool) (d':Array ByteArray),r= .tuple #[.int .i64 (m:Nat),.bool k]/\a<=m/\m<e/\bE w' b (iD d'++rest)/\PermIn a e d d'/\(∀i,a<=i->i<m->fW d'[i]! d'[m]! =true)/\(∀i,m<i->i<e->fW d'[i]! d'[m]! =false))/\aJ w w' (λy=>y=b):=⟨_,rfl⟩
 rw[<-hRR]
 have told:∀(W:Wm) (k:Bool),bE W b (iD (swp P.2 P.1 a)++rest)->aJ w W (λy=>y=b)->RR (.tuple #[.int .i64 (P.1:Nat),.bool k]) W:=λW k oW xW=>by
  rw[hRR]
  exact⟨⟨P.1,k,_,rfl,g1,g2,oW,g3,g4,g5⟩,xW⟩
 unfold pB mA lZ
 have ci:=dG (aP o) (i:=a) (by omega)
 have cj:=dG (aP o) (i:=pv) (by omega)
 simp(disch:=omega)only[SV,ci,cj]
 refine eF (aP o) rfl (by rw[UO,gS];omega) λw1 o1 x1 s1=> ?_
 try simp(disch:=omega)only[SV]
 refine eF o1 rfl (by rw[Vf,UO,gS];omega) λw2 o2 x2 s2=> ?_
 rw[xH (by omega) (by omega),<-hd0]at o2
 have x02:aJ w w2 (λy=>y=b):=((aJ.dr _ _).seq x1).seq x2
 have q1:((a:Nat):Int)+1=((a+1:Nat):Int):=by omega
 have q2:((e:Nat):Int)-1=((e-1:Nat):Int):=by omega
 simp(disch:=omega)only[SV,q1,q2]
 unfold iB
 rw[<-hs0]at hd he⊢
 refine TR o2 (by omega) (by omega) (by omega) (by omega) hd λw3 o3 x3=> ?_
 have hge:=scanUp_ge (λx=>fW x d0[a]!) d0 (e-1) (a+1)
 have hP2:=partLoop_eq fW a (a+1) (e-1) d0
 rw[<-hP]at hP2
 obtain⟨i2,hi2⟩:∃i2,i2=scanUp (λx=>fW x d0[a]!) d0 (e-1) (a+1):=⟨_,rfl⟩
 have hup:=(scanUp_spec (λx=>fW x d0[a]!) d0 (e-1) _ (a+1) rfl)
 rw[<-hi2]at hge hP2 hup⊢
 have hi2b:i2<=e:=by omega
 unfold hU
 refine TA o3 (by omega) (by omega) (by omega) (by omega) hd λw4 o4 x4=> ?_
 have hle:=scanDown_le (λx=> !fW x d0[a]!) d0 i2 (e-1)
 obtain⟨j2,hj2⟩:∃j2,j2=scanDown (λx=> !fW x d0[a]!) d0 i2 (e-1):=⟨_,rfl⟩
 rw[<-hj2]at hle hP2⊢
 have x24:=x3.seq x4
 have x04:aJ w w4 (λy=>y=b):=x02.seq (x24.mono λ_ _ h=>h.elim)
 unfold hH lY
 by_cases hgt:i2>j2
 .have d1:decide (((j2:Nat):Int)<((i2:Nat):Int))=true:=decide_eq_true (by omega)
  rw[if_pos hgt]at hP2
  have ca:=dG (aP o4) (i:=a) (by omega)
  have cb:=dG (aP o4) (i:=j2) (by omega)
  simp(disch:=omega)only[SV,d1,ca,cb]
  refine eF (aP o4) rfl (by rw[UO,gS];omega) λw5 o5 x5 s5=> ?_
  try simp(disch:=omega)only[SV]
  refine eF o5 rfl (by rw[Vf,UO,gS];omega) λw6 o6 x6 s6=> ?_
  rw[xH (by omega) (by omega)]at o6
  have:=told w6 true (by rw[hP2];exact o6) (((x04.seq (aJ.dr _ _)).seq x5).seq x6)
  rw[hP2]at this
  exact this
 have d1:decide (((j2:Nat):Int)<((i2:Nat):Int))=false:=decide_eq_false (by omega)
 rw[if_neg hgt]at hP2
 have ci:=dG (aP o4) (i:=i2) (by omega)
 have cj:=dG (aP o4) (i:=j2) (by omega)
 simp(disch:=omega)only[SV,d1,ci,cj]
 refine eF (aP o4) rfl (by rw[UO,gS];omega) λw5 o5 x5 s5=> ?_
 try simp(disch:=omega)only[SV]
 refine eF o5 rfl (by rw[Vf,UO,gS];omega) λw6 o6 x6 s6=> ?_
 rw[xH (by omega) (by omega)]at o6
 have x06:aJ w w6 (λy=>y=b):=((x04.seq (aJ.dr _ _)).seq x5).seq x6
 have q3:((i2:Nat):Int)+1=((i2+1:Nat):Int):=by omega
 have q4:((j2:Nat):Int)-1=((j2-1:Nat):Int):=by omega
 simp(disch:=omega)only[SV,q3,q4]
 unfold hG eD
 obtain⟨n0,hn0⟩:∃n0,n0=d0.size:=⟨_,rfl⟩
 rw[<-hn0]at hd he⊢
 obtain⟨Inv,hInv⟩:∃Inv:Nat->Wn×Wn->Wm->Prop,Inv=λm t w'=>∃(i j:Nat) (d':Array ByteArray),m=j+1-i/\t=(.int .i64 (i:Nat),.int .i64 (j:Nat))/\a+1<=i/\i<=e/\j<e/\d'.size=n0/\partLoop fW a i j d'=P/\bE w' b (iD d'++rest)/\aJ w w' (λy=>y=b):=⟨_,rfl⟩
 refine bL.rule Inv (j2-1+1-(i2+1)) (by rw[hInv];exact⟨_,_,_,rfl,rfl,by omega,by omega,by omega,by rw[size_swp];exact hn0.symm,hP2.symm,o6,x06⟩) ?_
 intro m t w7 hm
 rw[hInv]at hm
 obtain⟨i,j,d1,rfl,rfl,hi,hie,hj,hsz,hL,o7,x7⟩:=hm
 unfold hC
 rw[<-hsz]at hd he⊢
 refine TS o7 (by omega) (by omega) (by omega) (by omega) hd λw8 o8 x8=> ?_
 have hge:=scanUp_ge (λx=>fW x d1[a]!) d1 j i
 have hup:=(scanUp_spec (λx=>fW x d1[a]!) d1 j _ i rfl)
 rw[partLoop_eq]at hL
 obtain⟨i3,hi3⟩:∃i3,i3=scanUp (λx=>fW x d1[a]!) d1 j i:=⟨_,rfl⟩
 rw[<-hi3]at hge hL hup⊢
 have hi3b:i3<=e:=by
  by_cases h:i<=j+1
  .have:=hup.2.1 h
   omega
  .have h2:i3=i:=by rw[hi3,scanUp,if_neg (by simp;omega)]
   omega
 unfold iN
 refine TB o8 (by omega) (by omega) (by omega) (by omega) hd λw9 o9 x9=> ?_
 have hle:=scanDown_le (λx=> !fW x d1[a]!) d1 i3 j
 obtain⟨j3,hj3⟩:∃j3,j3=scanDown (λx=> !fW x d1[a]!) d1 i3 j:=⟨_,rfl⟩
 rw[<-hj3]at hle hL⊢
 have x09:aJ w w9 (λy=>y=b):=x7.seq ((x8.seq x9).mono λ_ _ h=>h.elim)
 unfold iK
 by_cases hgt:i3>j3
 .have d1':decide (((j3:Nat):Int)<((i3:Nat):Int))=true:=decide_eq_true (by omega)
  rw[if_pos hgt]at hL
  simp(disch:=omega)only[SV,d1']
  unfold iJ
  have ca:=dG (aP o9) (i:=a) (by omega)
  have cb:=dG (aP o9) (i:=j3) (by omega)
  simp(disch:=omega)only[SV,ca,cb]
  refine eF (aP o9) rfl (by rw[UO,gS];omega) λwa oa xa sa=> ?_
  try simp(disch:=omega)only[SV]
  refine eF oa rfl (by rw[Vf,UO,gS];omega) λwb ob xb sb=> ?_
  rw[xH (by omega) (by omega)]at ob
  have:=told wb false (by rw[<-hL];exact ob) (((x09.seq (aJ.dr _ _)).seq xa).seq xb)
  rw[<-hL]at this
  exact this
 have d1':decide (((j3:Nat):Int)<((i3:Nat):Int))=false:=decide_eq_false (by omega)
 rw[if_neg hgt]at hL
 have ci:=dG (aP o9) (i:=i3) (by omega)
 have cj:=dG (aP o9) (i:=j3) (by omega)
 simp(disch:=omega)only[SV,d1',ci,cj]
 refine eF (aP o9) rfl (by rw[UO,gS];omega) λwa oa xa sa=> ?_
 try simp(disch:=omega)only[SV]
 refine eF oa rfl (by rw[Vf,UO,gS];omega) λwb ob xb sb=> ?_
 rw[xH (by omega) (by omega)]at ob
 have q5:((i3:Nat):Int)+1=((i3+1:Nat):Int):=by omega
 have q6:((j3:Nat):Int)-1=((j3-1:Nat):Int):=by omega
 simp(disch:=omega)only[SV,q5,q6]
 refine⟨j3-1+1-(i3+1),by omega, ?_⟩
 rw[hInv]
 exact⟨i3+1,j3-1,_,rfl,rfl,by omega,by omega,by omega,by rw[size_swp];exact hsz,hL,ob,((x09.seq (aJ.dr _ _)).seq xa).seq xb⟩
end Go.Proofs.Ytmhokapokchneaa
namespace Go.Proofs.Ytmhokapokchneaa
open Go Go.En Go.Pu Go.Sort
def PG(a e s t:Nat)(d:Array ByteArray):Prop:=∀i j,a<=i->i<j->j<e->(i<s∨t<=j)->fW d[j]! d[i]! =false
theorem BX{a e s t:Nat}{d d':Array ByteArray}(h:PG a e s t d)(ht:t<=e)(he:e<=d.size)(hs:a<=s)(hp:PermIn s t d d'):PG a e s t d':=by
 intro i j h1 h2 h3 h4
 have keep:=hp.2.1
 by_cases hi:i<s
 .rw [keep i (.inl hi)]
  by_cases hj:j<s
  .rw [keep j (.inl hj)];exact h i j h1 h2 h3 h4
  .by_cases hj2:t<=j
   .rw [keep j (.inr hj2)];exact h i j h1 h2 h3 h4
   .exact permIn_all d d' s t (λx=>fW x d[i]! =false) (by omega) hp (λk k1 k2=>h i k h1 (by omega) (by omega) (.inl hi)) j (by omega) (by omega)
 .have hj:t<=j:=by omega
  rw[keep j (.inr hj)]
  by_cases hi2:t<=i
  .rw [keep i (.inr hi2)];exact h i j h1 h2 h3 h4
  .exact permIn_all d d' s t (λx=>fW d[j]! x=false) (by omega) hp (λk k1 k2=>h k j (by omega) (by omega) h3 (.inr hj)) i (by omega) (by omega)
theorem RO{a e s t:Nat}{d d':Array ByteArray}(h:PG a e s t d)(ht:t<=e)(he:e<=d.size)(hs:a<=s)(hp:PermIn s t d d')(hS:SortedIn fW s t d'):SortedIn fW a e d':=by
 have h':=BX h ht he hs hp
 intro i j h1 h2 h3
 by_cases hc:i<s∨t<=j
 .exact h' i j h1 h2 h3 hc
 .exact hS i j (by omega) h2 (by omega)
theorem Mh{x y:ByteArray}(h:fW x y=true):fW y x=false:=by
 cases h2:fW y x with
 |false=>rfl
 |true=>have:=zN h h2;rw[A3]at this;cases this
theorem Qq{a e s t m:Nat}{d d2 d3:Array ByteArray}(h:PG a e s t d)(ht:t<=e)(he:e<=d.size)(hs:a<=s)(hp:PermIn s t d d2)(hm1:s<=m)(hm2:m<t)
 (hl:∀i,s<=i->i<m->fW d2[i]! d2[m]! =true) (hr:∀i,m<i->i<t->fW d2[i]! d2[m]! =false) (hq:PermIn s m d2 d3) (hS:SortedIn fW s m d3):PG a e (m+1) t d3:=by
 have hz:d2.size=d.size:=hp.1
 have h2:=BX h ht he hs hp
 have h3:PG a e s t d3:=BX h2 ht (by omega) hs (permIn_mono d2 d3 s m s t (U0 _) (by omega) (by omega) hq)
 have keep:=hq.2.1
 have hl3:∀i,s<=i->i<m->fW d3[i]! d2[m]! =true:=permIn_all d2 d3 s m (λx=>fW x d2[m]! =true) (by omega) hq hl
 intro i j k1 k2 k3 k4
 by_cases hi:i<s∨t<=j
 .exact h3 i j k1 k2 k3 hi
 have him:i<m+1:=by omega
 by_cases hie:i=m
 .rw [hie,keep m (.inr (U0 _)),keep j (.inr (by omega))]
  exact hr j (by omega) (by omega)
 .by_cases hj:j<m
  .exact hS i j (by omega) k2 hj
  .have h5:=Mh (hl3 i (by omega) (by omega))
   rw[keep j (.inr (by omega))]
   by_cases hjm:j=m
   .rw [hjm];exact h5
   .exact Ez.ntrans _ _ _ (hr j (by omega) (by omega)) h5
theorem O2 {a e s t m:Nat}{d d2 d3:Array ByteArray}(h:PG a e s t d)(ht:t<=e)(he:e<=d.size)(hs:a<=s)(hp:PermIn s t d d2)(hm1:s<=m)(hm2:m<t)
 (hl:∀i,s<=i->i<m->fW d2[i]! d2[m]! =true) (hr:∀i,m<i->i<t->fW d2[i]! d2[m]! =false) (hq:PermIn (m+1) t d2 d3) (hS:SortedIn fW (m+1) t d3):PG a e s m d3:=by
 have hz:d2.size=d.size:=hp.1
 have h2:=BX h ht he hs hp
 have h3:PG a e s t d3:=BX h2 ht (by omega) hs (permIn_mono d2 d3 (m+1) t s t (by omega) (U0 _) (by omega) hq)
 have keep:=hq.2.1
 have hr3:∀i,m+1<=i->i<t->fW d3[i]! d2[m]! =false:=permIn_all d2 d3 (m+1) t (λx=>fW x d2[m]! =false) (by omega) hq (λi i1 i2=>hr i (by omega) i2)
 intro i j k1 k2 k3 k4
 by_cases hi:i<s∨t<=j
 .exact h3 i j k1 k2 k3 hi
 have hjm:m<=j:=by omega
 by_cases hie:i<m
 .rw [keep i (.inl (by omega))]
  have h5:=Mh (hl i (by omega) hie)
  by_cases hj:j=m
  .rw [hj,keep m (.inl (by omega))];exact h5
  .exact Ez.ntrans _ _ _ (hr3 j (by omega) (by omega)) h5
 .by_cases him:i=m
  .rw [him,keep m (.inl (by omega))]
   exact hr3 j (by omega) (by omega)
  .exact hS i j (by omega) k2 (by omega)
theorem Li{a e:Nat}{d d':Array ByteArray}(h:PermIn a e d d')(he:e<=d.size):d'.toList.Perm d.toList:=by
 have h2:=(permIn_mono d d' a e 0 d.size (Nat.zero_le _) he (U0 _) h).2.2
 have hz:d'.size=d.size:=h.1
 rw[<-hz,Array.extract_size]at h2
 rw[hz,Array.extract_size]at h2
 exact h2
theorem Qx{d:Array ByteArray}(h:d.toList.Nodup){i j:Nat}(hi:i<d.size)(hj:j<d.size)(hij:i≠j):d[i]!≠d[j]! :=by
 rw[getElem!_pos d i hi,getElem!_pos d j hj]
 have hp:=List.pairwise_iff_getElem.1 h
 rcases Nat.lt_or_gt_of_ne hij with hlt|hlt
 .have:=hp i j (by simpa using hi) (by simpa using hj) hlt
  simpa using this
 .have:=hp j i (by simpa using hj) (by simpa using hi) hlt
  simpa using this.symm
def Sc(a e:Nat)(d:Array ByteArray):Prop:=a=0∨∀i,a<=i->i<e->fW d[a-1]! d[i]! =true
theorem LN{a e:Nat}{d d':Array ByteArray}(h:Sc a e d)(he:e<=d.size)(hp:PermIn a e d d'):Sc a e d':=by
 rcases h with h|h
 .exact .inl h
 .by_cases h0:a=0
  .exact .inl h0
  .refine .inr λi h1 h2=> ?_
   rw[hp.2.1 (a-1) (.inl (by omega))]
   exact permIn_all d d' a e (λx=>fW d[a-1]! x=true) he hp h i h1 h2
theorem SD{a e s t:Nat}{d:Array ByteArray}(h:Sc a e d)(hL:PG a e s t d)(hn:d.toList.Nodup)(hs:a<=s)(ht:t<=e)(he:e<=d.size):Sc s t d:=by
 by_cases h0:s=a
 .subst h0
  rcases h with h|h
  .exact .inl h
  .exact .inr λi h1 h2=>h i h1 (by omega)
 .refine .inr λi h1 h2=> ?_
  have h3:=hL (s-1) i (by omega) (by omega) (by omega) (.inl (by omega))
  exact Er (Qx hn (by omega) (by omega) (by omega)) h3
end Go.Proofs.Ytmhokapokchneaa

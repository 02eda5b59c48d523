/- Parts of the proof of DiskPlays: merged and given short names by a program of ours. -/
import Derived.WalkKit
import Derived.ProofKit
import Derived.OpenShut
import Derived.Laws.Strings
import Derived.Shelf.SlMaps.Clone
import Derived.Sort.AssemblyPlain
import Derived.Test.YtmhokapokchneaaZgA
set_option linter.unusedVariables false
set_option linter.unusedSimpArgs false
open Array renaming getElem?_eq_getElem → UH, getElem?_setIfInBounds_self_of_lt → UI, getElem?_setIfInBounds_ne → UK, getElem?_eq_none → UR, length_toList → VL, getElem?_modify → Vp, getElem?_toList → Vq
open Bool renaming or_eq_true → U4, false_eq_true → UE, and_eq_true → Uz, not_false → VG, not_true → VJ
open Int renaming toNat_natCast → UJ
open List renaming mem_map → U1, nil_append → U2, mem_nil_iff → U3, eraseIdx_cons_succ → U7, length_drop → U8, getElem?_map → U9, length_map → UA, map_cons → UB, mem_cons_of_mem → UC, mem_cons → UD, getElem?_eq_getElem → UG, length_cons → UL, set_cons_zero → UM, getElem?_append_left → UN, mem_cons_self → UP, length_take → US, length_eq_zero_iff → UT, length_set → UU, set_cons_succ → UY, take_of_length_le → UZ, length_append → Uu, getElem?_cons_zero → Uv, getElem?_cons_succ → Ux, append_nil → VA, length_nil → VC, mem_singleton → VD, mem_append_right → VH, size_toArray → VN, cons_append → VP, length_filter_le → VR, length_singleton → VS, mem_filter → VV, mem_of_mem_take → VW, pairwise_append → VX, set_append_left → VY, map_congr_left → Va, drop_eq_getElem_cons → Vb, mem_append → Vc, getElem?_eq_none → Ve, length_replicate → Vf, take_append_drop → Vg, pairwise_cons → Vh, append_assoc → Vk, map_append → Vl, take_succ_eq_append_getElem → Vn, getElem?_toArray → Vr, mem_append_left → Vt, mem_of_getElem? → Vu, nodup_cons → Vv, flatMap_cons → Vw, getElem?_append_right → Vx, sum_cons → Vy, getElem_mem → Vz
open List.cons renaming injEq → VB
open Nat renaming lt_or_ge → U0, le_refl → UF, lt_of_lt_of_le → UQ, zero_add → Uw, ne_of_lt → V0, zero_mul → V1, mul_le_mul_right → VI, min_eq_left → VM, add_mul → VO, add_zero → VZ, add_assoc → Vi, le_trans → Vm
open Option renaming map_some → Vd, getD_some → Vo
open Option.some renaming inj → U5, injEq → VF
open UInt8 renaming lt_iff_toNat_lt → VT
namespace Go.En
open Go
def Cl(w:V2)(sz:Nat)(v:V3)(n:Nat)(l:List V3):Prop:=
 ∃a c,v= .slice a n c/\l.length=n*sz/\(0<n->∃b off,a=some ⟨b,off,none⟩/\∀i,i<l.length->w.cell? ⟨b,off+i,none⟩=l[i]?)
def xE(w:V2)(base sz:Nat)(v:V3)(n:Nat)(l:List V3):Prop:=
 l.length=n*sz/\((v= .slice none 0 0/\n=0)∨
   ∃b c rest,v= .slice (some ⟨b,0,none⟩) n c/\base<=b/\bD w b (l++rest)/\(l++rest).length=c*sz/\n<=c)
def J5 (w:V2)(S:Nat->Prop)(sz:Nat)(v:V3)(n:Nat)(l:List V3):Prop:=
 l.length=n*sz/\((v= .slice none 0 0/\n=0)∨
   ∃b c rest,v= .slice (some ⟨b,0,none⟩) n c/\S b/\bD w b (l++rest)/\(l++rest).length=c*sz/\n<=c)
theorem Sl.cl {w:V2}{v:V3}{l:List V3}(h:Sl w v l):Cl w 1 v l.length l:=by
 obtain⟨a,n,c,rfl,rfl,hc,h⟩:=h
 exact⟨a,c,rfl,by omega,λh0=>h h0⟩
theorem bD.cl {w:V2}{b sz n c off:Nat}{cs l:List V3}(h:bD w b cs)(hl:l.length=n*sz)(hcs:∀i,i<l.length->cs[off+i]?=l[i]?):Cl w sz (.slice (some ⟨b,off,none⟩) n c) n l:=
 ⟨_,_,rfl,hl,λ_=>⟨b,off,rfl,λi hi=>by rw[h.cell,hcs i hi]⟩⟩
theorem xE.nil (w:V2)(base sz:Nat):xE w base sz (.slice none 0 0) 0 []:=⟨by simp,.inl ⟨rfl,rfl⟩⟩
theorem xE.ext {w w':V2}{base sz n:Nat}{v:V3}{l:List V3}{M:Nat->Prop}(h:xE w base sz v n l)(hx:aJ w w' M)(hM:∀b,base<=b->¬M b):xE w' base sz v n l:=by
 refine⟨h.1, ?_⟩
 rcases h.2 with h2|⟨b,c,rest,h1,h2,h3,h4,h5⟩
 .exact .inl h2
 .exact .inr ⟨b,c,rest,h1,h2,h3.ext hx (hM b h2),h4,h5⟩
theorem xE.cl {w:V2}{base sz n:Nat}{v:V3}{l:List V3}(h:xE w base sz v n l):Cl w sz v n l:=by
 rcases h.2 with⟨rfl,rfl⟩|⟨b,c,rest,rfl,h2,h3,h4,h5⟩
 .exact ⟨_,_,rfl,h.1,λh=>by omega⟩
 .refine ⟨_,_,rfl,h.1,λ_=>⟨b,0,rfl,λi hi=> ?_⟩⟩
  rw[h3.cell,Uw,UN hi]
theorem xE.sl {w:V2}{base n:Nat}{v:V3}{l:List V3}(h:xE w base 1 v n l):Sl w v l:=by
 have hl:=h.1
 rcases h.2 with⟨rfl,rfl⟩|⟨b,c,rest,rfl,h2,h3,h4,h5⟩
 .exact ⟨_,_,_,rfl,by omega,by omega,λh=>by omega⟩
 .refine ⟨_,_,_,rfl,by omega,h5,λ_=>⟨b,0,rfl,λi hi=> ?_⟩⟩
  rw[h3.cell,Uw,UN (by omega)]
section
variable{P:Program}{w:V2}{t e:TypeId}
theorem Gq{b off:Nat}{l:List V3}(h:∀i,i<l.length->w.cell? ⟨b,off+i,none⟩=l[i]?):(loadCells ⟨b,off,none⟩ l.length).run P w= .ok l.toArray w:=by
 have:=Gr (P:=P) h l.length (UF _)
 rwa [List.take_length]at this
theorem vB{sz n:Nat}{v:V3}{l:List V3}(h:Cl w sz v n l):(Builtin.firstCells sz n v).run P w= .ok l.toArray w:=by
 obtain⟨x,c,rfl,hl,hh⟩:=h
 cases x with
 |none=>
  have:n=0:=by
   rcases Nat.eq_zero_or_pos n with h|h
   .exact h
   .obtain ⟨b,off,e,_⟩:=hh h;cases e
  subst this
  have:l=[]:=UT.1 (by omega)
  subst this
  simp[Builtin.firstCells]
 |some x=>
  simp only[Builtin.firstCells]
  rw[<-hl]
  by_cases h0:0<n
  .obtain ⟨b,off,e,h2⟩:=hh h0
   have e:=U5 e;subst e
   exact Gq h2
  .have:n=0:=by omega
   subst this
   have:l=[]:=UT.1 (by omega)
   subst this
   simp[loadCells,loadCellsFrom]
theorem BD(zs:Array V3)(n:Nat):(Builtin.zeroCells zs n).size=n*zs.size:=by simp[Builtin.zeroCells]
theorem vO(vs:List V3):∀(Ut rest:List V3),vs.length<=rest.length->mW (Ut++rest) Ut.length vs=Ut++vs++rest.drop vs.length:=by
 induction vs with
 |nil=>intro Ut rest _;simp[mW]
 |cons v vs ih=>
  intro Ut rest h
  cases rest with
  |nil=>simp at h
  |cons r rest=>
   have:=ih (Ut++[v]) rest (by simpa using h)
   simp only[mW,Uu,UL,VC,Vk,VP,U2]at this⊢
   rw[List.drop_succ_cons,<-this,List.set_append_right _ _ (UF _),Nat.sub_self,UM,Uw]
theorem Mm{S:Nat->Prop}{sz n m:Nat}{i:TypeInfo}{z:V3}{ty t2 e2:TypeId}(hu:P.underlying t=some (.slice e))(hu2:P.underlying t2=some (.slice e2))(hi:P.info? e=some i)(hsz:i.size=sz)(hz:i.zero=some z)(hzs:z.cells.size=sz)
 {v x:V3} {l news:List V3} (h:J5 w S sz v n l) (hx:Cl w sz x m news) (hone:∀y∈news,one y=true) (hb:∀b,w.heap.size<=b->S b)
 (hn:n+m<=9223372036854775807) (hbytes:(n+m)*i.bytes<=140737488355328) (_hpos:i.bytes≠0)
 {K:V3->V2->Prop} (hk:∀v' w',J5 w' S sz v' (n+m) (l++news)->aJ w w' S->Cl w' sz v n l->K v' w'):aB P (kY .append #[t,t2] ty [v,x]) w K:=by
 have hlx:(Builtin.lenOf x).run P w= .ok m w:=by
  obtain⟨a,c,rfl,_⟩:=hx;simp[Builtin.lenOf]
 have hnl:=hx.choose_spec.choose_spec.2.1
 have hfx:=vB (P:=P) hx
 have hmax:IntKind.i64.max=9223372036854775807:=by decide
 have hnot:¬(((n+m:Nat):Int)>IntKind.i64.max/\(False∨i.bytes=0)):=by rw[hmax];omega
 have hz':∀w,(zeroValue e).run P w= .ok z w:=λw=>by simp[zeroValue,typeInfo,hi,hz]
 have hlen:=h.1
 rcases h.2 with⟨rfl,rfl⟩|⟨b,c,rest,rfl,h2,h3,h4,h5⟩
 .
  have hl0:l=[]:=UT.1 (by omega)
  subst hl0
  by_cases hm:m=0
  .subst hm
   have hn0:news=[]:=UT.1 (by omega)
   subst hn0
   have:(kY .append #[t,t2] ty [.slice none 0 0,x]).run P w= .ok (.value (.slice none 0 0)) w:=by
    unfold kY builtin
    simp only[Builtin.append_,Vr,Uv,Ux]
    simp only[underlying,Sem.run_bind,run_program,Result.andThen_ok,hu,hu2,Sem.run_pure,eY hi,hsz,UE,if_false,hlx,UF,VZ,if_true,VG,hfx]
   unfold aB
   rw[this]
   exact hk _ _ ⟨by simp,.inl ⟨rfl,by omega⟩⟩ (aJ.refl _ _) ⟨none,0,rfl,hlen,λh=>absurd h (by omega)⟩
  .have hfit:=growslice_fits (need:=0+m) (old:=0) (bytes:=i.bytes) (by omega) (by omega)
   have hfit':¬(Builtin.nextslicecap (0+m) 0*i.bytes>2^48):=by omega
   have hle:¬(0+m<=0):=by omega
   have hq:(Question.appendCap (0+m) 0 e).forced=false:=rfl
   obtain⟨r,hr⟩:∃r,(Question.appendCap (0+m) 0 e).cut (w.tape w.drawn (.appendCap (0+m) 0 e))=m+r:=
    ⟨(w.tape w.drawn (.appendCap (0+m) 0 e))%(2^63-(0+m)),by simp only[Question.cut];omega⟩
   have:(kY .append #[t,t2] ty [.slice none 0 0,x]).run P w= .ok (.value (.slice (some ⟨w.heap.size,0,none⟩) (0+m) (m+r))) ((dr w).alloc (.cells (news++(Builtin.zeroCells z.cells (m+r-(0+m))).toList).toArray e)):=by
    have hfx':=vB (P:=P) (w:=dr w) hx
    unfold kY builtin
    simp only[Builtin.append_,Vr,Uv,Ux]
    simp only[underlying,typeInfo,Sem.run_bind,run_program,Result.andThen_ok,hu,hu2,hi,Sem.run_pure,eY hi,hsz,UE,if_false,hlx,hle,VG,if_true,hnot,hfit',run_choose,hq,hr,run_askRoom]
    change((Sem.run P _ (dr w)).andThen _).andThen _=_
    simp only[Sem.run_bind,hfx',run_firstCells_none,Result.andThen_ok,hz',Sem.run_pure,newRow,run_newObj]
    have e1:(#[]++news.toArray++Builtin.zeroCells z.cells (m+r-(0+m)):Array V3)=(news++(Builtin.zeroCells z.cells (m+r-(0+m))).toList).toArray:=by
     apply Array.ext';simp
    rw[e1]
    rfl
   unfold aB
   rw[this]
   refine hk _ _ ⟨by simp only[U2];rw[hnl,Uw],.inr ⟨w.heap.size,m+r,(Builtin.zeroCells z.cells (m+r-(0+m))).toList,by rw[Uw],hb _ (UF _),bD.alloc (dr w) _ _, ?_,by omega⟩⟩ ((aJ.dr w _).seq (aJ.alloc _ _ _)) ⟨none,0,rfl,hlen,λh=>absurd h (by omega)⟩
   simp only[U2,Uu,VL,BD,hzs,hnl]
   rw[show m+r-(0+m)=r from by omega,VO]
 .by_cases hc:n+m<=c
  .
   have hroom:news.length<=rest.length:=by
    rw[Uu,hlen]at h4
    have:(n+m)*sz<=c*sz:=VI _ hc
    rw[VO]at this;omega
   obtain⟨w',s1,s2,s3,s4,_⟩:=zM (P:=P) (M:=S) h2 news w (n*sz) 0 (l++rest) h3 (by rw[Uu,hlen];omega) hone
   have:(kY .append #[t,t2] ty [.slice (some ⟨b,0,none⟩) n c,x]).run P w= .ok (.value (.slice (some ⟨b,0,none⟩) (n+m) c)) w':=by
    unfold kY builtin
    simp only[Builtin.append_,Vr,Uv,Ux]
    simp only[underlying,Sem.run_bind,run_program,Result.andThen_ok,hu,hu2,Sem.run_pure,eY hi,hsz,UE,if_false,hlx,hc,if_true,VG,hfx,Ay,Uw,s1]
   unfold aB
   rw[this]
   rw[VZ,<-hlen,vO _ _ _ hroom]at s2
   refine hk _ _ ⟨by rw[Uu,hlen,hnl,VO],.inr ⟨b,c,rest.drop news.length,rfl,h2,s2, ?_,hc⟩⟩ s3 ⟨_,_,rfl,hlen,λ_=>⟨b,0,rfl,λi hi=>by
    rw[s2.cell,Uw,Vk,UN hi]⟩⟩
   rw[<-h4];simp;omega
  .
   have hfit:=growslice_fits (need:=n+m) (old:=c) (bytes:=i.bytes) (by omega) hbytes
   have hfit':¬(Builtin.nextslicecap (n+m) c*i.bytes>2^48):=by omega
   have hq:(Question.appendCap (n+m) c e).forced=false:=rfl
   obtain⟨r,hr⟩:∃r,(Question.appendCap (n+m) c e).cut (w.tape w.drawn (.appendCap (n+m) c e))=n+m+r:=
    ⟨(w.tape w.drawn (.appendCap (n+m) c e))%(2^63-(n+m)),by simp only[Question.cut]⟩
   have hold:Cl (dr w) sz (.slice (some ⟨b,0,none⟩) n c) n l:=⟨_,_,rfl,hlen,λ_=>⟨b,0,rfl,λi hi=>by
    show w.cell? _=_
    rw[h3.cell,Uw,UN hi]⟩⟩
   have:(kY .append #[t,t2] ty [.slice (some ⟨b,0,none⟩) n c,x]).run P w= .ok (.value (.slice (some ⟨w.heap.size,0,none⟩) (n+m) (n+m+r))) ((dr w).alloc (.cells (l++news++(Builtin.zeroCells z.cells (n+m+r-(n+m))).toList).toArray e)):=by
    have hfx':=vB (P:=P) (w:=dr w) hx
    have hfo:=vB (P:=P) hold
    unfold kY builtin
    simp only[Builtin.append_,Vr,Uv,Ux]
    simp only[underlying,typeInfo,Sem.run_bind,run_program,Result.andThen_ok,hu,hu2,hi,Sem.run_pure,eY hi,hsz,UE,if_false,hlx,hc,VG,if_true,hnot,hfit',run_choose,hq,hr,run_askRoom]
    change((Sem.run P _ (dr w)).andThen _).andThen _=_
    simp only[Sem.run_bind,hfx',hfo,Result.andThen_ok,hz',Sem.run_pure,newRow,run_newObj]
    have e1:(l.toArray++news.toArray++Builtin.zeroCells z.cells (n+m+r-(n+m)):Array V3)=(l++news++(Builtin.zeroCells z.cells (n+m+r-(n+m))).toList).toArray:=by
     apply Array.ext';simp
    rw[e1]
    rfl
   unfold aB
   rw[this]
   refine hk _ _ ⟨by rw[Uu,hlen,hnl,VO],.inr ⟨w.heap.size,n+m+r,_,rfl,hb _ (UF _),bD.alloc (dr w) _ _, ?_,by omega⟩⟩ ((aJ.dr w _).seq (aJ.alloc _ _ _)) ⟨_,_,rfl,hlen,λ_=>⟨b,0,rfl,λi hi=>by
    have o9:=h3.ext ((aJ.dr w bQ).seq (aJ.alloc (dr w) (.cells (l++news++(Builtin.zeroCells z.cells (n+m+r-(n+m))).toList).toArray e) bQ)) (λh=>h)
    rw[o9.cell,Uw,UN hi]⟩⟩
   simp only[Uu,VL,BD,hzs,hnl,hlen]
   rw[show n+m+r-(n+m)=r from by omega,VO,VO]
theorem DI{S:Nat->Prop}{sz n m:Nat}{i:TypeInfo}{z:V3}{ty t2 e2:TypeId}(hu:P.underlying t=some (.slice e))(hu2:P.underlying t2=some (.slice e2))(hi:P.info? e=some i)(hsz:i.size=sz)(hz:i.zero=some z)(hzs:z.cells.size=sz)
 {v x:V3} {l news:List V3} (h:J5 w S sz v n l) (hx:Cl w sz x m news) (hone:∀y∈news,one y=true) (hb:∀b,w.heap.size<=b->S b)
 (hn:n+m<=9223372036854775807) (hbytes:(n+m)*i.bytes<=140737488355328) (_hpos:i.bytes≠0)
 {K:V3->V2->Prop} (hk:∀v' w',J5 w' S sz v' (n+m) (l++news)->aJ w w' S->K v' w'):aB P (kY .append #[t,t2] ty [v,x]) w K:=
 Mm hu hu2 hi hsz hz hzs h hx hone hb hn hbytes _hpos λv' w' a b _=>hk v' w' a b
theorem FP{base sz n m:Nat}{i:TypeInfo}{z:V3}{ty t2 e2:TypeId}(hu:P.underlying t=some (.slice e))(hu2:P.underlying t2=some (.slice e2))(hi:P.info? e=some i)(hsz:i.size=sz)(hz:i.zero=some z)(hzs:z.cells.size=sz)
 {v x:V3} {l news:List V3} (h:xE w base sz v n l) (hx:Cl w sz x m news) (hone:∀y∈news,one y=true) (hb:base<=w.heap.size)
 (hn:n+m<=9223372036854775807) (hbytes:(n+m)*i.bytes<=140737488355328) (_hpos:i.bytes≠0)
 {K:V3->V2->Prop} (hk:∀v' w',xE w' base sz v' (n+m) (l++news)->aJ w w' (λy=>base<=y)->K v' w'):aB P (kY .append #[t,t2] ty [v,x]) w K:=
 DI (S:=λy=>base<=y) hu hu2 hi hsz hz hzs h hx hone (λ_ h=>Vm hb h) hn hbytes _hpos hk
end
section
variable{P:Program}{w:V2}{t e:TypeId}
theorem zN{i:TypeInfo}{z:V3}{n:Nat}{ps:List (Nat×V3)}{cells:Array V3}(hu:P.underlying t=some (.slice e))(hi:P.info? e=some i)(hz:i.zero=some z)
 (h1:¬n*i.size>2^24) (h0:¬n*i.size=0) (hf:Instr.fill (λj=>some (j*i.size,i.size)) ((Array.range (n*i.size)).map (z.cells[·%z.cells.size]!)) ps=some cells)
 {K:V3->V2->Prop} (hk:∀w',bD w' w.heap.size cells.toList->aJ w w' bQ->w'.heap.size=w.heap.size+1->K (.slice (some ⟨w.heap.size,0,none⟩) n n) w'):
 aB P (bY t n ps) w K:=by
 have hz':(zeroValue e).run P w= .ok z w:=by simp[zeroValue,typeInfo,hi,hz]
 have:(bY t n ps).run P w= .ok (.value (.slice (some ⟨w.heap.size,0,none⟩) n n)) (w.alloc (.cells cells.toList.toArray e)):=by
  unfold bY;rw[jW]
  simp only[Instr.buildSlice,underlying,pure_bind,Sem.run_bind,run_program,Result.andThen_ok,hu,Sem.run_pure,eY hi,h1,h0,if_false,hz',hf,newRow,run_newObj]
  rfl
 unfold aB
 rw[this]
 exact hk _ (bD.alloc _ _ _) (aJ.alloc _ _ _) (by simp)
theorem bD.mark {b:Nat}{cs:List V3}(h:bD w b cs):bD (w.freeze ⟨b,cs.length,none⟩ 1) b cs:=by
 have hb:=h.lt
 obtain⟨T,lo,hi,h,k⟩:=h
 by_cases hlh:(lo==hi)=true
 .refine ⟨T,cs.length,cs.length+1, ?_,.inl (UF _)⟩
  show(w.heap.modify b _)[b]?=_
  rw[Vp,if_pos rfl,h]
  have hlh:lo=hi:=by simpa using hlh
  simp[hlh]
 .refine ⟨T,min lo cs.length,max hi (cs.length+1), ?_,.inl ?_⟩
  .show (w.heap.modify b _)[b]?=_
   rw[Vp,if_pos rfl,h]
   have hlh:¬lo=hi:=by simpa using hlh
   simp[hlh]
  .rcases k with k|k
   .omega
   .exfalso;apply hlh;rw[k];simp
theorem aJ.mark (w:V2)(a:Addr):aJ w (w.freeze a 1) (λy=>y=a.block):=
 ⟨rfl,rfl,rfl,by show _<=(w.heap.modify _ _).size;simp,λb hb hn=>by
  show(w.heap.modify a.block _)[b]?=_
  rw[Vp]
  rw[if_neg (λh=>hn h.symm)]⟩
theorem RM(hu:P.underlying t=some (.slice e))(he:P.underlying e=some (.int .u8)){b off n c:Nat}{cs:List V3}(ho:bD w b cs)
 {K:V3->V2->Prop} (hk:∀w',bD w' b cs->aJ w w' (λy=>y=b)->w'.heap.size=w.heap.size->K (.slice (some ⟨b,off,none⟩) n c) w'):
 aB P (qI t t (.slice (some ⟨b,off,none⟩) n c)) w K:=by
 obtain⟨T,hs⟩:∃T,w.shape? b=some (T,cs.length):=by
  obtain⟨T,lo,hi,h,_⟩:=ho
  exact⟨T,by unfold World.shape?;rw[h];simp⟩
 have:(qI t t (.slice (some ⟨b,off,none⟩) n c)).run P w= .ok (.value (.slice (some ⟨b,off,none⟩) n c)) (w.freeze ⟨b,cs.length,none⟩ 1):=by
  unfold qI;rw[jW]
  simp[convert,underlying,hu,he,markStringish,shape,freeze,Sem.run,hs]
 unfold aB
 rw[this]
 exact hk _ ho.mark (aJ.mark w _) (by show(w.heap.modify _ _).size=_;simp)
end
section
variable{P:Program}{w:V2}{t e:TypeId}
structure IB{κ:Type}[DecidableEq κ](P:Program)(t:TypeId)(enc:κ->V3):Prop where
 eq:∀a b (w:V2),(Op.equal t (enc a) (enc b)).run P w= .ok (decide (a=b)) w
 now:∃d,P.underlying t=some d/\∀a b,Instr.sameNow d (enc a) (enc b)=none∨Instr.sameNow d (enc a) (enc b)=some (decide (a=b))
 chk:∀(e:Bool) a (w:V2),(Instr.checkKey e 10000 t (enc a)).run P w= .ok () w
 stay:∀a,Instr.sameBits 10000 (enc a) (enc a)=true
def B6 {κ:Type}[DecidableEq κ](k:κ):List (κ×V3)->Option V3
 |[]=>none
 |p::r=>if k=p.1 then some p.2 else B6 k r
def Ns{κ:Type}[DecidableEq κ](k:κ)(v:V3):List (κ×V3)->List (κ×V3)
 |[]=>[(k,v)]
 |p::r=>if k=p.1 then(k,v)::r else p::Ns k v r
theorem RN{κ:Type}[DecidableEq κ]{k:κ}{v:V3}{l:List (κ×V3)}{p:κ×V3}(h:p∈Ns k v l):p=(k,v)∨p∈l:=by
 induction l with
 |nil=>simp[Ns]at h;exact .inl h
 |cons q r ih=>
  simp only[Ns]at h
  split at h
  .rcases UD.1 h with h|h
   .exact .inl h
   .exact .inr (UC _ h)
  .rcases UD.1 h with h|h
   .exact .inr (h▸UP)
   .rcases ih h with h|h
    .exact .inl h
    .exact .inr (UC _ h)
def Grown(es:Array MapEntry)(clock:Nat):Prop:=(es.toList.map (·.born)).Pairwise (·<·)/\∀e∈es.toList,e.born<clock
def Mp{κ:Type}(w:V2)(m:Nat)(enc:κ->V3)(l:List (κ×V3)):Prop:=
 ∃es clock,w.heap[m]?=some (.map es clock)/\es.toList.map (λe=>(e.key,e.val))=l.map (λp=>(enc p.1,p.2))/\Grown es clock/\(l.map (·.1)).Nodup
theorem MO{es:Array MapEntry}{c:Nat}(h:Grown es c)(k v:V3):Grown (es.push ⟨k,v,c⟩) (c+1):=by
 obtain⟨h1,h2⟩:=h
 refine⟨?_, ?_⟩
 .rw [Array.toList_push,Vl,VX]
  refine⟨h1,by simp,λa ha b hb=> ?_⟩
  simp at hb
  subst hb
  obtain⟨e,he,rfl⟩:=U1.1 ha
  exact h2 e he
 .intro e he
  rw[Array.toList_push]at he
  rcases Vc.1 he with he|he
  .have:=h2 e he;omega
  .simp at he;subst he;exact Nat.lt_succ_self c
theorem MP{es es':Array MapEntry}{c:Nat}(h:Grown es c)(he:es'.toList.map (·.born)=es.toList.map (·.born)):Grown es' c:=by
 refine⟨by rw[he];exact h.1,λe h'=> ?_⟩
 have:e.born∈es'.toList.map (·.born):=U1.2 ⟨e,h',rfl⟩
 rw[he]at this
 obtain⟨x,hx,hxe⟩:=U1.1 this
 rw[<-hxe];exact h.2 x hx
theorem Ms{κ:Type}[DecidableEq κ]{k:κ}{v:V3}:∀{l:List (κ×V3)},(l.map (·.1)).Nodup->((Ns k v l).map (·.1)).Nodup
 |[],_=>by simp[Ns]
 |p::r,h=>by
  simp only[Ns]
  have h':=h
  rw[UB,Vv]at h
  split
  .rename_i e
   rw[UB,Vv]
   exact⟨λhm=>h.1 (e▸hm),h.2⟩
  .rename_i e
   rw[UB,Vv]
   refine⟨λhm=> ?_,Ms h.2⟩
   obtain⟨q,hq,hqe⟩:=U1.1 hm
   rcases RN hq with h1|h1
   .rw [h1]at hqe;exact e hqe
   .exact h.1 (U1.2 ⟨q,h1,hqe⟩)
theorem Mp.lt {κ:Type}{m:Nat}{enc:κ->V3}{l:List (κ×V3)}(h:Mp w m enc l):m<w.heap.size:=by
 obtain⟨es,c,h,_⟩:=h
 rcases U0 m w.heap.size with h'|h'
 .exact h'
 .rw [UR h']at h;cases h
theorem Mp.ext {κ:Type}{w w':V2}{m:Nat}{enc:κ->V3}{l:List (κ×V3)}{M:Nat->Prop}(h:Mp w m enc l)(hx:aJ w w' M)(hM:¬M m):Mp w' m enc l:=by
 have:=h.lt
 obtain⟨es,c,h,k⟩:=h
 exact⟨es,c,by rw[hx.keep m this hM];exact h,k⟩
theorem Mp.dr {κ:Type}{w:V2}{m:Nat}{enc:κ->V3}{l:List (κ×V3)}(h:Mp w m enc l):Mp (dr w) m enc l:=h
def Bn{κ:Type}[DecidableEq κ](k:κ):List (κ×V3)->Nat->Option (Nat×V3)
 |[],_=>none
 |p::r,i=>if k=p.1 then some (i,p.2)else Bn k r (i+1)
theorem IZ{κ:Type}[DecidableEq κ](k:κ):∀(l:List (κ×V3)) (i:Nat),(Bn k l i).map (·.2)=B6 k l:=by
 intro l
 induction l with
 |nil=>intro i;rfl
 |cons p r ih=>intro i;simp only[Bn,B6];split<;>simp[ih]
variable{κ:Type}[DecidableEq κ]{enc:κ->V3}
theorem rT{r:Nat}{es:Array MapEntry}{c:Nat}(hb:w.heap[r]?=some (.map es c)):(getObj r).run P w= .ok (.map es c) w:=by simp[getObj,Sem.run,hb]
theorem B0 {r:Nat}{es:Array MapEntry}{c:Nat}(o:Obj)(hb:w.heap[r]?=some (.map es c)):(setObj r o).run P w= .ok () {w with heap:=w.heap.setIfInBounds r o}:=by simp[setObj,Sem.run,hb]
theorem IS(K:IB P t enc)(k:κ):∀(es:List MapEntry) (l:List (κ×V3)) (i:Nat),es.map (λe=>(e.key,e.val))=l.map (λp=>(enc p.1,p.2))→
 (Instr.findAsking t (enc k) es i).run P w= .ok (Bn k l i) w:=by
 intro es
 induction es with
 |nil=>intro l i h;cases l with
  |nil=>rfl
  |cons p r=>simp at h
 |cons x es ih=>
  intro l i h
  cases l with
  |nil=>simp at h
  |cons p r=>
   simp only[UB,VB,Prod.mk.injEq]at h
   obtain⟨⟨h1,h2⟩,h3⟩:=h
   simp only[Instr.findAsking,Sem.run_bind,h1,K.eq,Result.andThen_ok,Bn]
   by_cases hx:k=p.1
   .simp [hx,h2]
   .simp only[hx,decide_false,UE,if_false]
    exact ih r (i+1) h3
theorem KD{d:TypeDesc}(hn:∀a b,Instr.sameNow d (enc a) (enc b)=none∨Instr.sameNow d (enc a) (enc b)=some (decide (a=b)))(k:κ):∀(es:List MapEntry) (l:List (κ×V3)) (i:Nat) (r:Option (Nat×V3)),es.map (λe=>(e.key,e.val))=l.map (λp=>(enc p.1,p.2))→
 Instr.findNow d (enc k) es i=some r->r=Bn k l i:=by
 intro es
 induction es with
 |nil=>intro l i r h hr;cases l with
  |nil=>simp[Instr.findNow]at hr;exact hr.symm
  |cons p r=>simp at h
 |cons x es ih=>
  intro l i r h hr
  cases l with
  |nil=>simp at h
  |cons p q=>
   simp only[UB,VB,Prod.mk.injEq]at h
   obtain⟨⟨h1,h2⟩,h3⟩:=h
   simp only[Instr.findNow,h1]at hr
   rcases hn k p.1 with hh|hh
   .rw [hh]at hr;cases hr
   .rw [hh]at hr
    simp only[Bn]
    by_cases hx:k=p.1
    .simp only[hx,decide_true,VF]at hr
     rw[if_pos hx,<-hr,h2]
    .simp only[hx,decide_false]at hr
     rw[if_neg hx]
     exact ih q (i+1) r h3 hr
theorem Aj(K:IB P t enc)(k:κ)(es:List MapEntry)(l:List (κ×V3))(h:es.map (λe=>(e.key,e.val))=l.map (λp=>(enc p.1,p.2))):
 (Instr.findKey t (enc k) es).run P w= .ok (Bn k l 0) w:=by
 obtain⟨d,hd,hn⟩:=K.now
 unfold Instr.findKey
 simp only[underlying,Sem.run_bind,run_program,Result.andThen_ok,hd,Sem.run_pure]
 cases hr:Instr.findNow d (enc k) es 0 with
 |none=>exact IS K k es l 0 h
 |some r=>rw[KD hn k es l 0 r h hr]<;>rfl
theorem Sy{kt et:TypeId}{i:TypeInfo}{z:V3}(hu:P.underlying t=some (.map kt et))(hi:P.info? et=some i)(hz:i.zero=some z)(K:IB P kt enc){m:Nat}{l:List (κ×V3)}(hm:Mp w m enc l)(k:κ):
 (tI t (.map (some m)) (enc k) true).run P w= .ok (.value (.tuple #[(B6 k l).getD z,.bool (B6 k l).isSome])) w:=by
 obtain⟨es,c,hb,he,_⟩:=hm
 unfold tI;rw[jW]
 unfold Instr.lookup
 simp only[underlying,Sem.run_bind,run_program,Result.andThen_ok,hu,Sem.run_pure,rT hb,K.chk,Aj K k es.toList l he,<-IZ k l 0]
 cases Bn k l 0 with
 |none=>simp[zeroValue,typeInfo,hi,hz]
 |some p=>simp
omit [DecidableEq κ]in
theorem O1 {K:V3->V2->Prop}(enc:κ->V3)(hk:∀w',Mp w' w.heap.size enc ([]:List (κ×V3))->aJ w w' bQ->w'.heap.size=w.heap.size+1->K (.map (some w.heap.size)) w'):aB P (Hw t none) w K:=by
 have:(Hw t none).run P w= .ok (.value (.map (some w.heap.size))) (w.alloc (.map #[] 0)):=by
  unfold Hw;rw[jW]
  simp[Instr.makeMap]
 unfold aB
 rw[this]
 exact hk _ ⟨#[],0,by show(w.heap.push _)[w.heap.size]?=_;simp,rfl,⟨by simp,by simp⟩,by simp⟩ (aJ.alloc _ _ _) (by simp)
theorem O0 {kt et:TypeId}(hu:P.underlying t=some (.map kt et))(Ke:IB P kt enc){m:Nat}{l:List (κ×V3)}(hm:Mp w m enc l)(k:κ)(v:V3){K:V3->V2->Prop}
 (hk:∀w',Mp w' m enc (Ns k v l)->aJ w w' (λy=>y=m)->w'.heap.size=w.heap.size->K undef w'):aB P (FN t (.map (some m)) (enc k) v) w K:=by
 have hlt:=hm.lt
 obtain⟨es,c,hb,he,hgr,hnd⟩:=hm
 have hext:∀o,aJ w {w with heap:=w.heap.setIfInBounds m o} (λy=>y=m):=λo=>
  ⟨rfl,rfl,rfl,by simp,λb hb hn=>by
   show(w.heap.setIfInBounds m o)[b]?=_
   rw[UK (λe=>hn e.symm)]⟩
 have key:∃es' c',(FN t (.map (some m)) (enc k) v).run P w= .ok .skip {w with heap:=w.heap.setIfInBounds m (.map es' c')}/\es'.toList.map (λe=>(e.key,e.val))=((Ns k v l).map λp=>(enc p.1,p.2))/\Grown es' c':=by
  have gen:∀(es:List MapEntry) (l:List (κ×V3)) (i:Nat),es.map (λe=>(e.key,e.val))=l.map (λp=>(enc p.1,p.2))→
      (Bn k l i=none->∀b,(es++[(⟨enc k,v,b⟩:MapEntry)]).map (λe=>(e.key,e.val))=(Ns k v l).map λp=>(enc p.1,p.2))/\
      (∀j x,Bn k l i=some (j,x)->i<=j/\∃old,es[j-i]?=some old/\old.key=enc k/\(es.set (j-i) ({old with key:=enc k,val:=v}:MapEntry)).map (λe=>(e.key,e.val))=(Ns k v l).map λp=>(enc p.1,p.2)):=by
   intro es
   induction es with
   |nil=>
    intro l i h
    cases l with
    |nil=>exact⟨λ_ b=>rfl,λj x h=>by simp[Bn]at h⟩
    |cons p r=>simp at h
   |cons x es ih=>
    intro l i h
    cases l with
    |nil=>simp at h
    |cons p r=>
     simp only[UB,VB,Prod.mk.injEq]at h
     obtain⟨⟨h1,h2⟩,h3⟩:=h
     simp only[Bn,Ns]
     by_cases hx:k=p.1
     .rw [if_pos hx,if_pos hx]
      refine⟨λh=>by(cases h),λj y h=> ?_⟩
      cases h
      refine⟨UF _,x,by simp,by rw[h1,hx], ?_⟩
      simp[h3]
     .rw [if_neg hx,if_neg hx]
      obtain⟨a,b⟩:=ih r (i+1) h3
      refine⟨λh q=> ?_,λj y h=> ?_⟩
      .simp only[VP,UB,a h q,h1,h2]
      .obtain ⟨hj,old,o1,o2,o3⟩:=b j y h
       refine⟨by omega,old, ?_,o2, ?_⟩
       .rw [show j-i=(j-(i+1))+1 from by omega,Ux];exact o1
       .rw [show j-i=(j-(i+1))+1 from by omega,UY]
        simp only[UB,o3,h1,h2]
  obtain⟨g1,g2⟩:=gen es.toList l 0 he
  unfold FN
  rw[Tp]
  unfold Instr.mapUpdate
  simp only[underlying,Sem.run_bind,run_program,Result.andThen_ok,hu,Sem.run_pure,rT hb,Ke.chk,Aj Ke k es.toList l he]
  cases hi:Bn k l 0 with
  |none=>
   refine⟨es.push ⟨enc k,v,c⟩,c+1, ?_,by simpa using g1 hi c,MO hgr _ _⟩
   simp only[B0 _ hb,Result.andThen_ok]
  |some q=>
   obtain⟨j,x⟩:=q
   obtain⟨_,old,o1,o2,o3⟩:=g2 j x hi
   rw[Nat.sub_zero]at o1 o3
   have o1':es[j]?=some old:=by simpa using o1
   refine⟨es.modify j λe=>{e with key:=enc k,val:=v},c, ?_, ?_,MP hgr ?_⟩
   .simp only[o1',Vd,Vo,o2,Instr.keyThatStays,Ke.stay,if_true,Sem.run_pure,Result.andThen_ok,B0 _ hb,Sem.run_bind]
   .have hj:j<es.toList.length:=by
     rcases U0 j es.toList.length with h|h
     .exact h
     .rw [Ve h]at o1;cases o1
    rw[<-o3]
    congr 1
    apply List.ext_getElem?
    intro y
    rw[Vq,Vp,List.getElem?_set]
    by_cases hy:j=y
    .subst hy
     have hj':j<es.size:=by simpa using hj
     have e1:es[j]=old:=by rw[UH hj']at o1';exact U5 o1'
     simp[hj',e1]
    .simp [hy]
   .apply List.ext_getElem?
    intro y
    rw[U9,U9,Vq,Vq,Vp]
    split
    .rename_i h;subst h
     cases es[j]?<;>rfl
    .rfl
 obtain⟨es',c',h1,h2,h3⟩:=key
 unfold aB
 rw[h1]
 refine hk _ ⟨es',c',by show(w.heap.setIfInBounds m _)[m]?=_;rw[UI hlt],h2,h3,Ms hnd⟩ (hext _) (by simp)
theorem DP(hu:P.underlying t=some .string):IB P t (λs:ByteArray=>Value.string s):=by
 have hb:∀a b:ByteArray,(a==b)=decide (a=b):=λa b=>by
  have h1:(a==b)=(a.data==b.data):=rfl
  rw[h1,Bool.eq_iff_iff,beq_iff_eq,decide_eq_true_eq]
  exact⟨λh=>by cases a;cases b;simp only at h;rw[h],λh=>h▸rfl⟩
 refine⟨λa b w=> ?_,⟨_,hu,λa b=> .inr (by simp[Instr.sameNow,hb])⟩,λc a w=> ?_,λa=> ?_⟩
 .unfold Op.equal Op.maxDepth Op.equalIn
  simp only[underlying,Sem.run_bind,run_program,Result.andThen_ok,hu,Sem.run_pure,hb]
 .unfold Instr.checkKey
  simp only[underlying,Sem.run_bind,run_program,Result.andThen_ok,hu,Sem.run_pure]
 .simp [Instr.sameBits,hb]
theorem KL{d:TypeDesc}{i:TypeInfo}(hu:P.underlying t=some d)(hd:Ou d=true)(hi:P.info? t=some i){b off:Nat}{l:List V3}(hl:i.size=l.length)(h:∀j,j<l.length->w.cell? ⟨b,off+j,none⟩=l[j]?):
 (aD t (.pointer (some ⟨b,off,none⟩))).run P w= .ok (.value (.agg l.toArray)) w:=by
 unfold aD
 rw[jW]
 simp only[Instr.loadAt,Instr.sureAddr,loadVar,pure_bind,Sem.run_bind,DO hu,hd,Result.andThen_ok,if_true,eY hi,hl,Gq h,Sem.run_pure]
end
theorem aP{w:V2}{b:Nat}{cs:List V3}(h:bD w b cs):bD (dr w) b cs:=h.ext (aJ.dr w bQ) (λh=>h)
theorem Sl.dr {w:V2}{v:V3}{l:List V3}(h:Sl w v l):Sl (dr w) v l:=h
theorem Sl.open {w:V2}{v:V3}{l:List UInt8}(h:Bs w v l)(h0:0<l.length):∃b off c,v= .slice (some ⟨b,off,none⟩) l.length c/\l.length<=c/\∀i,(h:i<l.length)->w.cell? ⟨b,off+i,none⟩=some (xF l[i]):=by
 obtain⟨a,n,c,rfl,hn,hc,h⟩:=h
 simp only[UA]at hn
 subst hn
 obtain⟨b,off,rfl,hh⟩:=h h0
 exact⟨b,off,c,rfl,hc,λi hi=>by rw[hh i hi];simp[hi]⟩
theorem Sl.len {w:V2}{v:V3}{l:List V3}(h:Sl w v l):∃a c,v= .slice a l.length c/\l.length<=c:=by
 obtain⟨a,n,c,rfl,rfl,hc,_⟩:=h
 exact⟨a,c,rfl,hc⟩
theorem jV(v:V3):¬Ci v bQ:=by unfold Ci bQ;split<;>simp
theorem Nk{b o m l:Nat}(h:l≠m):lF (some ⟨b,o,none⟩) m l 1=some ⟨b,o+l,none⟩:=by
 unfold lF;rw[if_neg (λe=>h e.symm)];simp[Ay]
theorem kK{v:V3}{M N:Nat->Prop}(h:Ci v M)(hm:∀b,M b->N b):Ci v N:=by
 unfold Ci at*
 split at h
 .exact hm _ h
 .exact h
theorem xE.len {w:V2}{b sz n:Nat}{v:V3}{l:List V3}(h:xE w b sz v n l):∃a c,v= .slice a n c:=by
 rcases h.2 with⟨rfl,rfl⟩|⟨x,c,r,rfl,_⟩
 .exact ⟨_,_,rfl⟩
 .exact ⟨_,_,rfl⟩
theorem Sl.nil (w:V2):Sl w (.slice none 0 0) []:=⟨none,0,0,rfl,rfl,UF _,λh=>absurd h (by simp)⟩
theorem bD.whole {w:V2}{b c:Nat}{l:List UInt8}(h:bD w b (l.map xF))(hc:l.length<=c):Bs w (.slice (some ⟨b,0,none⟩) l.length c) l:=
 h.bs hc λi hi=>by rw[Uw];simp[hi]
section
variable{P:Program}{w:V2}{t e:TypeId}
variable{κ:Type}[DecidableEq κ]{enc:κ->V3}
theorem RA{kt et:TypeId}{i:TypeInfo}{z:V3}(hu:P.underlying t=some (.map kt et))(hi:P.info? et=some i)(hz:i.zero=some z)(K:IB P kt enc){m:Nat}{l:List (κ×V3)}(hm:Mp w m enc l)(k:κ):
 (tI t (.map (some m)) (enc k) false).run P w= .ok (.value ((B6 k l).getD z)) w:=by
 obtain⟨es,c,hb,he,_⟩:=hm
 unfold tI;rw[jW]
 unfold Instr.lookup
 simp only[underlying,Sem.run_bind,run_program,Result.andThen_ok,hu,Sem.run_pure,rT hb,K.chk,Aj K k es.toList l he,<-IZ k l 0]
 cases Bn k l 0 with
 |none=>simp[zeroValue,typeInfo,hi,hz]
 |some p=>simp
def del{κ:Type}[DecidableEq κ](k:κ):List (κ×V3)->List (κ×V3)
 |[]=>[]
 |p::r=>if k=p.1 then r else p::del k r
theorem NL{k:κ}:∀l:List (κ×V3),(del k l).Sublist l
 |[]=> .slnil
 |p::r=>by
  simp only[del]
  split
  .exact List.sublist_cons_self _ _
  .exact (NL r).cons_cons p
theorem LJ{k:κ}:∀{es:List MapEntry} {l:List (κ×V3)} {i:Nat},es.map (λe=>(e.key,e.val))=l.map (λp=>(enc p.1,p.2))→
 (Bn k l i=none->del k l=l)/\(∀j x,Bn k l i=some (j,x)->i<=j/\(es.eraseIdx (j-i)).map (λe=>(e.key,e.val))=(del k l).map (λp=>(enc p.1,p.2)))
 |es,[],i,h=>⟨λ_=>rfl,λj x h=>by simp[Bn]at h⟩
 |[],p::r,i,h=>by simp at h
 |x::es,p::r,i,h=>by
  rw[UB,UB,VB]at h
  obtain⟨h1,h2⟩:=h
  simp only[Bn,del]
  by_cases hk:k=p.1
  .rw [if_pos hk,if_pos hk]
   refine⟨λh=>by(cases h),λj y h=> ?_⟩
   cases h
   exact⟨UF _,by simp[h2]⟩
  .rw [if_neg hk,if_neg hk]
   obtain⟨a,b⟩:=LJ (k:=k) (i:=i+1) h2
   refine⟨λh=>by rw[a h],λj y h=> ?_⟩
   obtain⟨c,d⟩:=b j y h
   refine⟨by omega, ?_⟩
   rw[show j-i=(j-(i+1))+1 from by omega,U7,UB,UB,d,h1]
theorem Np{kt et kt2 ty:TypeId}(hu:P.underlying t=some (.map kt et))(Ke:IB P kt enc){m:Nat}{l:List (κ×V3)}(hm:Mp w m enc l)(k:κ){K:V3->V2->Prop}
 (hk:∀w',Mp w' m enc (del k l)->aJ w w' (λy=>y=m)->w'.heap.size=w.heap.size->K (.tuple #[]) w'):aB P (kY .delete #[t,kt2] ty [.map (some m),enc k]) w K:=by
 have hlt:=hm.lt
 obtain⟨es,c,hb,he,hgr,hnd⟩:=hm
 have hext:∀o,aJ w {w with heap:=w.heap.setIfInBounds m o} (λy=>y=m):=λo=>
  ⟨rfl,rfl,rfl,by simp,λb hb hn=>by
   show(w.heap.setIfInBounds m o)[b]?=_
   rw[UK (λe=>hn e.symm)]⟩
 have key:∃es',(kY .delete #[t,kt2] ty [.map (some m),enc k]).run P w= .ok (.value (.tuple #[])) {w with heap:=w.heap.setIfInBounds m (.map es' c)}/\es'.toList.map (λe=>(e.key,e.val))=((del k l).map λp=>(enc p.1,p.2))/\Grown es' c:=by
  obtain⟨g1,g2⟩:=LJ (k:=k) (i:=0) he
  unfold kY builtin
  simp only[Builtin.delete_,Vr,Uv,Ux]
  simp only[underlying,Sem.run_bind,run_program,Result.andThen_ok,hu,Sem.run_pure,rT hb,Ke.chk,Aj Ke k es.toList l he]
  cases hi:Bn k l 0 with
  |none=>
   refine⟨es, ?_,by rw[g1 hi];exact he,hgr⟩
   simp only[B0 _ hb,Result.andThen_ok,Sem.run_pure,Sem.run_bind]
  |some q=>
   obtain⟨j,x⟩:=q
   obtain⟨_,g3⟩:=g2 j x hi
   rw[Nat.sub_zero]at g3
   have htl:(es.eraseIdxIfInBounds j).toList=es.toList.eraseIdx j:=by
    simp
   refine⟨es.eraseIdxIfInBounds j, ?_,by rw[htl];exact g3, ?_, ?_⟩
   .simp only[B0 _ hb,Result.andThen_ok,Sem.run_pure,Sem.run_bind]
   .rw [htl];exact hgr.1.sublist ((List.eraseIdx_sublist _ _).map _)
   .intro e he'
    rw[htl]at he'
    exact hgr.2 e ((List.eraseIdx_sublist _ _).subset he')
 obtain⟨es',h1,h2,h3⟩:=key
 unfold aB
 rw[h1]
 exact hk _ ⟨es',c,by show(w.heap.setIfInBounds m _)[m]?=_;rw[UI hlt],h2,h3,hnd.sublist ((NL l).map _)⟩ (hext _) (by simp)
theorem Cg:∀{l:List MapEntry} {i:Nat} (hi:i<l.length),(l.map (·.born)).Pairwise (·≠·)->(l.filter λe=>decide (e.born≠(l[i]).born))=l.eraseIdx i
 |[],i,hi,_=>by simp at hi
 |x::l,0,hi,h=>by
  rw[UB,Vh]at h
  rw[List.getElem_cons_zero,List.filter_cons_of_neg (by simp),List.eraseIdx_cons_zero,List.filter_eq_self]
  intro a ha
  have:=h.1 a.born (U1.2 ⟨a,ha,rfl⟩)
  simpa usingλe=>this e.symm
 |x::l,i+1,hi,h=>by
  rw[UB,Vh]at h
  have hi':i<l.length:=by simpa using hi
  have:=h.1 (l[i]).born (U1.2 ⟨l[i],Vz hi',rfl⟩)
  rw[List.getElem_cons_succ,List.filter_cons_of_pos (by simpa using this),U7,Cg hi' h.2]
theorem vH{α β:Type}(f:α->β):∀(l:List α) (i:Nat),(l.eraseIdx i).map f=(l.map f).eraseIdx i
 |[],i=>by simp
 |x::l,0=>by simp
 |x::l,i+1=>by rw[U7,UB,UB,U7,vH f l i]
def Q6 {κ:Type}(w:V2)(it m:Nat)(enc:κ->V3)(rest:List (κ×V3)):Prop:=
 ∃es clock seen,w.heap[m]?=some (.map es clock)/\w.heap[it]?=some (.mapIter (some m) clock seen clock)/\Grown es clock/\
  (es.toList.filter λe=> !seen.contains e.born).map (λe=>(e.key,e.val))=rest.map λp=>(enc p.1,p.2)
theorem Q6.ext {κ:Type}{w w':V2}{it m:Nat}{enc:κ->V3}{rest:List (κ×V3)}{M:Nat->Prop}(h:Q6 w it m enc rest)(hx:aJ w w' M)(hm:¬M m)(hi:¬M it):Q6 w' it m enc rest:=by
 obtain⟨es,c,seen,h1,h2,h3⟩:=h
 have lt:∀{b:Nat} {o:Obj},w.heap[b]?=some o->b<w.heap.size:=λ{b o} h=>by
  rcases U0 b w.heap.size with h'|h'
  .exact h'
  .rw [UR h']at h;cases h
 exact⟨es,c,seen,by rw[hx.keep m (lt h1) hm];exact h1,by rw[hx.keep it (lt h2) hi];exact h2,h3⟩
theorem find_born:∀{l:List MapEntry} {e:MapEntry},(l.map (·.born)).Pairwise (·<·)->e∈l->l.find? (λx=>x.born==e.born)=some e
 |[],e,_,h=>by simp at h
 |x::l,e,hp,h=>by
  rw[UB,Vh]at hp
  rw[List.find?_cons]
  rcases UD.1 h with rfl|h
  .simp
  .have:=hp.1 e.born (U1.2 ⟨e,h,rfl⟩)
   have hb:(x.born==e.born)=false:=by simp;omega
   rw[hb]
   exact find_born hp.2 h
def SR{κ:Type}(w:V2)(it m:Nat)(enc:κ->V3)(p:κ×V3):Prop:=
 ∃es clock c0 seen e,w.heap[m]?=some (.map es clock)/\w.heap[it]?=some (.mapIter (some m) c0 seen clock)/\seen.back?=some e.born/\es.find? (λx=>x.born==e.born)=some e/\e.key=enc p.1/\e.val=p.2
omit [DecidableEq κ]in
theorem SR.ext {w w':V2}{it m:Nat}{p:κ×V3}{M:Nat->Prop}(h:SR w it m enc p)(hx:aJ w w' M)(hm:¬M m)(hi:¬M it):SR w' it m enc p:=by
 obtain⟨es,c,c0,seen,e,h1,h2,h3⟩:=h
 have lt:∀{b:Nat} {o:Obj},w.heap[b]?=some o->b<w.heap.size:=λ{b o} h=>by
  rcases U0 b w.heap.size with h'|h'
  .exact h'
  .rw [UR h']at h;cases h
 exact⟨es,c,c0,seen,e,by rw[hx.keep m (lt h1) hm];exact h1,by rw[hx.keep it (lt h2) hi];exact h2,h3⟩
omit [DecidableEq κ]in
theorem NW{it m:Nat}{p:κ×V3}(h:SR w it m enc p):(KU (.pointer (some ⟨it,0,none⟩))).run P w= .ok (.value (.tuple #[enc p.1,p.2])) w:=by
 obtain⟨es,c,c0,seen,e,h1,h2,h3,h4,h5,h6⟩:=h
 have hgi:(getObj it).run P w= .ok (.mapIter (some m) c0 seen c) w:=by simp[getObj,Sem.run,h2]
 unfold KU;rw[jW]
 simp only[Instr.entry,Sem.run_bind,hgi,Result.andThen_ok,h3,rT h1,bne_self_eq_false,UE,if_false,h4,Sem.run_pure,h5,h6]
omit [DecidableEq κ]in
theorem O2 {kt et:TypeId}(hu:P.underlying t=some (.map kt et)){m:Nat}{l:List (κ×V3)}(hm:Mp w m enc l){K:V3->V2->Prop}
 (hk:∀w',Q6 w' w.heap.size m enc l->aJ w w' bQ->w'.heap.size=w.heap.size+1->K (.pointer (some ⟨w.heap.size,0,none⟩)) w'):aB P (Hx t (.map (some m))) w K:=by
 have hlt:=hm.lt
 obtain⟨es,c,hb,he,hgr,hnd⟩:=hm
 have:(Hx t (.map (some m))).run P w= .ok (.value (.pointer (some ⟨w.heap.size,0,none⟩))) (w.alloc (.mapIter (some m) c #[] c)):=by
  unfold Hx;rw[jW]
  simp only[Instr.range,underlying,Sem.run_bind,run_program,Result.andThen_ok,hu,Sem.run_pure,rT hb,run_newObj]
  rfl
 unfold aB
 rw[this]
 refine hk _ ⟨es,c,#[], ?_, ?_,hgr, ?_⟩ (aJ.alloc _ _ _) (by simp)
 .show (w.heap.push _)[m]?=_
  rw[Array.getElem?_push,if_neg (by omega)];exact hb
 .show (w.heap.push _)[w.heap.size]?=_
  simp
 .rw [<-he]
  congr 1
  rw[List.filter_eq_self]
  intro a _
  simp
omit [DecidableEq κ]in
theorem Mo{it m:Nat}{ty:TypeId}{rest:List (κ×V3)}(h:Q6 w it m enc rest)(hne:it≠m){K:V3->V2->Prop}
 (h0:rest=[]->K (.tuple #[.bool false]) w)
 (hk:∀w' (j:Nat) (hj:j<rest.length),Q6 w' it m enc (rest.eraseIdx j)->SR w' it m enc rest[j]->aJ w w' (λy=>y=it)->w'.heap.size=w.heap.size->K (.tuple #[.bool true,enc rest[j].1,rest[j].2]) w'):
 aB P (Mi (.pointer (some ⟨it,0,none⟩)) false ty) w K:=by
 obtain⟨es,c,seen,hm,hi,hgr,hr⟩:=h
 have hlt:it<w.heap.size:=by
  rcases U0 it w.heap.size with h'|h'
  .exact h'
  .rw [UR h']at hi;cases hi
 have hgi:(getObj it).run P w= .ok (.mapIter (some m) c seen c) w:=by simp[getObj,Sem.run,hi]
 have hnot:(!seen.isEmpty&& !es.isEmpty&&es.all λe=>decide (e.born≥c))=false:=by
  cases hes:es.toList with
  |nil=>
   have:es= #[]:=by rw[<-Array.toArray_toList (xs:=es),hes]
   subst this;simp
  |cons x r=>
   have hx:x∈es.toList:=by rw[hes];simp
   have:=hgr.2 x hx
   have:(es.all λe=>decide (e.born≥c))=false:=by
    rw[Array.all_eq_false']
    exact⟨x,by simpa using hx,by simp;omega⟩
   rw[this];simp
 have hold:((es.filter λe=> !seen.contains e.born).filter λe=>decide (e.born<c))=es.filter λe=> !seen.contains e.born:=by
  rw[Array.filter_eq_self]
  intro a ha
  have:=hgr.2 a (by simpa using(Array.mem_filter.1 ha).1)
  simpa using this
 have hnew:((es.filter λe=> !seen.contains e.born).filter λe=>decide (e.born≥c))= #[]:=by
  rw[Array.filter_eq_empty_iff]
  intro a ha
  have:=hgr.2 a (by simpa using(Array.mem_filter.1 ha).1)
  simp;omega
 have hll:(es.filter λe=> !seen.contains e.born).toList=es.toList.filter λe=> !seen.contains e.born:=by simp
 generalize hL:(es.filter λe=> !seen.contains e.born)=L at*
 have hlen:L.size=rest.length:=by
  have:=congrArg List.length hr
  rw[UA,UA,<-hll]at this
  simpa using this
 have hrun:(Mi (.pointer (some ⟨it,0,none⟩)) false ty).run P w=((choose (.mapNext ((if L.isEmpty then#[none]else#[])++(L++ #[]).map some).size)).run P w).andThen λi w=>
     ((match((if L.isEmpty then#[none]else#[])++(L++ #[]).map some)[i]? with
       |some (some e)=>do
        setObj it (.mapIter (some m) c (seen.push e.born) c)
        pure (.tuple #[.bool true,e.key,e.val])
       |some none=>pure (.tuple #[.bool false])
       |none=>stuck "Next: no such candidate" :Sem V3).run P w).andThen λv w=> .ok (.value v) w:=by
  unfold Mi;rw[jW]
  simp only[Instr.next,Sem.run_bind,hgi,Result.andThen_ok,rT hm,hnot,UE,if_false,hL,hold,hnew]
  cases(choose (.mapNext ((if L.isEmpty then#[none]else#[])++(L++ #[]).map some).size)).run P w with
  |ok a w'=>rfl
  |_=>rfl
 unfold aB
 rw[hrun]
 by_cases hz:L.size=0
 .have hLe:L= #[]:=Array.eq_empty_of_size_eq_zero hz
  subst hLe
  have hre:rest=[]:=UT.1 (by omega)
  have hf:(Question.mapNext 1).forced=true:=rfl
  simp only[Array.isEmpty_empty,if_true,Array.append_empty,Array.map_empty,VN,VS,run_choose,hf]
  exact h0 hre
 .have hLe:L.isEmpty=false:=by
   simp[Array.isEmpty];intro h;subst h;simp at hz
  have hsz:((if L.isEmpty then#[none]else#[])++(L++ #[]).map some).size=L.size:=by rw[hLe];simp
  have hat:∀i (h:i<L.size),((if L.isEmpty then#[none]else#[])++(L++ #[]).map some)[i]?=some (some L[i]):=by
   intro i h;rw[hLe];simp[h]
  obtain⟨i,w',hi',hw',hch⟩:∃i w',i<L.size/\(w'=w∨w'=dr w)/\(choose (.mapNext ((if L.isEmpty then#[none]else#[])++(L++ #[]).map some).size)).run P w= .ok i w':=by
   rw[hsz,run_choose]
   by_cases hf:(Question.mapNext L.size).forced=true
   .rw [if_pos hf]
    exact⟨0,w,by omega,.inl rfl,rfl⟩
   .rw [if_neg hf]
    exact⟨_,dr w,Nat.mod_lt _ (by omega),.inr rfl,rfl⟩
  rw[hch]
  have hi2:w'.heap[it]?=some (.mapIter (some m) c seen c):=by rcases hw' with rfl|rfl<;>exact hi
  have hm2:w'.heap[m]?=some (.map es c):=by rcases hw' with rfl|rfl<;>exact hm
  have hx0:aJ w w' (λy=>y=it):=by
   rcases hw' with rfl|rfl
   .exact aJ.refl _ _
   .exact aJ.dr _ _
  have hset:(setObj it (.mapIter (some m) c (seen.push (L[i]).born) c)).run P w'= .ok () {w' with heap:=w'.heap.setIfInBounds it (.mapIter (some m) c (seen.push (L[i]).born) c)}:=by simp[setObj,Sem.run,hi2]
  simp only[Result.andThen_ok,hat i hi',Sem.run_bind,hset,Sem.run_pure]
  have hri:i<rest.length:=by omega
  have hkv:((L[i]).key,(L[i]).val)=(enc rest[i].1,rest[i].2):=by
   have:=congrArg (λ(x:List (V3×V3))=>x[i]?) hr
   simp only[<-hll,U9]at this
   rw[Vq,UH hi',UG hri]at this
   simpa using this
  obtain⟨hk1,hk2⟩:=Prod.mk.inj hkv
  have hkk:(Value.tuple #[.bool true,L[i].key,L[i].val])= .tuple #[.bool true,enc rest[i].1,rest[i].2]:=by rw[hk1,hk2]
  rw[hkk]
  have hsize:({w' with heap:=w'.heap.setIfInBounds it (.mapIter (some m) c (seen.push (L[i]).born) c)}:V2).heap.size=w.heap.size:=by
   rcases hw' with rfl|rfl
   .simp
   .simp;rfl
  have hwlt:it<w'.heap.size:=by rcases hw' with rfl|rfl<;>exact hlt
  have hwm:({w' with heap:=w'.heap.setIfInBounds it (.mapIter (some m) c (seen.push (L[i]).born) c)}:V2).heap[m]?=some (.map es c):=by
   show(w'.heap.setIfInBounds it _)[m]?=_
   rw[UK hne];exact hm2
  have hwi:({w' with heap:=w'.heap.setIfInBounds it (.mapIter (some m) c (seen.push (L[i]).born) c)}:V2).heap[it]?=some (.mapIter (some m) c (seen.push (L[i]).born) c):=by
   show(w'.heap.setIfInBounds it _)[it]?=_
   rw[UI hwlt]
  have hmemL:L[i]∈es.toList:=by
   have hm0:L[i]∈es.filter λe=> !seen.contains e.born:=by rw[hL];exact Array.getElem_mem hi'
   simpa using(Array.mem_filter.1 hm0).1
  have hcur:SR ({w' with heap:=w'.heap.setIfInBounds it (.mapIter (some m) c (seen.push (L[i]).born) c)}:V2) it m enc rest[i]:=
   ⟨es,c,c,_,L[i],hwm,hwi,by simp,by rw[<-Array.find?_toList];exact find_born hgr.1 hmemL,hk1,hk2⟩
  refine hk _ i hri ⟨es,c,seen.push (L[i]).born, ?_, ?_,hgr, ?_⟩ hcur (hx0.seq ⟨rfl,rfl,rfl,by simp,λb hb hn=>by
   show(w'.heap.setIfInBounds it _)[b]?=_
   rw[UK (λe=>hn e.symm)]⟩) hsize
  .show (w'.heap.setIfInBounds it _)[m]?=_
   rw[UK hne];exact hm2
  .show (w'.heap.setIfInBounds it _)[it]?=_
   rw[UI hwlt]
  .
   have hfil:(es.toList.filter λe=> !(seen.push (L[i]).born).contains e.born)=(es.toList.filter λe=> !seen.contains e.born).filter λe=>decide (e.born≠(L[i]).born):=by
    rw[List.filter_filter]
    congr 1
    funext e
    simp only[Array.contains_push]
    by_cases h:e.born=(L[i]).born
    .simp [h]
    .have h':¬(L[i]).born=e.born:=λx=>h x.symm
     simp[h,h']
   have hLi:L[i]=L.toList[i]'(by simpa using hi'):=by simp
   rw[hfil,<-hll,hLi,Cg,vH,hll,hr,<-vH]
   rw[hll]
   exact(hgr.1.imp (λh=>V0 h)).sublist ((List.filter_sublist).map _)
end
end Go.En
namespace Go.Proofs.Ytmhokapokchneaa
open Go Go.En
set_option maxRecDepth 4000
theorem LR{ty:TypeId}(x:Option Addr)(n c:Nat)(w:V2):(kY .len #[23] ty [.slice x n c]).run pg w= .ok (.value (.int .i64 n)) w:=FE Try.underlying23 x n c
theorem KG:(pg).info? 5=some Try.t5:=by kernel_rfl
theorem Hy{k k':IntKind}{lo hi:Int}(a:Option Addr)(n c:Nat)(w:V2)(h0:0<=lo)(h1:lo<=hi)(h2:hi<=c):(uQ 23 (.slice a n c) (some (.int k lo)) (some (.int k' hi)) none).run pg w= .ok (.value (.slice (lF a c (lo.toNat) 1) (hi.toNat-lo.toNat) (c-lo.toNat))) w:=KM Try.underlying23 KG _ n c h0 h1 h2
theorem MW{ty:TypeId}(x:Option Addr)(n c:Nat)(w:V2):(kY .len #[22] ty [.slice x n c]).run pg w= .ok (.value (.int .i64 n)) w:=FE Try.underlying22 x n c
theorem Rn:(pg).info? 4=some Try.t4:=by kernel_rfl
theorem MR{k:IntKind}{a:Int}(b o n c:Nat)(w:V2)(h0:0<=a)(h1:a<n):(aL 22 (.slice (some ⟨b,o,none⟩) n c) (.int k a)).run pg w= .ok (.value (.pointer (some ⟨b,o+a.toNat,none⟩))) w:=Hf rfl Try.underlying22 Rn b o n c h0 h1
theorem Am(x:Addr)(w:V2):(aD 4 (.pointer (some x))).run pg w=MT (w.cell? x) w (MM pg 4 x w):=H9 Try.underlying4 rfl x w
theorem HB{n:Nat}{ps:List (Nat×V3)}{cells:Array V3}{w:V2}(h1:¬n*1>2^24)(h0:¬n*1=0)(hf:Go.Instr.fill (λj=>some (j*1,1)) ((Array.range (n*1)).map ((Try.t5.zero.get!).cells[·%(Try.t5.zero.get!).cells.size]!)) ps=some cells){K:V3->V2->Prop}(hk:∀w',bD w' w.heap.size cells.toList->aJ w w' bQ->w'.heap.size=w.heap.size+1->K (.slice (some ⟨w.heap.size,0,none⟩) n n) w'):aB pg (bY 23 n ps) w K:=zN (i:=Try.t5) Try.underlying23 KG rfl h1 h0 hf hk
theorem vU{base n m:Nat}{ty:TypeId}{w:V2}{v x:V3}{l news:List V3}(h:xE w base 1 v n l)(hx:Cl w 1 x m news)(hone:∀y∈news,one y=true)(hb:base<=w.heap.size)(hbytes:(n+m)*1<=140737488355328){K:V3->V2->Prop}(hk:∀v' w',xE w' base 1 v' (n+m) (l++news)->aJ w w' (λy=>base<=y)->K v' w'):aB pg (kY .append #[23,23] ty [v,x]) w K:=FP (i:=Try.t5) Try.underlying23 Try.underlying23 KG rfl rfl rfl h hx hone hb (by omega) hbytes (by decide) hk
theorem LI{k:IntKind}{a:Int}(b o n c:Nat)(w:V2)(h0:0<=a)(h1:a<n):(aL 23 (.slice (some ⟨b,o,none⟩) n c) (.int k a)).run pg w= .ok (.value (.pointer (some ⟨b,o+a.toNat,none⟩))) w:=Hf rfl Try.underlying23 KG b o n c h0 h1
theorem P5 (x:Addr)(w:V2):(aD 5 (.pointer (some x))).run pg w=MT (w.cell? x) w (MM pg 5 x w):=H9 Try.underlying5 rfl x w
theorem QH{b off:Nat}{cs:List V3}{w:V2}{v:V3}{K:V3->V2->Prop}(ho:bD w b cs)(hv:one v=true)(h:off<cs.length)(hk:∀w',bD w' b (cs.set off v)->aJ w w' (λx=>x=b)->w'.heap.size=w.heap.size->K undef w'):aB pg (aO 5 (.pointer (some ⟨b,off,none⟩)) v) w K:=mE KG rfl ho hv h hk
theorem Ow{ox oy:Operand}(c d:Bool)(w:V2):(aE .eql 4 ox oy (.bool c) (.bool d)).run pg w= .ok (.value (.bool (c==d))) w:=Su c d Try.underlying4
theorem kG{l:List UInt8}{v:V3}{w:V2}(h:Bs w v l):(qI 23 9 v).run pg w= .ok (.value (.string ⟨l.toArray⟩)) w:=Qq Try.underlying23 Try.underlying9 Try.underlying5 h
theorem F7 {k:IntKind}(a:Int)(w:V2):(qI 5 3 (.int k a)).run pg w= .ok (.value (.int .i64 (IntKind.i64.wrap a))) w:=FD Try.underlying5 Try.underlying3
theorem LW{k:IntKind}{n:Int}{w:V2}{K:V3->V2->Prop}(h0:0<=n)(hn:1*n<=2^48)(hk:∀w',bD w' w.heap.size (List.replicate n.toNat (.int .u8 0))->aJ w w' bQ->w'.heap.size=w.heap.size+1->K (.slice (some ⟨w.heap.size,0,none⟩) n.toNat n.toNat) w'):aB pg (DG 23 (.int k n) (.int k n)) w K:=QJ (i:=Try.t5) Try.underlying23 KG rfl rfl rfl h0 hn (by omega) hk
theorem NS:(pg).info? 41=some Try.t41:=by kernel_rfl
theorem bX{w:V2}{K:V3->V2->Prop}(hk:∀w',bD w' w.heap.size [(.int .i64 0),(.slice none 0 0),(.slice none 0 0),(.int .i64 0),(.bool false)]->aJ w w' bQ->w'.heap.size=w.heap.size+1->K (.pointer (some ⟨w.heap.size,0,none⟩)) w'):aB pg (lE 41) w K:=DX (i:=Try.t41) NS rfl hk
theorem iN{b off:Nat}{cs:List V3}{w:V2}{xs:Array V3}{K:V3->V2->Prop}(ho:bD w b cs)(hs:xs.size=5)(hv:∀x∈xs.toList,one x=true)(h:off+5<=cs.length)(hk:∀w',bD w' b (mW cs off xs.toList)->aJ w w' (λx=>x=b)->w'.heap.size=w.heap.size->K undef w'):aB pg (aO 41 (.pointer (some ⟨b,off,none⟩)) (.agg xs)) w K:=Hz (v:= .agg xs) NS ho hs hv h hk
theorem Hd{ox oy:Operand}(x:Option Addr)(w:V2):(aE .eql 25 ox oy (.pointer x) (.pointer none)).run pg w= .ok (.value (.bool x.isNone)) w:=Sz Try.underlying25 x
theorem Ox{ox oy:Operand}(c d:Bool)(w:V2):(aE .neq 4 ox oy (.bool c) (.bool d)).run pg w= .ok (.value (.bool (!(c==d)))) w:=Sv c d Try.underlying4
theorem zY{ty:TypeId}(x:Option Addr)(n c:Nat)(w:V2):(kY .len #[37] ty [.slice x n c]).run pg w= .ok (.value (.int .i64 n)) w:=FE Try.underlying37 x n c
theorem RW:(pg).info? 45=some Try.t45:=by kernel_rfl
theorem zX{k:IntKind}{a:Int}(b o n c:Nat)(w:V2)(h0:0<=a)(h1:a<n):(aL 37 (.slice (some ⟨b,o,none⟩) n c) (.int k a)).run pg w= .ok (.value (.pointer (some ⟨b,o+a.toNat*6,none⟩))) w:=DT rfl Try.underlying37 RW b o n c h0 h1
theorem NQ:(pg).info? 23=some Try.t23:=by kernel_rfl
theorem wN(b o:Nat)(w:V2):(aF 45 (.pointer (some ⟨b,o,none⟩)) 4).run pg w= .ok (.value (.pointer (some ⟨b,o+4,none⟩))) w:=eB (i:=4) Try.underlying45 rfl NQ (by decide) _
theorem LM(x:Addr)(w:V2):(aD 23 (.pointer (some x))).run pg w=MT (w.cell? x) w (MM pg 23 x w):=H9 Try.underlying23 rfl x w
theorem G5:(pg).info? 9=some Try.t9:=by kernel_rfl
theorem xI(b o:Nat)(w:V2):(aF 45 (.pointer (some ⟨b,o,none⟩)) 1).run pg w= .ok (.value (.pointer (some ⟨b,o+1,none⟩))) w:=eB (i:=1) Try.underlying45 rfl G5 (by decide) _
theorem oQ(x:Addr)(w:V2):(aD 9 (.pointer (some x))).run pg w=MT (w.cell? x) w (MM pg 9 x w):=H9 Try.underlying9 rfl x w
theorem pX{ty:TypeId}(x:ByteArray)(w:V2):(kY .len #[9] ty [.string x]).run pg w= .ok (.value (.int .i64 x.size)) w:=Sx Try.underlying9 x
theorem wO(b o:Nat)(w:V2):(aF 45 (.pointer (some ⟨b,o,none⟩)) 2).run pg w= .ok (.value (.pointer (some ⟨b,o+2,none⟩))) w:=eB (i:=2) Try.underlying45 rfl G5 (by decide) _
theorem H6:(pg).info? 3=some Try.t3:=by kernel_rfl
theorem zS(b o:Nat)(w:V2):(aF 45 (.pointer (some ⟨b,o,none⟩)) 3).run pg w= .ok (.value (.pointer (some ⟨b,o+3,none⟩))) w:=eB (i:=3) Try.underlying45 rfl H6 (by decide) _
theorem tE(x:Addr)(w:V2):(aD 3 (.pointer (some x))).run pg w=MT (w.cell? x) w (MM pg 3 x w):=H9 Try.underlying3 rfl x w
theorem cB{b off:Nat}{cs:List V3}{w:V2}(ho:bD w b cs)(h:off+5<=cs.length):(aD 41 (.pointer (some ⟨b,off,none⟩))).run pg w= .ok (.value (.agg ((cs.drop off).take 5).toArray)) w:=Iu Try.underlying41 rfl NS ho h
theorem Bq{b off:Nat}{l:List V3}{w:V2}(hl:l.length=6)(h:∀j,j<l.length->w.cell? ⟨b,off+j,none⟩=l[j]?):(aD 45 (.pointer (some ⟨b,off,none⟩))).run pg w= .ok (.value (.agg l.toArray)) w:=KL Try.underlying45 rfl RW hl.symm h
theorem Gn{ty:TypeId}(x:Option Addr)(n c:Nat)(w:V2):(kY .len #[53] ty [.slice x n c]).run pg w= .ok (.value (.int .i64 n)) w:=FE Try.underlying53 x n c
theorem KA{b off n c:Nat}{cs:List V3}{w:V2}(ho:bD w b cs){K:V3->V2->Prop}(hk:∀w',bD w' b cs->aJ w w' (λy=>y=b)->w'.heap.size=w.heap.size->K (.slice (some ⟨b,off,none⟩) n c) w'):aB pg (qI 23 23 (.slice (some ⟨b,off,none⟩) n c)) w K:=RM Try.underlying23 Try.underlying5 ho hk
theorem EH{w:V2}{K:V3->V2->Prop}(hk:∀w',Mp w' w.heap.size (λs:ByteArray=>Value.string s) ([]:List (ByteArray×V3))->aJ w w' bQ->w'.heap.size=w.heap.size+1->K (.map (some w.heap.size)) w'):aB pg (Hw 57 none) w K:=O1 _ hk
theorem CS(n0:Int)(m1:Option Nat)(m2:Option Nat)(n3:Int)(w:V2):(kS 60 [(0,(.int .i64 n0)),(1,(.map m1)),(2,(.map m2)),(4,(.int .i64 n3))]).run pg w= .ok (.value (.agg #[(.int .i64 n0),(.map m1),(.map m2),(.slice none 0 0),(.int .i64 n3),(.bool false)])) w:=by kernel_rfl
theorem PW:(pg).info? 57=some Try.t57:=by kernel_rfl
theorem Gf(b o:Nat)(w:V2):(aF 60 (.pointer (some ⟨b,o,none⟩)) 2).run pg w= .ok (.value (.pointer (some ⟨b,o+2,none⟩))) w:=eB (i:=2) Try.underlying60 rfl PW (by decide) _
theorem JP(x:Addr)(w:V2):(aD 57 (.pointer (some x))).run pg w=MT (w.cell? x) w (MM pg 57 x w):=H9 Try.underlying57 rfl x w
theorem vG{w:V2}{m:Nat}{l:List (ByteArray×V3)}(hm:Mp w m (λs:ByteArray=>Value.string s) l)(k:ByteArray):(tI 57 (.map (some m)) ((λs:ByteArray=>Value.string s) k) true).run pg w= .ok (.value (.tuple #[(B6 k l).getD (.slice none 0 0),.bool (B6 k l).isSome])) w:=Sy Try.underlying57 NQ rfl (DP Try.underlying9) hm k
theorem I4 {w:V2}{m:Nat}{l:List (ByteArray×V3)}(hm:Mp w m (λs:ByteArray=>Value.string s) l)(k:ByteArray):(tI 57 (.map (some m)) ((λs:ByteArray=>Value.string s) k) false).run pg w= .ok (.value ((B6 k l).getD (.slice none 0 0))) w:=RA Try.underlying57 NQ rfl (DP Try.underlying9) hm k
theorem Ge(b o:Nat)(w:V2):(aF 60 (.pointer (some ⟨b,o,none⟩)) 0).run pg w= .ok (.value (.pointer (some ⟨b,o,none⟩))) w:=eB (i:=0) Try.underlying60 rfl H6 (by decide) _
theorem zQ(n0:Int)(s1:ByteArray)(n2:Int)(a3:Option Addr)(l3 c3:Nat)(w:V2):(kS 65 [(0,(.int .i64 n0)),(1,(.string s1)),(3,(.int .i64 n2)),(4,(.slice a3 l3 c3))]).run pg w= .ok (.value (.agg #[(.int .i64 n0),(.string s1),(.string ⟨#[]⟩),(.int .i64 n2),(.slice a3 l3 c3)])) w:=by kernel_rfl
theorem RX:(pg).info? 58=some Try.t58:=by kernel_rfl
theorem Fu(b o:Nat)(w:V2):(aF 60 (.pointer (some ⟨b,o,none⟩)) 3).run pg w= .ok (.value (.pointer (some ⟨b,o+3,none⟩))) w:=eB (i:=3) Try.underlying60 rfl RX (by decide) _
theorem Dp(x:Addr)(w:V2):(aD 58 (.pointer (some x))).run pg w=MT (w.cell? x) w (MM pg 58 x w):=H9 Try.underlying58 rfl x w
theorem Dq{ty:TypeId}(x:Option Addr)(n c:Nat)(w:V2):(kY .len #[58] ty [.slice x n c]).run pg w= .ok (.value (.int .i64 n)) w:=FE Try.underlying58 x n c
theorem Ka:(pg).info? 65=some Try.t65:=by kernel_rfl
theorem Dg{k:IntKind}{a:Int}(b o n c:Nat)(w:V2)(h0:0<=a)(h1:a<n):(aL 58 (.slice (some ⟨b,o,none⟩) n c) (.int k a)).run pg w= .ok (.value (.pointer (some ⟨b,o+a.toNat*5,none⟩))) w:=DT rfl Try.underlying58 Ka b o n c h0 h1
theorem kR{b off:Nat}{cs:List V3}{w:V2}(ho:bD w b cs)(h:off+5<=cs.length):(aD 65 (.pointer (some ⟨b,off,none⟩))).run pg w= .ok (.value (.agg ((cs.drop off).take 5).toArray)) w:=Iu Try.underlying65 rfl Ka ho h
theorem F0 {w:V2}{K:V3->V2->Prop}(hk:∀w',bD w' w.heap.size [(.int .i64 0),(.string ⟨#[]⟩),(.string ⟨#[]⟩),(.int .i64 0),(.slice none 0 0)]->aJ w w' bQ->w'.heap.size=w.heap.size+1->K (.pointer (some ⟨w.heap.size,0,none⟩)) w'):aB pg (lE 65) w K:=DX (i:=Try.t65) Ka rfl hk
theorem FO{b off:Nat}{cs:List V3}{w:V2}{xs:Array V3}{K:V3->V2->Prop}(ho:bD w b cs)(hs:xs.size=5)(hv:∀x∈xs.toList,one x=true)(h:off+5<=cs.length)(hk:∀w',bD w' b (mW cs off xs.toList)->aJ w w' (λx=>x=b)->w'.heap.size=w.heap.size->K undef w'):aB pg (aO 65 (.pointer (some ⟨b,off,none⟩)) (.agg xs)) w K:=Hz (v:= .agg xs) Ka ho hs hv h hk
theorem Gg(b o:Nat)(w:V2):(aF 60 (.pointer (some ⟨b,o,none⟩)) 1).run pg w= .ok (.value (.pointer (some ⟨b,o+1,none⟩))) w:=eB (i:=1) Try.underlying60 rfl PW (by decide) _
theorem Fa{b off:Nat}{cs:List V3}{w:V2}{v:V3}{K:V3->V2->Prop}(ho:bD w b cs)(hv:one v=true)(h:off<cs.length)(hk:∀w',bD w' b (cs.set off v)->aJ w w' (λx=>x=b)->w'.heap.size=w.heap.size->K undef w'):aB pg (aO 57 (.pointer (some ⟨b,off,none⟩)) v) w K:=mE PW rfl ho hv h hk
theorem pS{b off:Nat}{cs:List V3}{w:V2}{v:V3}{K:V3->V2->Prop}(ho:bD w b cs)(hv:one v=true)(h:off<cs.length)(hk:∀w',bD w' b (cs.set off v)->aJ w w' (λx=>x=b)->w'.heap.size=w.heap.size->K undef w'):aB pg (aO 58 (.pointer (some ⟨b,off,none⟩)) v) w K:=mE RX rfl ho hv h hk
theorem Gc(b o:Nat)(w:V2):(aF 60 (.pointer (some ⟨b,o,none⟩)) 4).run pg w= .ok (.value (.pointer (some ⟨b,o+4,none⟩))) w:=eB (i:=4) Try.underlying60 rfl H6 (by decide) _
theorem DH{b off:Nat}{cs:List V3}{w:V2}{v:V3}{K:V3->V2->Prop}(ho:bD w b cs)(hv:one v=true)(h:off<cs.length)(hk:∀w',bD w' b (cs.set off v)->aJ w w' (λx=>x=b)->w'.heap.size=w.heap.size->K undef w'):aB pg (aO 3 (.pointer (some ⟨b,off,none⟩)) v) w K:=mE H6 rfl ho hv h hk
theorem Gb(b o:Nat)(w:V2):(aF 60 (.pointer (some ⟨b,o,none⟩)) 5).run pg w= .ok (.value (.pointer (some ⟨b,o+5,none⟩))) w:=eB (i:=5) Try.underlying60 rfl Rn (by decide) _
theorem Iw{b off:Nat}{cs:List V3}{w:V2}{v:V3}{K:V3->V2->Prop}(ho:bD w b cs)(hv:one v=true)(h:off<cs.length)(hk:∀w',bD w' b (cs.set off v)->aJ w w' (λx=>x=b)->w'.heap.size=w.heap.size->K undef w'):aB pg (aO 4 (.pointer (some ⟨b,off,none⟩)) v) w K:=mE Rn rfl ho hv h hk
theorem Ct(n0:Int)(s1:ByteArray)(w:V2):(kS 65 [(0,(.int .i64 n0)),(1,(.string s1))]).run pg w= .ok (.value (.agg #[(.int .i64 n0),(.string s1),(.string ⟨#[]⟩),(.int .i64 0),(.slice none 0 0)])) w:=by kernel_rfl
theorem iM{b off:Nat}{cs:List V3}{w:V2}(ho:bD w b cs)(h:off+5<=cs.length){K:V3->Prop}(hk:K (.agg ((cs.drop off).take 5).toArray)):HW pg 41 (.pointer (some ⟨b,off,none⟩)) w K:=Rp Try.underlying41 rfl NS ho h hk
theorem Cu(w:V2):(kS 41 []).run pg w= .ok (.value (.agg #[(.int .i64 0),(.slice none 0 0),(.slice none 0 0),(.int .i64 0),(.bool false)])) w:=by kernel_rfl
theorem AA(n0:Int)(n1:Int)(w:V2):(kS 41 [(0,(.int .i64 n0)),(3,(.int .i64 n1))]).run pg w= .ok (.value (.agg #[(.int .i64 n0),(.slice none 0 0),(.slice none 0 0),(.int .i64 n1),(.bool false)])) w:=by kernel_rfl
theorem xH(b o:Nat)(w:V2):(aF 45 (.pointer (some ⟨b,o,none⟩)) 0).run pg w= .ok (.value (.pointer (some ⟨b,o,none⟩))) w:=eB (i:=0) Try.underlying45 rfl H6 (by decide) _
theorem wG(n0:Int)(s1:ByteArray)(n2:Int)(s3:ByteArray)(w:V2):(kS 71 [(0,(.int .i64 n0)),(1,(.string s1)),(3,(.int .i64 n2)),(4,(.string s3))]).run pg w= .ok (.value (.agg #[(.int .i64 n0),(.string s1),(.string ⟨#[]⟩),(.int .i64 n2),(.string s3)])) w:=by kernel_rfl
theorem yB(n0:Int)(s1:ByteArray)(s2:ByteArray)(w:V2):(kS 71 [(0,(.int .i64 n0)),(1,(.string s1)),(2,(.string s2))]).run pg w= .ok (.value (.agg #[(.int .i64 n0),(.string s1),(.string s2),(.int .i64 0),(.string ⟨#[]⟩)])) w:=by kernel_rfl
theorem AD(n0:Int)(s1:ByteArray)(w:V2):(kS 71 [(0,(.int .i64 n0)),(1,(.string s1))]).run pg w= .ok (.value (.agg #[(.int .i64 n0),(.string s1),(.string ⟨#[]⟩),(.int .i64 0),(.string ⟨#[]⟩)])) w:=by kernel_rfl
theorem zT(b o:Nat)(w:V2):(aF 41 (.pointer (some ⟨b,o,none⟩)) 3).run pg w= .ok (.value (.pointer (some ⟨b,o+3,none⟩))) w:=eB (i:=3) Try.underlying41 rfl H6 (by decide) _
theorem S6:(pg).info? 22=some Try.t22:=by kernel_rfl
theorem xG(b o:Nat)(w:V2):(aF 45 (.pointer (some ⟨b,o,none⟩)) 5).run pg w= .ok (.value (.pointer (some ⟨b,o+5,none⟩))) w:=eB (i:=5) Try.underlying45 rfl S6 (by decide) _
theorem MU(x:Addr)(w:V2):(aD 22 (.pointer (some x))).run pg w=MT (w.cell? x) w (MM pg 22 x w):=H9 Try.underlying22 rfl x w
theorem Bt{ty:TypeId}(x:Option Addr)(n c:Nat)(w:V2):(kY .len #[38] ty [.slice x n c]).run pg w= .ok (.value (.int .i64 n)) w:=FE Try.underlying38 x n c
theorem RV:(pg).info? 39=some Try.t39:=by kernel_rfl
theorem AF(b o:Nat)(w:V2):(aF 41 (.pointer (some ⟨b,o,none⟩)) 2).run pg w= .ok (.value (.pointer (some ⟨b,o+2,none⟩))) w:=eB (i:=2) Try.underlying41 rfl RV (by decide) _
theorem Bp(x:Addr)(w:V2):(aD 39 (.pointer (some x))).run pg w=MT (w.cell? x) w (MM pg 39 x w):=H9 Try.underlying39 rfl x w
theorem Bu{ty:TypeId}(x:Option Addr)(n c:Nat)(w:V2):(kY .len #[39] ty [.slice x n c]).run pg w= .ok (.value (.int .i64 n)) w:=FE Try.underlying39 x n c
theorem KF{k:IntKind}{a:Int}(b o n c:Nat)(w:V2)(h0:0<=a)(h1:a<n):(aL 53 (.slice (some ⟨b,o,none⟩) n c) (.int k a)).run pg w= .ok (.value (.pointer (some ⟨b,o+a.toNat,none⟩))) w:=Hf rfl Try.underlying53 G5 b o n c h0 h1
theorem I0:(pg).info? 78=some Try.t78:=by kernel_rfl
theorem mQ{k:IntKind}{a:Int}(b o n c:Nat)(w:V2)(h0:0<=a)(h1:a<n):(aL 38 (.slice (some ⟨b,o,none⟩) n c) (.int k a)).run pg w= .ok (.value (.pointer (some ⟨b,o+a.toNat*2,none⟩))) w:=DT rfl Try.underlying38 I0 b o n c h0 h1
theorem zW(b o:Nat)(w:V2):(aF 78 (.pointer (some ⟨b,o,none⟩)) 0).run pg w= .ok (.value (.pointer (some ⟨b,o,none⟩))) w:=eB (i:=0) Try.underlying78 rfl G5 (by decide) _
theorem bN(b o:Nat)(w:V2):(aF 41 (.pointer (some ⟨b,o,none⟩)) 4).run pg w= .ok (.value (.pointer (some ⟨b,o+4,none⟩))) w:=eB (i:=4) Try.underlying41 rfl Rn (by decide) _
theorem kI(b o:Nat)(w:V2):(aF 78 (.pointer (some ⟨b,o,none⟩)) 1).run pg w= .ok (.value (.pointer (some ⟨b,o+1,none⟩))) w:=eB (i:=1) Try.underlying78 rfl G5 (by decide) _
theorem He{ox oy:Operand}(x:Option Addr)(w:V2):(aE .neq 25 ox oy (.pointer x) (.pointer none)).run pg w= .ok (.value (.bool (!x.isNone))) w:=SA Try.underlying25 x
theorem Ba(n0:Int)(s1:ByteArray)(s2:ByteArray)(w:V2):(kS 65 [(0,(.int .i64 n0)),(1,(.string s1)),(2,(.string s2))]).run pg w= .ok (.value (.agg #[(.int .i64 n0),(.string s1),(.string s2),(.int .i64 0),(.slice none 0 0)])) w:=by kernel_rfl
theorem EY{w:V2}{m:Nat}{l:List (ByteArray×V3)}(hm:Mp w m (λs:ByteArray=>Value.string s) l){K:V3->V2->Prop}(hk:∀w',Q6 w' w.heap.size m (λs:ByteArray=>Value.string s) l->aJ w w' bQ->w'.heap.size=w.heap.size+1->K (.pointer (some ⟨w.heap.size,0,none⟩)) w'):aB pg (Hx 57 (.map (some m))) w K:=O2 Try.underlying57 hm hk
theorem CT{n:Nat}{ps:List (Nat×V3)}{cells:Array V3}{w:V2}(h1:¬n*5>2^24)(h0:¬n*5=0)(hf:Go.Instr.fill (λj=>some (j*5,5)) ((Array.range (n*5)).map ((Try.t65.zero.get!).cells[·%(Try.t65.zero.get!).cells.size]!)) ps=some cells){K:V3->V2->Prop}(hk:∀w',bD w' w.heap.size cells.toList->aJ w w' bQ->w'.heap.size=w.heap.size+1->K (.slice (some ⟨w.heap.size,0,none⟩) n n) w'):aB pg (bY 58 n ps) w K:=zN (i:=Try.t65) Try.underlying58 Ka rfl h1 h0 hf hk
theorem JZ{ox oy:Operand}(x:Option Addr)(n c:Nat)(w:V2):(aE .eql 23 ox oy (.slice x n c) (.slice none 0 0)).run pg w= .ok (.value (.bool x.isNone)) w:=RB Try.underlying23 x n c
theorem BO(b o:Nat)(w:V2):(aF 65 (.pointer (some ⟨b,o,none⟩)) 1).run pg w= .ok (.value (.pointer (some ⟨b,o+1,none⟩))) w:=eB (i:=1) Try.underlying65 rfl G5 (by decide) _
theorem BN(b o:Nat)(w:V2):(aF 65 (.pointer (some ⟨b,o,none⟩)) 0).run pg w= .ok (.value (.pointer (some ⟨b,o,none⟩))) w:=eB (i:=0) Try.underlying65 rfl H6 (by decide) _
theorem De(b o:Nat)(w:V2):(aF 65 (.pointer (some ⟨b,o,none⟩)) 3).run pg w= .ok (.value (.pointer (some ⟨b,o+3,none⟩))) w:=eB (i:=3) Try.underlying65 rfl H6 (by decide) _
theorem Bi(b o:Nat)(w:V2):(aF 65 (.pointer (some ⟨b,o,none⟩)) 4).run pg w= .ok (.value (.pointer (some ⟨b,o+4,none⟩))) w:=eB (i:=4) Try.underlying65 rfl NQ (by decide) _
theorem CZ{ty:TypeId}{w:V2}{b off dl c:Nat}{cs:List V3}(ho:bD w b cs)(hl:off+dl<=cs.length){v:V3}{l:List V3}(h:Sl w v l)(hv:∀x∈l,one x=true){K:V3->V2->Prop}(hk:∀w',bD w' b (mW cs off (l.take (min l.length dl)))->aJ w w' (λx=>x=b)->w'.heap.size=w.heap.size->K (.int .i64 (min l.length dl:Nat)) w'):aB pg (kY .copy #[23,23] ty [.slice (some ⟨b,off,none⟩) dl c,v]) w K:=QI Try.underlying23 KG rfl ho hl h hv hk
theorem Jy{k:IntKind}{lo:Int}(a:Option Addr)(n c:Nat)(w:V2)(h0:0<=lo)(h1:lo<=n):(uQ 23 (.slice a n c) (some (.int k lo)) none none).run pg w= .ok (.value (.slice (lF a c (lo.toNat) 1) (n-lo.toNat) (c-lo.toNat))) w:=Jc Try.underlying23 KG _ n c h0 h1
theorem EI{w:V2}{m:Nat}{l:List (ByteArray×V3)}(hm:Mp w m (λs:ByteArray=>Value.string s) l)(k:ByteArray)(v:V3){K:V3->V2->Prop}(hk:∀w',Mp w' m (λs:ByteArray=>Value.string s) (Ns k v l)->aJ w w' (λy=>y=m)->w'.heap.size=w.heap.size->K undef w'):aB pg (FN 57 (.map (some m)) ((λs:ByteArray=>Value.string s) k) v) w K:=O0 Try.underlying57 (DP Try.underlying9) hm k v hk
theorem Ey{ty:TypeId}{w:V2}{m:Nat}{l:List (ByteArray×V3)}(hm:Mp w m (λs:ByteArray=>Value.string s) l)(k:ByteArray){K:V3->V2->Prop}(hk:∀w',Mp w' m (λs:ByteArray=>Value.string s) (del k l)->aJ w w' (λy=>y=m)->w'.heap.size=w.heap.size->K (.tuple #[]) w'):aB pg (kY .delete #[57,9] ty [.map (some m),.string k]) w K:=Np Try.underlying57 (DP Try.underlying9) hm k hk
theorem Bj(b o:Nat)(w:V2):(aF 65 (.pointer (some ⟨b,o,none⟩)) 2).run pg w= .ok (.value (.pointer (some ⟨b,o+2,none⟩))) w:=eB (i:=2) Try.underlying65 rfl G5 (by decide) _
theorem LK:(pg).info? 71=some Try.t71:=by kernel_rfl
theorem CI{b off:Nat}{l:List V3}{w:V2}(hl:l.length=5)(h:∀j,j<l.length->w.cell? ⟨b,off+j,none⟩=l[j]?):(aD 71 (.pointer (some ⟨b,off,none⟩))).run pg w= .ok (.value (.agg l.toArray)) w:=KL Try.underlying71 rfl LK hl.symm h
theorem oU{b off:Nat}{cs:List V3}{w:V2}(ho:bD w b cs)(h:off+5<=cs.length):(aD 71 (.pointer (some ⟨b,off,none⟩))).run pg w= .ok (.value (.agg ((cs.drop off).take 5).toArray)) w:=Iu Try.underlying71 rfl LK ho h
theorem fT{base n m:Nat}{ty:TypeId}{w:V2}{v x:V3}{l news:List V3}(h:xE w base 5 v n l)(hx:Cl w 5 x m news)(hone:∀y∈news,one y=true)(hb:base<=w.heap.size)(hbytes:(n+m)*64<=140737488355328){K:V3->V2->Prop}(hk:∀v' w',xE w' base 5 v' (n+m) (l++news)->aJ w w' (λy=>base<=y)->K v' w'):aB pg (kY .append #[39,39] ty [v,x]) w K:=FP (i:=Try.t71) Try.underlying39 Try.underlying39 LK rfl rfl rfl h hx hone hb (by omega) hbytes (by decide) hk
theorem Bb{n:Nat}{ps:List (Nat×V3)}{cells:Array V3}{w:V2}(h1:¬n*5>2^24)(h0:¬n*5=0)(hf:Go.Instr.fill (λj=>some (j*5,5)) ((Array.range (n*5)).map ((Try.t71.zero.get!).cells[·%(Try.t71.zero.get!).cells.size]!)) ps=some cells){K:V3->V2->Prop}(hk:∀w',bD w' w.heap.size cells.toList->aJ w w' bQ->w'.heap.size=w.heap.size+1->K (.slice (some ⟨w.heap.size,0,none⟩) n n) w'):aB pg (bY 39 n ps) w K:=zN (i:=Try.t71) Try.underlying39 LK rfl h1 h0 hf hk
theorem nG{b off:Nat}{cs:List V3}{w:V2}{v:V3}{K:V3->V2->Prop}(ho:bD w b cs)(hv:one v=true)(h:off<cs.length)(hk:∀w',bD w' b (cs.set off v)->aJ w w' (λx=>x=b)->w'.heap.size=w.heap.size->K undef w'):aB pg (aO 39 (.pointer (some ⟨b,off,none⟩)) v) w K:=mE RV rfl ho hv h hk
theorem RU:(pg).info? 38=some Try.t38:=by kernel_rfl
theorem zV(b o:Nat)(w:V2):(aF 41 (.pointer (some ⟨b,o,none⟩)) 1).run pg w= .ok (.value (.pointer (some ⟨b,o+1,none⟩))) w:=eB (i:=1) Try.underlying41 rfl RU (by decide) _
theorem sJ{b off:Nat}{cs:List V3}{w:V2}{v:V3}{K:V3->V2->Prop}(ho:bD w b cs)(hv:one v=true)(h:off<cs.length)(hk:∀w',bD w' b (cs.set off v)->aJ w w' (λx=>x=b)->w'.heap.size=w.heap.size->K undef w'):aB pg (aO 38 (.pointer (some ⟨b,off,none⟩)) v) w K:=mE RU rfl ho hv h hk
theorem Bo(x:Addr)(w:V2):(aD 38 (.pointer (some x))).run pg w=MT (w.cell? x) w (MM pg 38 x w):=H9 Try.underlying38 rfl x w
theorem Bm{k:IntKind}{a:Int}(b o n c:Nat)(w:V2)(h0:0<=a)(h1:a<n):(aL 39 (.slice (some ⟨b,o,none⟩) n c) (.int k a)).run pg w= .ok (.value (.pointer (some ⟨b,o+a.toNat*5,none⟩))) w:=DT rfl Try.underlying39 LK b o n c h0 h1
theorem bP(b o:Nat)(w:V2):(aF 71 (.pointer (some ⟨b,o,none⟩)) 1).run pg w= .ok (.value (.pointer (some ⟨b,o+1,none⟩))) w:=eB (i:=1) Try.underlying71 rfl G5 (by decide) _
theorem bO(b o:Nat)(w:V2):(aF 71 (.pointer (some ⟨b,o,none⟩)) 0).run pg w= .ok (.value (.pointer (some ⟨b,o,none⟩))) w:=eB (i:=0) Try.underlying71 rfl H6 (by decide) _
theorem bK(b o:Nat)(w:V2):(aF 71 (.pointer (some ⟨b,o,none⟩)) 2).run pg w= .ok (.value (.pointer (some ⟨b,o+2,none⟩))) w:=eB (i:=2) Try.underlying71 rfl G5 (by decide) _
theorem cD(b o:Nat)(w:V2):(aF 71 (.pointer (some ⟨b,o,none⟩)) 3).run pg w= .ok (.value (.pointer (some ⟨b,o+3,none⟩))) w:=eB (i:=3) Try.underlying71 rfl H6 (by decide) _
theorem zU(b o:Nat)(w:V2):(aF 41 (.pointer (some ⟨b,o,none⟩)) 0).run pg w= .ok (.value (.pointer (some ⟨b,o,none⟩))) w:=eB (i:=0) Try.underlying41 rfl H6 (by decide) _
theorem Fq{x:ByteArray}{w:V2}{K:V3->V2->Prop}(hk:∀w' c,Sl w' (.slice (some ⟨w.heap.size,0,none⟩) x.size c) (x.data.toList.map xF)->aJ w w' bQ->w'.heap.size=w.heap.size+1->(∃r,bD w' w.heap.size (x.data.toList.map xF++List.replicate r (.int .u8 0))/\c=x.size+r)->K (.slice (some ⟨w.heap.size,0,none⟩) x.size c) w'):aB pg (qI 9 23 (.string x)) w K:=Nq Try.underlying9 Try.underlying23 Try.underlying5 hk
theorem yM(b o:Nat)(w:V2):(aF 71 (.pointer (some ⟨b,o,none⟩)) 4).run pg w= .ok (.value (.pointer (some ⟨b,o+4,none⟩))) w:=eB (i:=4) Try.underlying71 rfl G5 (by decide) _
theorem G7 {k:IntKind}{a:Int}(x:ByteArray)(w:V2)(h0:0<=a)(h1:a.toNat<x.size):(OX 9 (.string x) (.int k a)).run pg w= .ok (.value (.int .u8 (x[a.toNat]'h1).toNat)) w:=Sw Try.underlying9 x h0 h1
theorem AB(s0:ByteArray)(s1:ByteArray)(w:V2):(kS 78 [(0,(.string s0)),(1,(.string s1))]).run pg w= .ok (.value (.agg #[(.string s0),(.string s1)])) w:=by kernel_rfl
theorem HE{k:IntKind}(a:Int)(w:V2):(qI 3 94 (.int k a)).run pg w= .ok (.value (.int .u64 (IntKind.u64.wrap a))) w:=FD Try.underlying3 Try.underlying94
theorem zH{k:IntKind}{hi:Int}(a:Option Addr)(n c:Nat)(w:V2)(h0:0<=hi)(h1:hi<=c):(uQ 38 (.slice a n c) none (some (.int k hi)) none).run pg w= .ok (.value (.slice (lF a c (0) 2) (hi.toNat-0) (c-0))) w:=M4 Try.underlying38 I0 _ n c h0 h1
theorem bL{base n m:Nat}{ty:TypeId}{w:V2}{v x:V3}{l news:List V3}(h:xE w base 2 v n l)(hx:Cl w 2 x m news)(hone:∀y∈news,one y=true)(hb:base<=w.heap.size)(hbytes:(n+m)*32<=140737488355328){K:V3->V2->Prop}(hk:∀v' w',xE w' base 2 v' (n+m) (l++news)->aJ w w' (λy=>base<=y)->K v' w'):aB pg (kY .append #[38,38] ty [v,x]) w K:=FP (i:=Try.t78) Try.underlying38 Try.underlying38 I0 rfl rfl rfl h hx hone hb (by omega) hbytes (by decide) hk
theorem CH{b off:Nat}{l:List V3}{w:V2}(hl:l.length=2)(h:∀j,j<l.length->w.cell? ⟨b,off+j,none⟩=l[j]?):(aD 78 (.pointer (some ⟨b,off,none⟩))).run pg w= .ok (.value (.agg l.toArray)) w:=KL Try.underlying78 rfl I0 hl.symm h
theorem CG{b off:Nat}{cs:List V3}{w:V2}(ho:bD w b cs)(h:off+2<=cs.length):(aD 78 (.pointer (some ⟨b,off,none⟩))).run pg w= .ok (.value (.agg ((cs.drop off).take 2).toArray)) w:=Iu Try.underlying78 rfl I0 ho h
theorem sE{n:Nat}{ps:List (Nat×V3)}{cells:Array V3}{w:V2}(h1:¬n*2>2^24)(h0:¬n*2=0)(hf:Go.Instr.fill (λj=>some (j*2,2)) ((Array.range (n*2)).map ((Try.t78.zero.get!).cells[·%(Try.t78.zero.get!).cells.size]!)) ps=some cells){K:V3->V2->Prop}(hk:∀w',bD w' w.heap.size cells.toList->aJ w w' bQ->w'.heap.size=w.heap.size+1->K (.slice (some ⟨w.heap.size,0,none⟩) n n) w'):aB pg (bY 38 n ps) w K:=zN (i:=Try.t78) Try.underlying38 I0 rfl h1 h0 hf hk
theorem zI{k:IntKind}{lo:Int}(a:Option Addr)(n c:Nat)(w:V2)(h0:0<=lo)(h1:lo<=n):(uQ 38 (.slice a n c) (some (.int k lo)) none none).run pg w= .ok (.value (.slice (lF a c (lo.toNat) 2) (n-lo.toNat) (c-lo.toNat))) w:=Jc Try.underlying38 I0 _ n c h0 h1
theorem KH(x:Addr)(w:V2):(aD 53 (.pointer (some x))).run pg w=MT (w.cell? x) w (MM pg 53 x w):=H9 Try.underlying53 rfl x w
theorem Kx{n:Nat}{ps:List (Nat×V3)}{cells:Array V3}{w:V2}(h1:¬n*1>2^24)(h0:¬n*1=0)(hf:Go.Instr.fill (λj=>some (j*1,1)) ((Array.range (n*1)).map ((Try.t9.zero.get!).cells[·%(Try.t9.zero.get!).cells.size]!)) ps=some cells){K:V3->V2->Prop}(hk:∀w',bD w' w.heap.size cells.toList->aJ w w' bQ->w'.heap.size=w.heap.size+1->K (.slice (some ⟨w.heap.size,0,none⟩) n n) w'):aB pg (bY 53 n ps) w K:=zN (i:=Try.t9) Try.underlying53 G5 rfl h1 h0 hf hk
theorem S7:(pg).info? 53=some Try.t53:=by kernel_rfl
theorem KW{b off:Nat}{cs:List V3}{w:V2}{v:V3}{K:V3->V2->Prop}(ho:bD w b cs)(hv:one v=true)(h:off<cs.length)(hk:∀w',bD w' b (cs.set off v)->aJ w w' (λx=>x=b)->w'.heap.size=w.heap.size->K undef w'):aB pg (aO 53 (.pointer (some ⟨b,off,none⟩)) v) w K:=mE S7 rfl ho hv h hk
theorem C0 {k:IntKind}(a:Int)(w:V2):(qI 94 105 (.int k a)).run pg w= .ok (.value (.int .u32 (IntKind.u32.wrap a))) w:=FD Try.underlying94 Try.underlying105
theorem eD{b off:Nat}{cs:List V3}{w:V2}{v:V3}{K:V3->V2->Prop}(ho:bD w b cs)(hv:one v=true)(h:off<cs.length)(hk:∀w',bD w' b (cs.set off v)->aJ w w' (λx=>x=b)->w'.heap.size=w.heap.size->K undef w'):aB pg (aO 9 (.pointer (some ⟨b,off,none⟩)) v) w K:=mE G5 rfl ho hv h hk
theorem BL{k:IntKind}(a:Int)(w:V2):(qI 3 108 (.int k a)).run pg w= .ok (.value (.int .u64 (IntKind.u64.wrap a))) w:=FD Try.underlying3 Try.underlying108
theorem PV:(pg).info? 108=some Try.t108:=by kernel_rfl
theorem Fc{w:V2}{K:V3->V2->Prop}(hk:∀w',bD w' w.heap.size [(.int .u64 0)]->aJ w w' bQ->w'.heap.size=w.heap.size+1->K (.pointer (some ⟨w.heap.size,0,none⟩)) w'):aB pg (lE 108) w K:=DX (i:=Try.t108) PV rfl hk
theorem oE{b off:Nat}{cs:List V3}{w:V2}{v:V3}{K:V3->V2->Prop}(ho:bD w b cs)(hv:one v=true)(h:off<cs.length)(hk:∀w',bD w' b (cs.set off v)->aJ w w' (λx=>x=b)->w'.heap.size=w.heap.size->K undef w'):aB pg (aO 108 (.pointer (some ⟨b,off,none⟩)) v) w K:=mE PV rfl ho hv h hk
theorem Lt{k:IntKind}(a:Int)(w:V2):(qI 94 3 (.int k a)).run pg w= .ok (.value (.int .i64 (IntKind.i64.wrap a))) w:=FD Try.underlying94 Try.underlying3
theorem R7 {w:V2}{K:V3->V2->Prop}(hk:∀w',bD w' w.heap.size [(.int .i64 0)]->aJ w w' bQ->w'.heap.size=w.heap.size+1->K (.pointer (some ⟨w.heap.size,0,none⟩)) w'):aB pg (lE 3) w K:=DX (i:=Try.t3) H6 rfl hk
theorem H4 {k:IntKind}(a:Int)(w:V2):(qI 105 5 (.int k a)).run pg w= .ok (.value (.int .u8 (IntKind.u8.wrap a))) w:=FD Try.underlying105 Try.underlying5
theorem B9 {k:IntKind}(a:Int)(w:V2):(qI 107 5 (.int k a)).run pg w= .ok (.value (.int .u8 (IntKind.u8.wrap a))) w:=FD Try.underlying107 Try.underlying5
theorem Fx(x:Addr)(w:V2):(aD 108 (.pointer (some x))).run pg w=MT (w.cell? x) w (MM pg 108 x w):=H9 Try.underlying108 rfl x w
end Go.Proofs.Ytmhokapokchneaa
namespace Go.En
open Go Go.ChangeShapes Go.WideShapes Go.ChangeAt Go.RowKit
theorem J1 {H:Type}{enc:TypeId×V3->H}{P:Program}(hl:laidOutB P=true){W W':V2}(hb:Below W.heap.size W W'):∀(ts:List TypeId) (vs:List V3) (ds:List (DataW H)) (ps:List MemPlace),
 (ts.all λt=>P.readableRec t&&decide (t<P.types.size))=true->DataW.TrodAll enc P W 0 (λ_=>true) true ts vs ds ps->(∀x∈ps,x.block<W.heap.size)→
 DataW.TrodAll enc P W' 0 (λb=>decide (b<W.heap.size)) true ts vs ds ps:=by
 intro ts
 induction ts with
 |nil=>
  intro vs ds ps _ h _
  cases vs<;>cases ds<;>simp[DataW.TrodAll]at h⊢
  exact h
 |cons t ts ih=>
  intro vs ds ps hr h hlt
  cases vs with
  |nil=>simp[DataW.TrodAll]at h
  |cons v vs=>
   cases ds with
   |nil=>simp[DataW.TrodAll]at h
   |cons d ds=>
    obtain⟨p,q,h1,h2,rfl⟩:=h
    rw[List.all_cons,Uz,Uz,decide_eq_true_eq]at hr
    exact⟨p,q,Below.trod hl hr.1.1 hr.1.2 h1 hb (λx hx=>hlt x (Vt _ hx)),ih _ _ _ hr.2 h2 (λx hx=>hlt x (VH _ hx)),rfl⟩
theorem P2 {H:Type}{enc:TypeId×V3->H}{P:Program}{f:Func}{s:ChangeSpec}{apart fresh handsOn:Bool}{tb:TypeId}{W W':V2}{args:Array V3}{ds gs:List (DataW H)}{before:List MemPlace}
 (hl:laidOutB P=true) (hr:(f.params.toList.all λt=>P.readableRec t&&decide (t<P.types.size))=true) (hres:f.resultTypes= #[tb]) (hbool:P.underlying tb=some .bool)
 (hW:DataW.Whole enc P f.params.toList s.vars apart W args.toList ds gs before) (hvars:s.vars=[]) (h1:(s.fn H (ds++gs)).results=[.lit (.bool true)]) (h2:(s.fn H (ds++gs)).args=ds) (h3:(s.fn H (ds++gs)).vars=[])
 (hx:aJ W W' bQ):s.post enc P f apart fresh handsOn false W args (.bool true) W':=by
 have hb:=hx.below
 have hlt:∀x∈before,x.block<W.heap.size:=λx hx=>hW.lt x hx
 have hW':=hW
 obtain⟨p,q,hA,hV,rfl,_,_⟩:=hW
 rw[hvars]at hV
 obtain⟨_,rfl⟩:=trodVars_none hV
 rw[VA]at hW' hlt
 refine⟨ds,gs,p,[],p,[],hW', ?_, ?_, ?_,hb.frame _,λh=>by cases h⟩
 .rw [h1,hres]
  exact trodAll_cons_mk (shut_bool hbool _) trodAll_mk0
 .rw [h2];exact J1 hl hb _ _ _ _ hr hA hlt
 .rw [h3,hvars]<;>rfl
theorem QL(zs:List Int)(h:∀z∈zs,(Lit.int .u8 z).wf=true):∃l:List UInt8,zs.map (Value.int .u8)=l.map xF/\l.length=zs.length:=by
 refine⟨zs.map λz=>UInt8.ofNat z.toNat, ?_,by simp⟩
 rw[List.map_map]
 refine Va λz hz=> ?_
 have:=h z hz
 have hx:0<=z/\z<=255:=by simpa[Lit.wf,IntKind.min,IntKind.max,IntKind.signed,IntKind.bits]using this
 show _=xF (UInt8.ofNat z.toNat)
 unfold xF
 rw[UInt8.toNat_ofNat']
 congr 1
 omega
end Go.En
namespace Go.Proofs.Ytmhokapokchneaa
open Go Go.En
attribute[seval] aB tZ aV stepR_skip Ja R3 Te Ti Tj Ta TY Tl Qp Tk Jb HL Tg wX R1 yZ Cm Tf Tb R2 qH Td Tc Th Uk Ul Um Un Uo Up Uq Ur Us gO Result.ok.injEq Next.value.injEq true_and and_true Cp Mt TF TH TG TI UJ wP G6 uG uF mK lL Q5 Pm jJ eH if_true if_false UE Uw Option.isNone_some Option.isNone_none VJ VG Ux Uv LR Hy MW MR Am LI P5 Ow F7 Hd Ox zY zX wN LM xI oQ pX wO zS tE Gn CS Gf JP Ge zQ Fu Dp Dq Dg Gg Gc Gb Ct Cu AA xH wG yB AD zT xG MU Bt AF Bp Bu KF mQ zW bN kI He Ba JZ BO BN De Bi Jy Bj zV Bo Bm bP bO bK cD zU yM G7 AB HE zH zI KH C0 BL Lt H4 B9 Fx
end Go.Proofs.Ytmhokapokchneaa
namespace Go.Pu
section
variable{κ β:Type}[DecidableEq κ]
def bC(k:κ):List (κ×β)->Option β
 |[]=>none
 |p::r=>if k=p.1 then some p.2 else bC k r
def rU(k:κ)(v:β):List (κ×β)->List (κ×β)
 |[]=>[(k,v)]
 |p::r=>if k=p.1 then(k,v)::r else p::rU k v r
def sM(k:κ):List (κ×β)->List (κ×β)
 |[]=>[]
 |p::r=>if k=p.1 then r else p::sM k r
theorem LH(k j:κ)(v:β):∀l:List (κ×β),bC j (rU k v l)=if j=k then some v else bC j l:=by
 intro l
 induction l with
 |nil=>simp only[rU,bC]
 |cons p r ih=>
  simp only[rU]
  by_cases h:k=p.1
  .rw [if_pos h]
   simp only[bC]
   by_cases hj:j=k
   .rw [if_pos hj,if_pos hj]
   .rw [if_neg hj,if_neg hj,if_neg (λe=>hj (e.trans h.symm))]
  .rw [if_neg h]
   simp only[bC,ih]
   by_cases hj:j=p.1
   .rw [if_pos hj,if_pos hj,if_neg (λe=>h (e.symm.trans hj))]
   .rw [if_neg hj,if_neg hj]
theorem G4 {k:κ}:∀{l:List (κ×β)},k∉l.map (·.1)->bC k l=none
 |[],_=>rfl
 |p::r,h=>by
  rw[UB,UD,not_or]at h
  rw[bC,if_neg h.1,G4 h.2]
theorem Gh{k j:κ}:∀{l:List (κ×β)},(l.map (·.1)).Nodup->bC j (sM k l)=if j=k then none else bC j l
 |[],_=>by simp[sM,bC]
 |p::r,h=>by
  rw[UB,Vv]at h
  simp only[sM]
  by_cases hk:k=p.1
  .rw [if_pos hk]
   simp only[bC]
   by_cases hj:j=k
   .rw [if_pos hj,hj,hk,G4 h.1]
   .rw [if_neg hj,if_neg (λe=>hj (e.trans hk.symm))]
  .rw [if_neg hk]
   simp only[bC,Gh h.2]
   by_cases hj:j=p.1
   .rw [if_pos hj,if_pos hj,if_neg (λe=>hk (e.symm.trans hj))]
   .rw [if_neg hj,if_neg hj]
theorem J9 {k:κ}{v:β}{x:κ}:∀{l:List (κ×β)},x∈(rU k v l).map (·.1)->x=k∨x∈l.map (·.1)
 |[],h=>by simp[rU]at h;exact .inl h
 |p::r,h=>by
  simp only[rU]at h
  split at h
  .rename_i e
   rw[UB,UD]at h
   rcases h with h|h
   .exact .inl h
   .exact .inr (by rw[UB];exact UC _ h)
  .rw [UB,UD]at h
   rcases h with h|h
   .exact .inr (by rw[UB,h];exact UP)
   .rcases J9 h with h|h
    .exact .inl h
    .exact .inr (by rw[UB];exact UC _ h)
theorem Fw{k:κ}{v:β}:∀{l:List (κ×β)},(l.map (·.1)).Nodup->((rU k v l).map (·.1)).Nodup
 |[],_=>by simp[rU]
 |p::r,h=>by
  rw[UB,Vv]at h
  simp only[rU]
  split
  .rename_i e
   rw[UB,Vv]
   exact⟨λhm=>h.1 (e▸hm),h.2⟩
  .rename_i e
   rw[UB,Vv]
   refine⟨λhm=> ?_,Fw h.2⟩
   rcases J9 hm with h1|h1
   .exact e h1.symm
   .exact h.1 h1
theorem IU{k:κ}:∀l:List (κ×β),(sM k l).Sublist l
 |[]=>List.Sublist.slnil
 |p::r=>by
  simp only[sM]
  split
  .exact List.sublist_cons_self _ _
  .exact (IU r).cons_cons _
theorem Fv{k:κ}{l:List (κ×β)}(h:(l.map (·.1)).Nodup):((sM k l).map (·.1)).Nodup:=h.sublist ((IU l).map _)
end
abbrev aX:=List (ByteArray×List UInt8)
def bF(c:aX):Nat:=(c.map λp=>p.2.length).sum
theorem Bl(k:ByteArray)(b:List UInt8):∀c:aX,bF (rU k b c)+((bC k c).getD []).length=bF c+b.length
 |[]=>by simp[rU,bC,bF]
 |p::r=>by
  have ih:=Bl k b r
  simp only[rU,bC]
  split
  .simp [bF];omega
  .unfold bF at*
   rw[UB,UB,Vy,Vy];omega
theorem Bk(k:ByteArray):∀c:aX,bF (sM k c)+((bC k c).getD []).length=bF c
 |[]=>by simp[sM,bC,bF]
 |p::r=>by
  have ih:=Bk k r
  simp only[sM,bC]
  split
  .simp [bF];omega
  .unfold bF at*
   rw[UB,UB,Vy,Vy];omega
theorem LF{c:aX}{j:Nat}(h:j<c.length):bF (c.eraseIdx j)+c[j].2.length=bF c:=by
 induction c generalizing j with
 |nil=>simp at h
 |cons p r ih=>
  cases j with
  |zero=>simp[bF];omega
  |succ j=>
   have:=ih (j:=j) (by simpa using h)
   unfold bF at*
   rw[U7,UB,UB,Vy,Vy,List.getElem_cons_succ];omega
theorem xQ{k:ByteArray}{c:aX}:((bC k c).getD []).length<=bF c:=by have:=Bk k c;omega
structure Ax where
 kind:Nat
 name:ByteArray
 other:ByteArray
 at':Nat
 bytes:List UInt8
def over(old:List UInt8)(a:Nat)(b:List UInt8):List UInt8:=(old++List.replicate (max old.length (a+b.length)-old.length) 0).take a++b++(old++List.replicate (max old.length (a+b.length)-old.length) 0).drop (a+b.length)
theorem sG(old:List UInt8)(a:Nat)(b:List UInt8):(over old a b).length=max old.length (a+b.length):=by
 unfold over
 simp only[Uu,US,U8,Vf];omega
def Ez(o:Ax)(c:aX):aX:=
 if o.kind=0 then rU o.name (over ((bC o.name c).getD []) o.at' o.bytes) c
 else if o.kind=1 then match bC o.name c with
  |none=>c
  |some old=>rU o.other old (sM o.name c)
 else if o.kind=2 then sM o.name c else c
end Go.Pu
namespace Go.En
open Go Go.Pu
theorem Si{v:V3}{P Q:Nat->Prop}(h:Ci v λb=>P b∨Q b):Ci v P∨Ci v Q:=by
 unfold Ci at*
 split
 .exact h
 .rename_i hne
  split at h
  .exact absurd rfl (hne _ _ _)
  .exact h.elim
def tW(w:V2)(X:Nat->Prop)(v:V3)(b:List UInt8):Prop:=Bs w v b/\¬Ci v X
theorem tW.ext {w w':V2}{X M:Nat->Prop}{v:V3}{b:List UInt8}(h:tW w X v b)(x:aJ w w' M)(hM:∀b,M b->X b):tW w' X v b:=⟨h.1.ext x λh'=>h.2 (kK h' hM),h.2⟩
theorem tW.sub {w:V2}{X Y:Nat->Prop}{v:V3}{b:List UInt8}(h:tW w X v b)(hY:∀b,Y b->X b∨w.heap.size<=b):tW w Y v b:=
 ⟨h.1,λh'=>by
   rcases Si (kK h' hY)with h'|h'
   .exact h.2 h'
   .exact h.1.old h'⟩
def vQ(w:V2)(X:Nat->Prop):List (ByteArray×V3)->aX->Prop
 |[],[]=>True
 |p::l,q::c=>p.1=q.1/\tW w X p.2 q.2/\vQ w X l c
 |_,_=>False
theorem vQ.map {w w':V2}{X Y:Nat->Prop}(hd:∀v b,tW w X v b->tW w' Y v b):∀{l:List (ByteArray×V3)} {c:aX},vQ w X l c->vQ w' Y l c
 |[],[],_=>trivial
 |p::l,q::c,h=>⟨h.1,hd _ _ h.2.1,vQ.map hd h.2.2⟩
theorem vQ.ext {w w':V2}{X M:Nat->Prop}{l:List (ByteArray×V3)}{c:aX}(h:vQ w X l c)(x:aJ w w' M)(hM:∀b,M b->X b):vQ w' X l c:=h.map λ_ _ h=>h.ext x hM
theorem vQ.sub {w:V2}{X Y:Nat->Prop}{l:List (ByteArray×V3)}{c:aX}(h:vQ w X l c)(hY:∀b,Y b->X b∨w.heap.size<=b):vQ w Y l c:=h.map λ_ _ h=>h.sub hY
theorem vQ.get {w:V2}{X:Nat->Prop}(k:ByteArray):∀{l:List (ByteArray×V3)} {c:aX},vQ w X l c->(B6 k l=none/\bC k c=none)∨∃v b,B6 k l=some v/\bC k c=some b/\tW w X v b
 |[],[],_=> .inl ⟨rfl,rfl⟩
 |p::l,q::c,h=>by
  obtain⟨h1,h2,h3⟩:=h
  simp only[B6,bC,<-h1]
  by_cases hk:k=p.1
  .rw [if_pos hk,if_pos hk];exact .inr ⟨_,_,rfl,rfl,h2⟩
  .rw [if_neg hk,if_neg hk];exact vQ.get k h3
theorem vQ.set {w:V2}{X:Nat->Prop}{k:ByteArray}{v:V3}{b:List UInt8}(hd:tW w X v b):∀{l:List (ByteArray×V3)} {c:aX},vQ w X l c->vQ w X (Ns k v l) (rU k b c)
 |[],[],_=>⟨rfl,hd,trivial⟩
 |p::l,q::c,h=>by
  obtain⟨h1,h2,h3⟩:=h
  simp only[Ns,rU,<-h1]
  by_cases hk:k=p.1
  .rw [if_pos hk,if_pos hk];exact⟨rfl,hd,h3⟩
  .rw [if_neg hk,if_neg hk];exact⟨h1,h2,vQ.set hd h3⟩
theorem vQ.del {w:V2}{X:Nat->Prop}{k:ByteArray}:∀{l:List (ByteArray×V3)} {c:aX},vQ w X l c->vQ w X (del k l) (sM k c)
 |[],[],_=>trivial
 |p::l,q::c,h=>by
  obtain⟨h1,h2,h3⟩:=h
  simp only[Go.En.del,sM,<-h1]
  by_cases hk:k=p.1
  .rw [if_pos hk,if_pos hk];exact h3
  .rw [if_neg hk,if_neg hk];exact⟨h1,h2,vQ.del h3⟩
theorem vQ.len {w:V2}{X:Nat->Prop}:∀{l:List (ByteArray×V3)} {c:aX},vQ w X l c->l.length=c.length
 |[],[],_=>rfl
 |p::l,q::c,h=>by rw[UL,UL,vQ.len h.2.2]
theorem vQ.at {w:V2}{X:Nat->Prop}:∀{l:List (ByteArray×V3)} {c:aX} {j:Nat} (h:vQ w X l c) (h1:j<l.length) (h2:j<c.length),l[j].1=c[j].1/\tW w X l[j].2 c[j].2
 |[],[],j,_,h1,_=>by simp at h1
 |p::l,q::c,0,h,_,_=>⟨h.1,h.2.1⟩
 |p::l,q::c,j+1,h,h1,h2=>vQ.at h.2.2 (by simpa using h1) (by simpa using h2)
theorem vQ.erase {w:V2}{X:Nat->Prop}:∀{l:List (ByteArray×V3)} {c:aX} (j:Nat) (h:vQ w X l c),vQ w X (l.eraseIdx j) (c.eraseIdx j)
 |[],[],j,_=>by simp[vQ]
 |p::l,q::c,0,h=>h.2.2
 |p::l,q::c,j+1,h=>by
  rw[U7,U7]
  exact⟨h.1,h.2.1,vQ.erase j h.2.2⟩
theorem vQ.keys {w:V2}{X:Nat->Prop}:∀{l:List (ByteArray×V3)} {c:aX},vQ w X l c->l.map (·.1)=c.map (·.1)
 |[],[],_=>rfl
 |p::l,q::c,h=>by rw[UB,UB,h.1,vQ.keys h.2.2]
end Go.En
namespace Go.En
open Go
theorem J5.ext {w w':V2}{S M:Nat->Prop}{sz n:Nat}{v:V3}{l:List V3}(h:J5 w S sz v n l)(hx:aJ w w' M)(hM:∀b,S b->¬M b):J5 w' S sz v n l:=by
 refine⟨h.1, ?_⟩
 rcases h.2 with h2|⟨b,c,rest,h1,h2,h3,h4,h5⟩
 .exact .inl h2
 .exact .inr ⟨b,c,rest,h1,h2,h3.ext hx (hM b h2),h4,h5⟩
theorem xE.ne {w:V2}{base p sz n:Nat}{v:V3}{l:List V3}(h:xE w base sz v n l)(hp:w.heap.size<=p):J5 w (λb=>base<=b/\b≠p) sz v n l:=by
 refine⟨h.1, ?_⟩
 rcases h.2 with h2|⟨b,c,rest,h1,h2,h3,h4,h5⟩
 .exact .inl h2
 .have:=h3.lt
  exact .inr ⟨b,c,rest,h1,⟨h2,by omega⟩,h3,h4,h5⟩
theorem J5.len {w:V2}{S:Nat->Prop}{sz n:Nat}{v:V3}{l:List V3}(h:J5 w S sz v n l):∃a c,v= .slice a n c:=by
 rcases h.2 with⟨h1,rfl⟩|⟨b,c,rest,h1,_⟩
 .exact ⟨_,_,h1⟩
 .exact ⟨_,_,h1⟩
end Go.En
namespace Go.En
open Go Go.Pu
def GS(o:Ax)(v:V3):List V3:=[.int .i64 o.kind,.string o.name,.string o.other,.int .i64 o.at',v]
def HX(w:V2)(X:Nat->Prop):List V3->List Ax->Prop
 |cs,[]=>cs=[]
 |cs,o::os=>∃v cs',(∃x n k,v= .slice x n k)/\cs=GS o v++cs'/\tW w X v o.bytes/\HX w X cs' os
theorem HX.nil (w:V2)(X:Nat->Prop):HX w X [] []:=rfl
theorem HX.map {w w':V2}{X Y:Nat->Prop}(hd:∀v b,tW w X v b->tW w' Y v b):∀{os:List Ax} {cs:List V3},HX w X cs os->HX w' Y cs os
 |[],cs,h=>h
 |o::os,cs,⟨v,cs',h1,h2,h3,h4⟩=>⟨v,cs',h1,h2,hd _ _ h3,HX.map hd h4⟩
theorem HX.ext {w w':V2}{X M:Nat->Prop}{os:List Ax}{cs:List V3}(h:HX w X cs os)(x:aJ w w' M)(hM:∀b,M b->X b):HX w' X cs os:=h.map λ_ _ h=>h.ext x hM
theorem HX.sub {w:V2}{X Y:Nat->Prop}{os:List Ax}{cs:List V3}(h:HX w X cs os)(hY:∀b,Y b->X b∨w.heap.size<=b):HX w Y cs os:=h.map λ_ _ h=>h.sub hY
theorem HX.len {w:V2}{X:Nat->Prop}:∀{os:List Ax} {cs:List V3},HX w X cs os->cs.length=os.length*5
 |[],cs,h=>by rw[show cs=[]from h]<;>rfl
 |o::os,cs,⟨v,cs',h1,h2,h3,h4⟩=>by rw[h2,Uu,HX.len h4,UL];show 5+_=_;omega
theorem HX.snoc {w:V2}{X:Nat->Prop}{o:Ax}{v:V3}(hv:∃x n k,v= .slice x n k)(hd:tW w X v o.bytes):∀{os:List Ax} {cs:List V3},HX w X cs os->HX w X (cs++GS o v) (os++[o])
 |[],cs,h=>⟨v,[],hv,by rw[show cs=[]from h,U2,VA],hd,rfl⟩
 |o'::os,cs,⟨v',cs',h1,h2,h3,h4⟩=>⟨v',cs'++GS o v,h1,by rw[h2,Vk],h3,HX.snoc hv hd h4⟩
theorem HX.at {w:V2}{X:Nat->Prop}:∀{os:List Ax} {cs:List V3} {i:Nat} (h:HX w X cs os) (hi:i<os.length),∃v,(∃x n k,v= .slice x n k)/\(cs.drop (i*5)).take 5=GS os[i] v/\tW w X v os[i].bytes
 |[],cs,i,_,hi=>by simp at hi
 |o::os,cs,0,⟨v,cs',h1,h2,h3,h4⟩,_=>⟨v,h1,by rw[h2]<;>rfl,h3⟩
 |o::os,cs,i+1,⟨v,cs',h1,h2,h3,h4⟩,hi=>by
  obtain⟨v',q1,q2,q3⟩:=HX.at h4 (i:=i) (by simpa using hi)
  refine⟨v',q1, ?_,q3⟩
  rw[show(i+1)*5=5+i*5 from by omega,<-List.drop_drop,h2]
  exact q2
structure iL where
 room:Int
 sure:aX
 seen:aX
 under:List Ax
 left:Int
 down:Bool
abbrev Dc:ByteArray->V3:=λs=> .string s
def fB(w:V2)(p:Nat)(X D:Nat->Prop)(S:iL):Prop:=
 ∃(ms mn:Nat) (sv:V3) (ls ln:List (ByteArray×V3)) (cs:List V3),X p/\X ms/\X mn/\p≠ms/\p≠mn/\ms≠mn/\(∀b,X b->D b)/\(∀b,D b->b<w.heap.size)/\
  bD w p [.int .i64 S.room,.map (some ms),.map (some mn),sv,.int .i64 S.left,.bool S.down]/\Mp w ms Dc ls/\Mp w mn Dc ln/\vQ w D ls S.sure/\vQ w D ln S.seen/\
  J5 w (λb=>X b/\b≠p/\b≠ms/\b≠mn) 5 sv S.under.length cs/\HX w D cs S.under
theorem fB.ext {w w':V2}{p:Nat}{X D M:Nat->Prop}{S:iL}(h:fB w p X D S)(x:aJ w w' M)(hM:∀b,M b->D b/\¬X b):fB w' p X D S:=by
 obtain⟨ms,mn,sv,ls,ln,cs,h1,h2,h3,h4,h5,h6,h7,h7',h8,h9,h10,h11,h12,h13,h14⟩:=h
 have hx:∀{b},X b->¬M b:=λhb hm=>(hM _ hm).2 hb
 have hd:∀v b,tW w D v b->tW w' D v b:=λ_ _ hd=>hd.ext x λb h=>(hM b h).1
 exact⟨ms,mn,sv,ls,ln,cs,h1,h2,h3,h4,h5,h6,h7,λb hb=>UQ (h7' b hb) x.size,h8.ext x (hx h1),h9.ext x (hx h2),h10.ext x (hx h3),h11.map hd,h12.map hd,h13.ext x (λb hb=>hx hb.1),h14.map hd⟩
theorem fB.new {w w':V2}{p:Nat}{X D:Nat->Prop}{S:iL}(h:fB w p X D S)(x:aJ w w' bQ):fB w' p X D S:=h.ext x λ_ h=>h.elim
theorem fB.more {w w':V2}{p q:Nat}{X D:Nat->Prop}{S:iL}(h:fB w p X D S)(x:aJ w w' bQ)(hq:w.heap.size<=q)(hq':q<w'.heap.size):fB w' p X (λb=>D b∨b=q) S:=by
 obtain⟨ms,mn,sv,ls,ln,cs,h1,h2,h3,h4,h5,h6,h7,h7',h8,h9,h10,h11,h12,h13,h14⟩:=h
 have hd:∀v b,tW w D v b->tW w' (λb=>D b∨b=q) v b:=λv b hd=>(hd.sub (Y:=λb=>D b∨b=q) λb h=>by
  rcases h with h|h
  .exact .inl h
  .exact .inr (by omega)).ext x λ_ h=>h.elim
 have z:=x.size
 exact⟨ms,mn,sv,ls,ln,cs,h1,h2,h3,h4,h5,h6,λb h=> .inl (h7 b h),λb hb=>by
  rcases hb with hb|hb
  .have:=h7' b hb;omega
  .omega,h8.ext x (λh=>h),h9.ext x (λh=>h),h10.ext x (λh=>h),h11.map hd,h12.map hd,h13.ext x (λb _ h=>h),h14.map hd⟩
end Go.En
namespace Go.Pu
open Go
def fU(x y:ByteArray):Bool:=Op.bytesLess x.toList y.toList
theorem Pw:∀x:List UInt8,Op.bytesLess x x=false
 |[]=>rfl
 |a::x=>by
  unfold Op.bytesLess
  rw[Pw x]
  simp
theorem Px:∀x y:List UInt8,x≠y->Op.bytesLess x y=false->Op.bytesLess y x=true
 |[],[],h,_=>absurd rfl h
 |[],b::y,_,h=>by simp[Op.bytesLess]at h
 |a::x,[],_,_=>by simp[Op.bytesLess]
 |a::x,b::y,h,h2=>by
  unfold Op.bytesLess at h2⊢
  by_cases e:a=b
  .subst e
   have hxy:x≠y:=λe=>h (by rw[e])
   simp at h2⊢
   exact Px x y hxy h2
  .simp [e]at h2
   have h3:¬a.toNat<b.toNat:=λhh=>by
    have:a<b:=VT.2 hh
    exact absurd this (by simpa using h2)
   have h4:a.toNat≠b.toNat:=λhh=>e (UInt8.toNat_inj.1 hh)
   have:b<a:=VT.2 (by omega)
   simp[this]
theorem Lp:∀x y z:List UInt8,Op.bytesLess x y=true->Op.bytesLess y z=true->Op.bytesLess x z=true
 |_,[],_,h,_=>by simp[Op.bytesLess]at h
 |_,_::_,[],_,h=>by simp[Op.bytesLess]at h
 |[],_::_,_::_,_,_=>by simp[Op.bytesLess]
 |a::x,b::y,c::z,h1,h2=>by
  unfold Op.bytesLess at h1 h2⊢
  rw[U4,Uz,decide_eq_true_eq,beq_iff_eq]at h1 h2⊢
  rcases h1 with h1|⟨rfl,h1⟩
  .rcases h2 with h2|⟨rfl,h2⟩
   .left
    rw[VT]at*
    omega
   .exact .inl h1
  .rcases h2 with h2|⟨rfl,h2⟩
   .exact .inl h2
   .exact .inr ⟨rfl,Lp x y z h1 h2⟩
theorem An(x:ByteArray):fU x x=false:=Pw _
theorem DQ{x y:ByteArray}(h:x≠y)(h2:fU x y=false):fU y x=true:=by
 refine Px _ _ (λe=>h ?_) h2
 rw[ByteArray.toList_eq,ByteArray.toList_eq]at e
 cases x;cases y
 simp at e
 rw[e]
theorem xR{x y z:ByteArray}(h:fU x y=true)(h2:fU y z=true):fU x z=true:=Lp _ _ _ h h2
def QX(l:aX):Prop:=l.Pairwise λp q=>fU p.1 q.1=true
theorem QX.nodup {l:aX}(h:QX l):(l.map (·.1)).Nodup:=by
 rw[List.Nodup,List.pairwise_map]
 exact h.imp λhh e=>by rw[e,An]at hh;cases hh
def BF(n:ByteArray)(l:aX):aX:=l.filter λp=>decide (p.1≠n)
def Pj(n:ByteArray)(b:List UInt8)(l:aX):aX:=(BF n l).takeWhile (λp=>fU p.1 n)++(n,b)::(BF n l).dropWhile (λp=>fU p.1 n)
theorem Df{n j:ByteArray}:∀{l:aX},bC j (BF n l)=if j=n then none else bC j l
 |[]=>by simp[BF,bC]
 |p::r=>by
  have ih:=Df (n:=n) (j:=j) (l:=r)
  unfold BF at ih⊢
  rw[List.filter_cons]
  by_cases h:p.1=n
  .have:decide (p.1≠n)=false:=by simp[h]
   rw[this,if_neg (by decide),ih]
   simp only[bC]
   by_cases hj:j=n
   .rw [if_pos hj,if_pos hj]
   .rw [if_neg hj,if_neg hj,if_neg (λe=>hj (e.trans h))]
  .have:decide (p.1≠n)=true:=by simp[h]
   rw[this,if_pos rfl]
   simp only[bC,ih]
   by_cases hj:j=p.1
   .rw [if_pos hj,if_pos hj,if_neg (λe=>h (hj.symm.trans e))]
   .rw [if_neg hj,if_neg hj]
theorem Ak{j:ByteArray}:∀{a b:aX},bC j (a++b)=(bC j a).or (bC j b)
 |[],b=>by simp[bC]
 |p::r,b=>by
  rw[VP]
  simp only[bC]
  by_cases h:j=p.1
  .rw [if_pos h,if_pos h]<;>rfl
  .rw [if_neg h,if_neg h,Ak]
theorem Gi{n j:ByteArray}{b:List UInt8}{l:aX}:bC j (Pj n b l)=if j=n then some b else bC j l:=by
 have h1:=Df (n:=n) (j:=j) (l:=l)
 have h2:BF n l=(BF n l).takeWhile (λp=>fU p.1 n)++(BF n l).dropWhile (λp=>fU p.1 n):=List.takeWhile_append_dropWhile.symm
 unfold Pj
 rw[Ak]
 by_cases h:j=n
 .rw [if_pos h]at h1⊢
  rw[h2,Ak]at h1
  have:bC j ((BF n l).takeWhile λp=>fU p.1 n)=none:=by
   cases hq:bC j ((BF n l).takeWhile λp=>fU p.1 n)with
   |none=>rfl
   |some v=>rw[hq]at h1;cases h1
  rw[this,Option.none_or]
  simp only[bC]
  rw[if_pos h]
 .rw [if_neg h]at h1⊢
  simp only[bC]
  rw[if_neg h,<-Ak,<-h2,h1]
theorem Oc{n:ByteArray}{l:aX}(h:QX l):QX (BF n l):=List.Pairwise.filter _ h
theorem LV{α:Type}{p:α->Bool}:∀{l:List α} {x:α},x∈l.takeWhile p->p x=true
 |[],x,h=>by simp at h
 |a::l,x,h=>by
  rw[List.takeWhile_cons]at h
  split at h
  .rename_i ha
   rcases UD.1 h with h|h
   .rw [h];exact ha
   .exact LV h
  .cases h
theorem J7 {α:Type}{p:α->Bool}:∀{l:List α} {x:α} {r:List α},l.dropWhile p=x::r->p x=false
 |[],x,r,h=>by simp at h
 |a::l,x,r,h=>by
  rw[List.dropWhile_cons]at h
  split at h
  .exact J7 h
  .rename_i ha
   cases h
   simpa using ha
theorem Oa{n:ByteArray}{b:List UInt8}{l:aX}(h:QX l):QX (Pj n b l):=by
 have h1:QX (BF n l):=Oc h
 have h2:BF n l=(BF n l).takeWhile (λp=>fU p.1 n)++(BF n l).dropWhile (λp=>fU p.1 n):=List.takeWhile_append_dropWhile.symm
 have hne:∀p∈BF n l,p.1≠n:=λp hp=>by
  have:=(VV.1 hp).2
  simpa using this
 unfold QX at h1
 rw[h2,VX]at h1
 obtain⟨ha,hb,hab⟩:=h1
 have hd:∀q∈(BF n l).dropWhile (λp=>fU p.1 n),fU n q.1=true:=by
  intro q hq
  cases hc:(BF n l).dropWhile (λp=>fU p.1 n)with
  |nil=>rw[hc]at hq;cases hq
  |cons x r=>
   have hx:=J7 hc
   have hxm:x∈BF n l:=by rw[h2,hc];exact Vc.2 (.inr UP)
   have hnx:fU n x.1=true:=DQ (hne x hxm) hx
   rw[hc]at hq hb
   rcases UD.1 hq with hq|hq
   .rw [hq];exact hnx
   .exact xR hnx ((Vh.1 hb).1 q hq)
 unfold QX Pj
 rw[VX]
 refine⟨ha,Vh.2 ⟨hd,hb⟩,λp hp q hq=> ?_⟩
 rcases UD.1 hq with hq|hq
 .rw [hq];exact LV (p:=λp:ByteArray×List UInt8=>fU p.1 n) hp
 .exact hab p hp q hq
structure Ku(c l:aX):Prop where
 nd:(c.map (·.1)).Nodup
 st:QX l
 eq:∀n,bC n c=bC n l
theorem Ku.nil:Ku [] []:=⟨List.nodup_nil,List.Pairwise.nil,λ_=>rfl⟩
theorem Ku.both:∀{l c:aX},Ku c l->bF c=bF l/\c.length=l.length
 |[],c,h=>by
  cases c with
  |nil=>exact⟨rfl,rfl⟩
  |cons p r=>
   have:=h.eq p.1
   simp only[bC,if_true]at this
   cases this
 |p::l,c,h=>by
  have hp:bC p.1 c=some p.2:=by rw[h.eq];simp only[bC,if_true]
  have hst:=Vh.1 h.st
  have h1:Ku (sM p.1 c) l:=by
   refine⟨Fv h.nd,hst.2,λn=> ?_⟩
   rw[Gh h.nd,h.eq]
   by_cases hn:n=p.1
   .rw [if_pos hn,hn]
    refine(G4 λhm=> ?_).symm
    obtain⟨q,hq,e⟩:=U1.1 hm
    have:=hst.1 q hq
    rw[e,An]at this
    cases this
   .rw [if_neg hn]
    simp only[bC]
    rw[if_neg hn]
  obtain⟨h2,h3⟩:=h1.both
  have h4:=Bk p.1 c
  rw[hp,Vo]at h4
  have h5:c.length=(sM p.1 c).length+1:=by
   have:∀{c:aX} {k:ByteArray} {v},bC k c=some v->c.length=(sM k c).length+1:=by
    intro c
    induction c with
    |nil=>intro k v hh;cases hh
    |cons q r ih=>
     intro k v hh
     simp only[bC,sM]at hh⊢
     by_cases hk:k=q.1
     .rw [if_pos hk]<;>rfl
     .rw [if_neg hk]at hh⊢
      rw[UL,UL,ih hh]
   exact this hp
  refine⟨?_,by rw[h5,h3]<;>rfl⟩
  show _=((p::l).map λp=>p.2.length).sum
  rw[UB,Vy]
  have:bF l=(l.map λp=>p.2.length).sum:=rfl
  omega
def Je(o:Ax)(l:aX):aX:=
 if o.kind=0 then Pj o.name (over ((bC o.name l).getD []) o.at' o.bytes) l
 else match bC o.name l with
  |none=>l
  |some old=>if o.kind=1 then Pj o.other old (BF o.name l)else BF o.name l
theorem Ku.do {c l:aX}{o:Ax}(h:Ku c l)(ho:o.kind<=2):Ku (Ez o c) (Je o l):=by
 have hdel:Ku (sM o.name c) (BF o.name l):=⟨Fv h.nd,Oc h.st,λn=>by rw[Gh h.nd,Df,h.eq]⟩
 unfold Ez Je
 split
 .refine ⟨Fw h.nd,Oa h.st,λn=> ?_⟩
  rw[LH,Gi,h.eq,h.eq]
 .rename_i h0
  split
  .rename_i h1
   rw[h.eq]
   cases bC o.name l with
   |none=>exact h
   |some old=>
    simp only[h1,if_true]
    exact⟨Fw hdel.nd,Oa hdel.st,λn=>by rw[LH,Gi,hdel.eq]⟩
  .rename_i h1
   have h2:o.kind=2:=by omega
   rw[if_pos h2]
   cases hg:bC o.name l with
   |none=>
    have hc:=h.eq o.name
    rw[hg]at hc
    refine⟨Fv h.nd,h.st,λn=> ?_⟩
    rw[Gh h.nd,h.eq]
    by_cases hn:n=o.name
    .rw [if_pos hn,hn,hg]
    .rw [if_neg hn]
   |some old=>
    simp only[h1,if_false]
    exact hdel
end Go.Pu
namespace Go.Proofs.Ytmhokapokchneaa
open Go Go.En Go.Pu
set_option maxRecDepth 4000
def sN(s:ByteArray):Bool:=decide (1<=s.size/\s.size<=32)
theorem Qa(s:ByteArray)(w:V2):aH pg tY #[.string s] w (λr w'=>r= .bool (sN s)/\w'=w):=by
 refine JM ?_
 unfold Lw HG sN
 by_cases h1:1<=s.size
 .have d1:decide ((1:Int)<=(s.size:Int))=true:=by simp;omega
  by_cases h2:s.size<=32
  .have d2:decide ((s.size:Int)<=32)=true:=by simp;omega
   rw[decide_eq_true ⟨h1,h2⟩]
   simp(disch:=omega)only[seval,d1,d2]
  .have d2:decide ((s.size:Int)<=32)=false:=by simp;omega
   rw[decide_eq_false (λh=>h2 h.2)]
   simp(disch:=omega)only[seval,d1,d2]
 .have d1:decide ((1:Int)<=(s.size:Int))=false:=by simp;omega
  rw[decide_eq_false (λh=>h1 h.1)]
  simp(disch:=omega)only[seval,d1]
theorem SD{m:Nat}{X:Nat->Prop}{ls:List (ByteArray×V3)}{c:aX}{w:V2}(hm:Mp w m Dc ls)(hf:vQ w X ls c)(hs:bF c<=1099511627776):
 aH pg oY #[.map (some m)] w (λr w'=>r= .int .i64 (bF c:Nat)/\aJ w w' bQ):=by
 refine Db ?_
 unfold Cf yL yK rS rR yJ
 have hlt:=hm.lt
 refine EY hm λw1 hi x1 s1=> ?_
 unfold nT
 have hf1:vQ w1 (λb=>X b∨w.heap.size<=b) ls c:=(hf.sub (Y:=λb=>X b∨w.heap.size<=b) λ_ h=>h).ext x1 λ_ h=>h.elim
 refine bG.rule (λk (t:V3) w'=>∃(rest:List (ByteArray×V3)) (cr:aX) (n:Nat),k=rest.length/\t= .int .i64 n/\Q6 w' w.heap.size m Dc rest/\vQ w' (λb=>X b∨w.heap.size<=b) rest cr/\n+bF cr=bF c/\aJ w1 w' (λy=>y=w.heap.size)) ls.length
  ⟨ls,c,0,rfl,rfl,hi,hf1,by omega,aJ.refl _ _⟩ ?_
 rintro k t w2 ⟨rest,cr,n,rfl,rfl,hi2,hf2,hn,x2⟩
 unfold rQ
 refine Mo hi2 (by omega) (λh0=> ?_) λw3 j hj hi3 hc x3 s3=> ?_
 .have hl:=hf2.len
  rw[h0]at hl
  have hcr:cr=[]:=UT.1 hl.symm
  have hz:bF cr=0:=by rw[hcr]<;>rfl
  unfold rP
  have e1:n=bF c:=by omega
  simp(disch:=omega)only[seval,e1]
  exact x1.new x2 (UF _)
 .have hl:=hf2.len
  have hat:=hf2.at hj (by omega)
  obtain⟨va,vc,hv,_⟩:=hat.2.1.len
  rw[UA]at hv
  have he:=NW (P:=pg) hc
  rw[hv]at he
  have hse:=LF (c:=cr) (j:=j) (by omega)
  generalize(cr[j]'(by omega)).2.length=q at*
  have e1:(n:Int)+(q:Int)=((n+q:Nat):Int):=by omega
  simp(disch:=omega)only[seval,he,e1]
  refine⟨(rest.eraseIdx j).length,by rw[List.length_eraseIdx_of_lt hj];omega,_,cr.eraseIdx j,n+q,rfl,rfl,hi3,(hf2.erase j).ext x3 (λb h=> .inr (by omega)),by omega,x2.seq x3⟩
theorem Nj(cs:List V3)(n:Nat):mW cs n []=cs:=by unfold mW;rfl
theorem Rb(n:Nat):(List.replicate n (0:UInt8)).map xF=List.replicate n (Value.int .u8 0):=by rw[List.map_replicate]<;>rfl
theorem S3 {m:Nat}{X:Nat->Prop}{ls:List (ByteArray×V3)}{c:aX}{o:Ax}{va:Option Addr}{vc:Nat}{w:V2}(hm:Mp w m Dc ls)(hmX:X m)(hX:∀b,X b->b<w.heap.size)(hf:vQ w X ls c)
 (hd:tW w X (.slice va o.bytes.length vc) o.bytes) (hs:bF c<=1099511627776) (ha:o.at'<=1099511627776) (hb:o.bytes.length<=1099511627776):
 aH pg oF #[.map (some m),.agg (GS o (.slice va o.bytes.length vc)).toArray] w (λr w'=>r= .tuple #[]/\∃ls',Mp w' m Dc ls'/\vQ w' X ls' (Ez o c)/\aJ w w' (λb=>b=m)):=by
 refine Fs ?_
 unfold Ex Bg
 refine jY λw1 o1 x1 s1=> ?_
 have o1:bD w1 w.heap.size [.int .i64 o.kind,.string o.name,.string o.other,.int .i64 o.at',.slice va o.bytes.length vc]:=o1
 have hlt:=hm.lt
 have hm1:=hm.ext x1 (λh=>h)
 have fin:∀{w':V2} {ls':List (ByteArray×V3)},Mp w' m Dc ls'->vQ w' X ls' (Ez o c)->aJ w w' (λb=>b=m)->∃ls',Mp w' m Dc ls'/\vQ w' X ls' (Ez o c)/\aJ w w' (λb=>b=m):=λh1 h2 h3=>⟨_,h1,h2,h3⟩
 have hfx:∀{w':V2},aJ w w' (λb=>b=m)->vQ w' X ls c:=λx=>hf.ext x λb h=>h▸hmX
 obtain⟨oa,oc,ob,th,l0,hbo,hnx,hob,hth⟩:∃(oa:Option Addr) (oc:Nat) (ob:List UInt8) (th:Bool),(tI 57 (.map (some m)) (.string o.name) true).run pg w1= .ok (.value (.tuple #[.slice oa ob.length oc,.bool th])) w1/\Bs w (.slice oa ob.length oc) ob/\¬Ci (.slice oa ob.length oc) X/\
  (bC o.name c).getD []=ob/\(th=true/\bC o.name c=some ob∨th=false/\bC o.name c=none):=by
  have l0:=vG hm1 o.name
  rcases hf.get o.name with⟨h1,h2⟩|⟨v,b,h1,h2,h3⟩
  .rw [h1]at l0
   exact⟨none,0,[],false,l0,Sl.nil _,λh=>h,by rw[h2]<;>rfl,.inr ⟨rfl,h2⟩⟩
  .obtain ⟨a',c',hv,_⟩:=h3.1.len
   rw[UA]at hv
   subst hv
   rw[h1]at l0
   exact⟨a',c',b,true,l0,h3.1,h3.2,by rw[h2]<;>rfl,.inl ⟨rfl,h2⟩⟩
 have c0:=o1.cell (off:=0)
 have c1:=o1.cell (off:=1)
 have c2:=o1.cell (off:=2)
 have c3:=o1.cell (off:=3)
 have c4:=o1.cell (off:=4)
 simp only[Uv,Ux]at c0 c1 c2 c3 c4
 have holdlen:ob.length<=1099511627776:=by rw[<-hob];have:=xQ (k:=o.name) (c:=c);omega
 by_cases k0:o.kind=0
 .have n1:(((o.kind:Nat):Int)==0)=true:=by rw[k0]<;>rfl
  obtain⟨M,hM⟩:∃M,M=max ob.length (o.at'+o.bytes.length):=⟨_,rfl⟩
  have e1:(o.at':Int)+(o.bytes.length:Int)=((o.at'+o.bytes.length:Nat):Int):=by omega
  have hmax:(if((o.at'+o.bytes.length:Nat):Int)>(ob.length:Int)then((o.at'+o.bytes.length:Nat):Int)else(ob.length:Int))=((M:Nat):Int):=by
   split<;>omega
  simp(disch:=omega)only[seval,c0,c1,c3,c4,l0,n1,e1,hmax]
  refine LW (by omega) (by omega) λw2 o2 x2 s2=> ?_
  rw[UJ]at o2⊢
  have x02:=x1.seq x2
  have hnb:¬Ci (.slice oa ob.length oc) (λy=>y=w1.heap.size):=λh=>hbo.old (kK h λb hb=>by omega)
  refine CZ o2 (by rw[Vf];omega) (hbo.ext x02 (jV _)) (MD _) λw3 o3 x3 s3=> ?_
  have P3:mW (List.replicate M (Value.int .u8 0)) 0 ((ob.map xF).take (min (ob.map xF).length M))=(ob++List.replicate (M-ob.length) 0).map xF:=by
   rw[UA,VM (by omega),UZ (by rw[UA];omega)]
   have:=vO (ob.map xF) [] (List.replicate M (Value.int .u8 0)) (by rw[UA,Vf];omega)
   rw[U2,U2,VC]at this
   rw[this,Vl,Rb,List.drop_replicate,UA]
  rw[P3]at o3
  have x03:aJ w w3 bQ:=x02.new x3 (by omega)
  have o13:=(o1.ext x2 (λh=>h)).ext x3 (by omega)
  have hm3:=hm.ext x03 (λh=>h)
  have q1:=o13.cell (off:=1)
  have q3:=o13.cell (off:=3)
  have q4:=o13.cell (off:=4)
  have q3d:=(aP o13).cell (off:=3)
  have q4d:=(aP o13).cell (off:=4)
  simp only[Uv,Ux]at q1 q3 q4 q3d q4d
  have hbd:Bs (dr w3) (.slice va o.bytes.length vc) o.bytes:=(hd.1.ext x03 (jV _)).ext (aJ.dr _ bQ) (jV _)
  have hhm:o.at'<=M:=by omega
  have hP:(ob++List.replicate (M-ob.length) (0:UInt8)).length=M:=by rw[Uu,Vf];omega
  have hov:over ob o.at' o.bytes=(ob++List.replicate (M-ob.length) 0).take o.at'++o.bytes++(ob++List.replicate (M-ob.length) 0).drop (o.at'+o.bytes.length):=by unfold over;rw[<-hM]
  have hol:=sG ob o.at' o.bytes
  generalize ob++List.replicate (M-ob.length) (0:UInt8)=P at*
  have ending:∀(w4:V2),bD w4 w1.heap.size ((over ob o.at' o.bytes).map xF)->aJ w w4 bQ→
      aB pg (FN 57 (.map (some m)) (.string o.name) (.slice (some ⟨w1.heap.size,0,none⟩) M M)) w4 λ_ w'=>∃ls',Mp w' m Dc ls'/\vQ w' X ls' (Ez o c)/\aJ w w' (λb=>b=m):=λw4 o4 x4=>by
   refine EI (hm.ext x4 (λh=>h)) o.name _ λw5 hm5 x5 s5=> ?_
   have x05:aJ w w5 (λb=>b=m):=(x4.mono λ_ _ h=>h.elim).seq x5
   have hdo:Ez o c=rU o.name (over ob o.at' o.bytes) c:=by unfold Ez;rw[if_pos k0,hob]
   rw[hdo]
   refine⟨_,hm5,vQ.set ⟨?_,λh=> ?_⟩ (hfx x05),x05⟩
   .have:=bD.whole (c:=M) (o4.ext x5 (by omega)) (by omega)
    rw[hol,<-hM]at this
    exact this
   .obtain ⟨M',hM'⟩:∃M',M=M'+1∨M=0:=⟨M-1,by omega⟩
    rcases hM' with h'|h'
    .rw [h']at h
     have h:X w1.heap.size:=h
     have:=hX _ h
     omega
    .rw [h']at h
     exact h
  by_cases hat:o.at'<M
  .have hsh:lF (some ⟨w1.heap.size,0,none⟩) M o.at' 1=some ⟨w1.heap.size,0+o.at',none⟩:=Nk (by omega)
   simp(disch:=omega)only[seval,q3,q4,q3d,q4d,hsh]
   refine CZ (off:=o.at') (aP o3) (by rw[UA];omega) hbd (MD _) λw4 o4 x4 s4=> ?_
   have P4:mW (P.map xF) o.at' ((o.bytes.map xF).take (min (o.bytes.map xF).length (M-o.at')))=(over ob o.at' o.bytes).map xF:=by
    rw[UA,VM (by omega),UZ (by rw[UA];omega)]
    have:=vO (o.bytes.map xF) ((P.take o.at').map xF) ((P.drop o.at').map xF) (by rw[UA,UA,U8];omega)
    rw[<-Vl,Vg,UA,US,VM (by omega)]at this
    rw[this,hov,UA,Vl,Vl,<-List.map_drop,List.drop_drop]
   rw[P4]at o4
   have x34:aJ w3 w4 (λy=>y=w1.heap.size):=(aJ.dr _ _).seq x4
   have x04:aJ w w4 bQ:=x03.new x34 (by omega)
   have o14:=o13.ext x34 (by omega)
   have q1:=o14.cell (off:=1)
   have q1d:=(aP o14).cell (off:=1)
   simp only[Uv,Ux]at q1 q1d
   have e4:=ending w4 o4 x04
   simp(disch:=omega)only[seval,q1,q1d]
   exact e4
  .have hE:o.at'=M:=by omega
   have hb0:o.bytes=[]:=UT.1 (by omega)
   have hsh:lF (some ⟨w1.heap.size,0,none⟩) M o.at' 1=some ⟨w1.heap.size,0,none⟩:=by unfold lF;rw[if_pos hE.symm]
   simp(disch:=omega)only[seval,q3,q4,q3d,q4d,hsh]
   refine CZ (off:=0) (aP o3) (by rw[UA];omega) hbd (MD _) λw4 o4 x4 s4=> ?_
   have P4:mW (P.map xF) 0 ((o.bytes.map xF).take (min (o.bytes.map xF).length (M-o.at')))=(over ob o.at' o.bytes).map xF:=by
    rw[hov,hb0]
    show mW (P.map xF) 0 (List.take (min 0 (M-o.at')) [])=_
    rw[List.take_nil,Nj,VA,VC,VZ,Vg]
   rw[P4]at o4
   have x34:aJ w3 w4 (λy=>y=w1.heap.size):=(aJ.dr _ _).seq x4
   have x04:aJ w w4 bQ:=x03.new x34 (by omega)
   have o14:=o13.ext x34 (by omega)
   have q1:=o14.cell (off:=1)
   have q1d:=(aP o14).cell (off:=1)
   simp only[Uv,Ux]at q1 q1d
   have e4:=ending w4 o4 x04
   simp(disch:=omega)only[seval,q1,q1d]
   exact e4
 have n1:(((o.kind:Nat):Int)==0)=false:=beq_eq_false_iff_ne.2 (by omega)
 have self:aJ w w1 (λb=>b=m):=x1.mono λ_ _ h=>h.elim
 by_cases k1:o.kind=1
 .have n2:(((o.kind:Nat):Int)==1)=true:=by rw[k1]<;>rfl
  rcases hth with⟨rfl,hg⟩|⟨rfl,hg⟩
  .have hdo:Ez o c=rU o.other ob (sM o.name c):=by unfold Ez;rw[if_neg k0,if_pos k1,hg]
   simp(disch:=omega)only[seval,c0,c1,c2,c3,c4,l0,n1,n2]
   refine Ey hm1 o.name λw2 hm2 x2 s2=> ?_
   have x02:=self.seq x2
   have q2:=(o1.ext x2 (by omega)).cell (off:=2)
   simp only[Uv,Ux]at q2
   simp(disch:=omega)only[seval,q2]
   refine EI hm2 o.other _ λw3 hm3 x3 s3=> ?_
   have x03:=x02.seq x3
   rw[hdo]
   refine fin (w':=w3) hm3 ?_ x03|>λh=>by rw[hdo]at h;exact h
   rw[hdo]
   exact vQ.set ⟨hbo.ext x03 (λh=>hnx (kK h λb hb=>by rw[hb];exact hmX)),hnx⟩ (vQ.del (hfx x03))
  .have hdo:Ez o c=c:=by unfold Ez;rw[if_neg k0,if_pos k1,hg]
   simp(disch:=omega)only[seval,c0,c1,c2,c3,c4,l0,n1,n2]
   exact fin hm1 (by rw[hdo];exact hfx self) self
 have n2:(((o.kind:Nat):Int)==1)=false:=beq_eq_false_iff_ne.2 (by omega)
 by_cases k2:o.kind=2
 .have n3:(((o.kind:Nat):Int)==2)=true:=by rw[k2]<;>rfl
  have hdo:Ez o c=sM o.name c:=by unfold Ez;rw[if_neg k0,if_neg k1,if_pos k2]
  simp(disch:=omega)only[seval,c0,c1,c2,c3,c4,l0,n1,n2,n3]
  refine Ey hm1 o.name λw2 hm2 x2 s2=> ?_
  have x02:=self.seq x2
  exact fin hm2 (by rw[hdo];exact vQ.del (hfx x02)) x02
 .have n3:(((o.kind:Nat):Int)==2)=false:=beq_eq_false_iff_ne.2 (by omega)
  have hdo:Ez o c=c:=by unfold Ez;rw[if_neg k0,if_neg k1,if_neg k2]
  simp(disch:=omega)only[seval,c0,c1,c2,c3,c4,l0,n1,n2,n3]
  exact fin hm1 (by rw[hdo];exact hfx self) self
end Go.Proofs.Ytmhokapokchneaa
namespace Go.En
open Go
section
variable{P:Program}{w:V2}{t e:TypeId}
theorem Mn{i:TypeInfo}(hu:P.underlying t=some (.slice e))(hi:P.info? e=some i)
 {K:V3->V2->Prop} (hk:∀w',bD w' w.heap.size []->aJ w w' bQ->w'.heap.size=w.heap.size+1->K (.slice (some ⟨w.heap.size,0,none⟩) 0 0) w'):
 aB P (bY t 0 []) w K:=by
 have:(bY t 0 []).run P w= .ok (.value (.slice (some ⟨w.heap.size,0,none⟩) 0 0)) (w.alloc (.cells ([]:List V3).toArray e)):=by
  unfold bY;rw[jW]
  have h1:¬(0>2^24):=by omega
  have e:∀f:Nat->V3,Array.map f (Array.range 0)= #[]:=λf=>by simp
  simp only[Instr.buildSlice,underlying,pure_bind,Sem.run_bind,run_program,Result.andThen_ok,hu,Sem.run_pure,eY hi,V1,h1,if_false,if_true,newRow,run_newObj,Instr.fill,e]
  rfl
 unfold aB
 rw[this]
 exact hk _ (bD.alloc _ _ _) (aJ.alloc _ _ _) (by simp)
def At(v:V3)(b:Nat):Prop:=∀M:Nat->Prop,¬M b->¬Ci v M
theorem At.nil (c b:Nat)(a:Option Addr):At (.slice a 0 c) b:=λM h=>by unfold Ci;split<;>simp_all
theorem At.at (b o n c:Nat):At (.slice (some ⟨b,o,none⟩) n c) b:=λM h=>by
 unfold Ci;split
 .rename_i x m _ e
  obtain⟨rfl,_⟩:(⟨b,o,none⟩:Addr)=x/\_:=by simpa using e
  exact h
 .simp
theorem xE.at' {w:V2}{base sz n:Nat}{v:V3}{l:List V3}(h:xE w base sz v n l)(hb:base<w.heap.size):∃b,base<=b/\b<w.heap.size/\At v b:=by
 rcases h.2 with⟨rfl,rfl⟩|⟨b,c,rest,rfl,h2,h3,h4,h5⟩
 .exact ⟨base,UF _,hb,At.nil _ _ _⟩
 .exact ⟨b,h2,h3.lt,At.at _ _ _ _⟩
end
end Go.En
namespace Go.Proofs.Ytmhokapokchneaa
open Go Go.En
set_option maxRecDepth 4000
theorem Re(l:List UInt8):∀y∈l.map xF,one y=true:=λy hy=>by
 obtain⟨z,-,rfl⟩:=U1.1 hy;rfl
theorem NJ{v:V3}{l:List UInt8}{w:V2}(h:Bs w v l)(hl:l.length<=1000000000):
 aH pg jL #[v] w (λr w'=>xE w' w.heap.size 1 r l.length (l.map xF)/\aJ w w' bQ):=by
 refine B1 ?_
 have h1:=h
 obtain⟨a,n,c,rfl,hn,hc,hh⟩:=h
 rw[UA]at hn
 unfold Av wD
 cases a with
 |none=>
  have h0:l=[]:=by
   cases l with
   |nil=>rfl
   |cons x l=>obtain⟨b,off,h,_⟩:=hh (by simp at hn;omega);cases h
  subst h0
  simp(disch:=omega)only[seval]
  exact⟨xE.nil _ _ _,aJ.refl _ _⟩
 |some x=>
  simp(disch:=omega)only[seval]
  refine Mn Try.underlying23 KG λw1 o1 x1 s1=> ?_
  have hcl1:=(h1.ext x1 (jV _)).cl
  rw[UA]at hcl1
  have hos:xE w1 w.heap.size 1 (.slice (some ⟨w.heap.size,0,none⟩) 0 0) 0 []:=⟨rfl,.inr ⟨_,0,[],rfl,UF _,o1,rfl,UF _⟩⟩
  refine vU hos hcl1 (Re _) x1.size (by omega) λv3 w3 o3 x3=> ?_
  rw[Uw,U2]at o3
  exact⟨o3,x1.trans x3 λb hb h=>Nat.not_le_of_lt hb h⟩
theorem T0 {w:V2}{a:Option Addr}{n c:Nat}{l:List V3}(h:Sl w (.slice a n c) l)(h0:0<n):∃b off,a=some ⟨b,off,none⟩/\∀i,i<n->w.cell? ⟨b,off+i,none⟩=l[i]?:=by
 obtain⟨a',n',c',e,hn,hc,hh⟩:=h
 cases e
 exact hh h0
end Go.Proofs.Ytmhokapokchneaa
namespace Go.Proofs.Ytmhokapokchneaa
open Go Go.En Go.Pu
set_option maxRecDepth 4000
abbrev dP(p:Nat):V3:= .pointer (some ⟨p,0,none⟩)
def vR(w:V2)(p:Nat)(X D:Nat->Prop)(S':iL)(w':V2):Prop:=∃X' D',fB w' p X' D' S'/\(∀b,X' b->X b∨w.heap.size<=b)/\(∀b,D b->D' b)/\aJ w w' X
theorem vR.refl {w:V2}{p:Nat}{X D:Nat->Prop}{S:iL}(h:fB w p X D S):vR w p X D S w:=⟨X,D,h,λ_ h=> .inl h,λ_ h=>h,aJ.refl _ _⟩
theorem vR.step {w w1 w2:V2}{p:Nat}{X D X1 D1:Nat->Prop}{S2:iL}(x:aJ w w1 X)(hX:∀b,X1 b->X b∨w.heap.size<=b)(hD:∀b,D b->D1 b)(h:vR w1 p X1 D1 S2 w2):vR w p X D S2 w2:=by
 obtain⟨X2,D2,h1,h2,h4,h3⟩:=h
 have z:=x.size
 refine⟨X2,D2,h1,λb hb=> ?_,λb hb=>h4 b (hD b hb),x.trans h3 λb hb hx=> ?_⟩
 .rcases h2 b hb with h|h
  .exact hX b h
  .exact .inr (by omega)
 .rcases hX b hx with h|h
  .exact h
  .omega
theorem NT{w:V2}{S T:Nat->Prop}{sz n:Nat}{v:V3}{l:List V3}(h:J5 w S sz v n l)(hT:∀b,S b->T b):J5 w T sz v n l:=by
 refine⟨h.1, ?_⟩
 rcases h.2 with h2|⟨b,c,rest,h1,h2,h3⟩
 .exact .inl h2
 .exact .inr ⟨b,c,rest,h1,hT b h2,h3⟩
theorem Ru{w:V2}{S:Nat->Prop}{sz n:Nat}{v:V3}{l:List V3}(h:J5 w S sz v n l):J5 w (λb=>S b/\b<w.heap.size) sz v n l:=by
 refine⟨h.1, ?_⟩
 rcases h.2 with h2|⟨b,c,rest,h1,h2,h3,h4⟩
 .exact .inl h2
 .exact .inr ⟨b,c,rest,h1,⟨h2,h3.lt⟩,h3,h4⟩
theorem QM{p:Nat}{X D:Nat->Prop}{S:iL}{w:V2}(h:fB w p X D S):aH pg iZ #[dP p] w (λr w'=>r= .int .i64 (if S.down then 20 else 0)/\w'=w):=by
 refine F9 ?_
 unfold F8 Ce
 obtain⟨ms,mn,sv,ls,ln,cs,h1,h2,h3,h4,h5,h6,hXD,hDl,o,hms,hmn,hfs,hfn,hu,ho⟩:=h
 have c5:=o.cell (off:=5)
 simp only[Uv,Ux]at c5
 cases hd:S.down with
 |true=>
  rw[hd]at c5
  simp(disch:=omega)only[seval,c5]
 |false=>
  rw[hd]at c5
  simp(disch:=omega)only[seval,c5]
def sF(l:Int):Int:=if 0<l then l-1 else l
def Ly(S:iL):Bool:=S.down||S.left==0
theorem Oe{p:Nat}{a b c d:V3}{left:Int}{down:Bool}{w:V2}(o:bD w p [a,b,c,d,.int .i64 left,.bool down])(hl: -1<=left/\left<=9223372036854775807):
 aH pg lI #[dP p] w (λr w'=>r= .bool (down||left==0)/\bD w' p [a,b,c,d,.int .i64 (sF left),.bool (down||left==0)]/\aJ w w' (λy=>y=p)):=by
 refine C9 ?_
 unfold Cd yI yH sF
 have c4:=o.cell (off:=4)
 simp only[Uv,Ux]at c4
 by_cases h0:left=0
 .subst h0
  have n1:((0:Int)==0)=true:=rfl
  simp(disch:=omega)only[seval,c4,n1]
  refine Iw o rfl (by simp) λw1 o1 x1 s1=> ?_
  simp only[UM,UY]at o1
  have c5:=o1.cell (off:=5)
  simp only[Uv,Ux]at c5
  unfold kH
  simp(disch:=omega)only[seval,c5]
  rw[Bool.or_true]
  exact⟨rfl,o1,x1⟩
 have n1:(left==0)=false:=beq_eq_false_iff_ne.2 h0
 rw[n1,Bool.or_false]
 by_cases h1:0<left
 .have d1:decide (0<left)=true:=by simpa using h1
  simp(disch:=omega)only[seval,c4,n1,d1]
  refine DH o rfl (by simp) λw1 o1 x1 s1=> ?_
  simp only[UM,UY]at o1
  have c5:=o1.cell (off:=5)
  simp only[Uv,Ux]at c5
  unfold kH
  rw[if_pos h1]
  simp(disch:=omega)only[seval,c5]
  exact⟨o1,x1⟩
 .have d1:decide (0<left)=false:=by simpa using h1
  have c5:=o.cell (off:=5)
  simp only[Uv,Ux]at c5
  unfold kH
  rw[if_neg h1]
  simp(disch:=omega)only[seval,c4,c5,n1,d1]
  exact⟨o,aJ.refl _ _⟩
def vX(S:iL)(o:Ax):iL×Int:=
 if Ly S then({S with left:=sF S.left,down:=Ly S},20)
 else({S with left:=sF S.left,down:=Ly S,under:=S.under++[o],seen:=Ez o S.seen},0)
theorem MJ{p:Nat}{X D:Nat->Prop}{S:iL}{o:Ax}{va:Option Addr}{vc:Nat}{w:V2}(h:fB w p X D S)(hd:tW w D (.slice va o.bytes.length vc) o.bytes)(hl: -1<=S.left/\S.left<=9223372036854775807)
 (hs:bF S.seen<=1099511627776) (ha:o.at'<=1099511627776) (hb:o.bytes.length<=1099511627776) (hu:S.under.length<=1000000):
 aH pg kE #[dP p,.agg (GS o (.slice va o.bytes.length vc)).toArray] w (λr w'=>r= .int .i64 (vX S o).2/\vR w p X D (vX S o).1 w'):=by
 refine Ej ?_
 unfold C8 Ah
 refine jY λw1 o1 x1 s1=> ?_
 have o1:bD w1 w.heap.size (GS o (.slice va o.bytes.length vc)):=o1
 obtain⟨ms,mn,sv,ls,ln,cs,h1,h2,h3,h4,h5,h6,hXD,hDl,op,hms,hmn,hfs,hfn,hun,hop⟩:=h.new x1
 have h7:=λb (hb:X b)=>hDl b (hXD b hb)
 have hX0:∀b,X b->b<w.heap.size:=by obtain⟨_,_,_,_,_,_,_,_,_,_,_,_,q1,q2,_⟩:=h;exactλb hb=>q2 b (q1 b hb)
 refine(Oe op hl).mono ?_
 rintro r w2 ⟨rfl,op2,x2⟩
 have x2X:aJ w1 w2 X:=x2.mono λb _ hb=>hb▸h1
 have x2D:aJ w1 w2 D:=x2X.mono λb _ hb=>hXD b hb
 have x02:aJ w w2 X:=(x1.mono λ_ _ h=>h.elim).seq x2X
 have z2:=x2.size
 have hms2:=hms.ext x2 (λh=>h4 h.symm)
 have hmn2:=hmn.ext x2 (λh=>h5 h.symm)
 have hfs2:=hfs.ext x2D (λb h=>h)
 have hfn2:=hfn.ext x2D (λb h=>h)
 have hun2:=hun.ext x2 (λb hb h=>hb.2.1 h)
 have hop2:=hop.ext x2D (λb h=>h)
 have h72:∀b,X b->b<w2.heap.size:=λb hb=>by have:=h7 b hb;omega
 have hD2:∀b,D b->b<w2.heap.size:=λb hb=>by have:=hDl b hb;omega
 have hdn:(S.down||S.left==0)=Ly S:=rfl
 rw[hdn]at*
 cases hD:Ly S with
 |true=>
  have hE:vX S o=({S with left:=sF S.left,down:=Ly S},20):=by unfold vX;rw[if_pos hD]
  rw[hE]
  simp(disch:=omega)only[seval]
  exact⟨X,D,⟨ms,mn,sv,ls,ln,cs,h1,h2,h3,h4,h5,h6,hXD,hD2,op2,hms2,hmn2,hfs2,hfn2,hun2,hop2⟩,λ_ h=> .inl h,λ_ h=>h,x02⟩
 |false=>
  have hE:vX S o=({S with left:=sF S.left,down:=Ly S,under:=S.under++[o],seen:=Ez o S.seen},0):=by unfold vX;rw[if_neg (by rw[hD];decide)]
  rw[hE]
  have hb3:¬(w.heap.size=p):=λh=>by have:=hX0 p h1;omega
  have o12:=aP (o1.ext x2 hb3)
  have l1:=kR (off:=0) o12 (by unfold GS;simp)
  have l1':((GS o (.slice va o.bytes.length vc)).drop 0).take 5=GS o (.slice va o.bytes.length vc):=rfl
  rw[l1']at l1
  have op2d:=aP op2
  have q3:=op2d.cell (off:=3)
  simp only[Uv,Ux]at q3
  simp(disch:=omega)only[seval,q3,l1]
  refine CT (cells:=(GS o (.slice va o.bytes.length vc)).toArray) (by decide) (by decide) (by kernel_rfl) λw3 o3 x3 s3=> ?_
  have x3:aJ w2 w3 bQ:=(aJ.dr _ _).seq x3
  have z3:=x3.size
  have s3:w3.heap.size=w2.heap.size+1:=s3
  have x03:aJ w w3 X:=x02.trans x3 λ_ _ h=>h.elim
  have op3:=op2.ext x3 (λh=>h)
  have q3:=op3.cell (off:=3)
  have q3d:=(aP op3).cell (off:=3)
  simp only[Uv,Ux]at q3 q3d
  have hu3:J5 w3 (λb=>(X b/\b≠p/\b≠ms/\b≠mn)∨w3.heap.size<=b) 5 sv S.under.length cs:=NT (hun2.ext x3 (λb _ h=>h)) λb h=> .inl h
  have o3:bD w3 w2.heap.size (GS o (.slice va o.bytes.length vc)):=o3
  simp(disch:=omega)only[seval,q3,q3d]
  refine DI (m:=1) (news:=GS o (.slice va o.bytes.length vc)) (i:=Try.t65) Try.underlying58 Try.underlying58 Ka rfl rfl rfl hu3 (o3.cl (off:=0) (n:=1) rfl (λi hi=>by rw[Uw])) (by unfold GS;simp[one]) (λb hb=> .inr hb) (by omega) (by rw[show Try.t65.bytes=72 from rfl];omega) (by decide) λv4 w4 o4 x4=> ?_
  have z4:=x4.size
  have hp3:p<w3.heap.size:=op3.lt
  have hms3:=hms2.ext x3 (λh=>h)
  have hmn3:=hmn2.ext x3 (λh=>h)
  have hmsl:=hms3.lt
  have hmnl:=hmn3.lt
  have op4:=op3.ext x4 (by rintro(⟨_,h,_⟩|h)<;>omega)
  have hms4:=hms3.ext x4 (by rintro(⟨_,_,h,_⟩|h)<;>omega)
  have hmn4:=hmn3.ext x4 (by rintro(⟨_,_,_,h⟩|h)<;>omega)
  obtain⟨Y,hY⟩:∃Y:Nat->Prop,Y=λb=>X b∨(w3.heap.size<=b/\b<w4.heap.size):=⟨_,rfl⟩
  have hYX:∀b,X b->Y b:=λb h=>by rw[hY];exact .inl h
  have hY3:∀b,Y b->X b∨w3.heap.size<=b:=λb h=>by rw[hY]at h;rcases h with h|h;exact .inl h;exact .inr h.1
  have hY4:∀b,Y b->b<w4.heap.size:=λb h=>by
   rw[hY]at h
   rcases h with h|h
   .have:=h72 b h;omega
   .exact h.2
  obtain⟨E,hE'⟩:∃E:Nat->Prop,E=λb=>D b∨(w3.heap.size<=b/\b<w4.heap.size):=⟨_,rfl⟩
  have hED:∀b,D b->E b:=λb h=>by rw[hE'];exact .inl h
  have hYE:∀b,Y b->E b:=λb h=>by
   rw[hY]at h;rw[hE']
   rcases h with h|h
   .exact .inl (hXD b h)
   .exact .inr h
  have hE3:∀b,E b->D b∨w3.heap.size<=b:=λb h=>by rw[hE']at h;rcases h with h|h;exact .inl h;exact .inr h.1
  have hE4:∀b,E b->b<w4.heap.size:=λb h=>by
   rw[hE']at h
   rcases h with h|h
   .have:=hD2 b h;omega
   .exact h.2
  have dat4:∀v b,tW w3 D v b->tW w4 E v b:=λv b hd=>by
   have h1:=(hd.sub (Y:=λb=>D b∨w3.heap.size<=b) λ_ h=>h).ext x4 (λb h=>by rcases h with h|h;exact .inl (hXD b h.1);exact .inr h)
   exact h1.sub λb h=> .inl (hE3 b h)
  have dat0:∀v b,tW w2 D v b->tW w4 E v b:=λv b hd=>dat4 v b (hd.ext x3 λ_ h=>h.elim)
  refine pS op4 (by obtain⟨a,c,e⟩:=o4.len;rw[e]<;>rfl) (by simp) λw5 op5 x5 s5=> ?_
  simp only[UM,UY]at op5
  have hne4:p≠ms/\p≠mn:=⟨h4,h5⟩
  have hms5:=hms4.ext x5 (λh=>h4 h.symm)
  have hmn5:=hmn4.ext x5 (λh=>h5 h.symm)
  have x5Y:aJ w4 w5 E:=x5.mono λb _ h=>by rw[h];exact hYE _ (hYX _ h1)
  have dat5:∀v b,tW w2 D v b->tW w5 E v b:=λv b hd=>(dat0 v b hd).ext x5Y λ_ h=>h
  have o15:bD w5 w.heap.size (GS o (.slice va o.bytes.length vc)):=by
   have h1:=(o1.ext x2 hb3).ext x3 (λh=>h)
   have h2:=h1.ext x4 (by rintro(⟨h,_⟩|h);exact absurd (hX0 _ h) (by omega);omega)
   exact h2.ext x5 hb3
  have l5:=kR (off:=0) (aP o15) (by unfold GS;simp)
  rw[l1']at l5
  have r2:=(aP op5).cell (off:=2)
  simp only[Uv,Ux]at r2
  simp(disch:=omega)only[seval,r2,l5]
  have hd5:tW w5 E (.slice va o.bytes.length vc) o.bytes:=dat5 _ _ ((hd.ext x1 λ_ h=>h.elim).ext x2D λ_ h=>h)
  have hE5:∀b,E b->b<w5.heap.size:=λb h=>by rw[s5];exact hE4 b h
  refine(S3 (X:=E) (c:=S.seen) (o:=o) (hmn5.dr) (hYE _ (hYX _ h3)) hE5 ((hfn2.map dat5).ext (aJ.dr _ bQ) λ_ h=>h.elim) (hd5.ext (aJ.dr _ bQ) λ_ h=>h.elim) hs ha hb).mono ?_
  rintro r w6 ⟨rfl,ln',hmn6,hfn6,x6⟩
  have x6:aJ w5 w6 (λb=>b=mn):=(aJ.dr _ _).seq x6
  have x6Y:aJ w5 w6 E:=x6.mono λb _ h=>by rw[h];exact hYE _ (hYX _ h3)
  have z6:=x6.size
  have hou:J5 w4 (λb=>Y b/\b≠p/\b≠ms/\b≠mn) 5 v4 (S.under.length+1) (cs++GS o (.slice va o.bytes.length vc)):=NT (Ru o4) λb h=>by
   rw[hY]
   rcases h with⟨h|h,h'⟩
   .exact ⟨.inl h.1,h.2⟩
   .exact ⟨.inr ⟨h,h'⟩,by omega,by omega,by omega⟩
  refine⟨Y,E,⟨ms,mn,v4,ls,ln',cs++GS o (.slice va o.bytes.length vc),hYX _ h1,hYX _ h2,hYX _ h3,h4,h5,h6,hYE,λb h=>by have:=hE5 b h;omega,op5.ext x6 (λh=>h5 h),hms5.ext x6 (λh=>h6 h),hmn6,(hfs2.map dat5).ext x6Y λ_ h=>h,hfn6, ?_, ?_⟩,λb h=> ?_,hED, ?_⟩
  .show J5 w6 _ 5 v4 (S.under++[o]).length _
   rw[Uu]
   exact(hou.ext x5 (λb h e=>h.2.1 e)).ext x6 (λb h e=>h.2.2.2 e)
  .exact (HX.snoc ⟨_,_,_,rfl⟩ hd5 (hop2.map dat5)).ext x6Y λ_ h=>h
  .rcases hY3 b h with h|h
   .exact .inl h
   .exact .inr (by omega)
  .refine ((x03.trans x4 λb hb h=> ?_).trans x5 λb hb h=>by rw[h];exact h1).trans x6 λb hb h=>by rw[h];exact h3
   rcases h with h|h
   .exact h.1
   .omega
end Go.Proofs.Ytmhokapokchneaa
namespace Go.Proofs.Ytmhokapokchneaa
open Go Go.En
def TZ:Go.Shelf.Ren:=⟨λx=>if x=5 then oZ else if x=7 then Kr else x,λx=>if x=23 then 57 else if x=25 then 9 else if x=3 then 23 else if x=4 then 4 else 20,λx=>x⟩
theorem TX:SlLaysW.n5 pg TZ where
 mixed:=Try.checked.mixed
 f5:=⟨Try.f27.name,by kernel_rfl,by kernel_rfl⟩
 f7:=by kernel_rfl
 t4:=by kernel_rfl
 a4:=λw=>by kernel_rfl
 z4:=λw=>by kernel_rfl
 v4:=λw=>by kernel_rfl
 t20:=by kernel_rfl
 a20:=λw=>by kernel_rfl
 z20:=λw=>by kernel_rfl
 v20:=λw=>by kernel_rfl
 t23:=by kernel_rfl
 a23:=λw=>by kernel_rfl
 z23:=λw=>by kernel_rfl
 v23:=λw=>by kernel_rfl
theorem LU{m:Nat}{l:List (ByteArray×V3)}{w:V2}(hm:Mp w m Dc l):
 aH pg oZ #[.map (some m)] w (λr w'=>r= .map (some w.heap.size)/\Mp w' w.heap.size Dc l/\aJ w w' bQ/\w'.heap.size=w.heap.size+1):=by
 obtain⟨es,c,hb,he,hg,hnd⟩:=hm
 refine⟨_,_,AnyW.maps_Clone TX m es c w hb,rfl,⟨es,c, ?_,he,hg,hnd⟩,aJ.alloc _ _ _, ?_⟩
 .show (w.heap.push _)[w.heap.size]?=_
  simp
 .show (w.heap.push _).size=_
  simp
end Go.Proofs.Ytmhokapokchneaa
namespace Go.Proofs.Ytmhokapokchneaa
open Go Go.En Go.Pu
set_option maxRecDepth 4000
def LX(room:Int):iL:=⟨room,[],[],[],-1,false⟩
theorem PL{room:Int}{w:V2}(h0:0<=room)(h1:room<=16777216):aH pg tX #[.int .i64 room] w (λr w'=>∃p X,r= .tuple #[dP p,.int .i64 0]/\fB w' p X X (LX room)/\(∀b,X b->w.heap.size<=b)/\aJ w w' bQ):=by
 refine Ew ?_
 unfold IP Da
 have d1:decide (room<0)=false:=by simp;omega
 have d2:decide (16777216<room)=false:=by simp;omega
 simp(disch:=omega)only[seval,d1,d2]
 refine EH λw1 m1 x1 s1=> ?_
 refine EH λw2 m2 x2 s2=> ?_
 simp(disch:=omega)only[seval]
 refine jY λw3 o3 x3 s3=> ?_
 have o3:bD w3 w2.heap.size [.int .i64 room,.map (some w.heap.size),.map (some w1.heap.size),.slice none 0 0,.int .i64 (-1),.bool false]:=o3
 refine⟨w2.heap.size,λb=>w.heap.size<=b/\b<w3.heap.size,rfl,⟨w.heap.size,w1.heap.size,.slice none 0 0,[],[],[],⟨by omega,by omega⟩,⟨by omega,by omega⟩,⟨by omega,by omega⟩,by omega,by omega,by omega,λ_ h=>h,λb h=>h.2,o3,(m1.ext x2 (λh=>h)).ext x3 (λh=>h),m2.ext x3 (λh=>h),trivial,trivial,⟨rfl,.inl ⟨rfl,rfl⟩⟩,rfl⟩,λb h=>h.1,(x1.seq x2).seq x3⟩
theorem PK{room:Int}{w:V2}(h:room<0∨16777216<room):aH pg tX #[.int .i64 room] w (λr w'=>r= .tuple #[.pointer none,.int .i64 1]/\w'=w):=by
 refine Ew ?_
 unfold IP Da
 by_cases h0:room<0
 .have d1:decide (room<0)=true:=by simpa using h0
  simp(disch:=omega)only[seval,d1]
 .have d1:decide (room<0)=false:=by simpa using h0
  have d2:decide (16777216<room)=true:=by simp;omega
  simp(disch:=omega)only[seval,d1,d2]
structure Q4 (S:iL):Prop where
 left: -1<=S.left/\S.left<=9223372036854775807
 seen:bF S.seen<=1099511627776
 under:S.under.length<=1000000
 room:0<=S.room/\S.room<=16777216
theorem tW.slice {w:V2}{X:Nat->Prop}{v:V3}{b:List UInt8}(h:tW w X v b):∃a c,v= .slice a b.length c:=by
 obtain⟨a,c,e,_⟩:=h.1.len
 rw[UA]at e
 exact⟨a,c,e⟩
theorem xE.dat {w w0:V2}{X:Nat->Prop}{v:V3}{l:List UInt8}(h:xE w w0.heap.size 1 v l.length (l.map xF))(hX:∀b,X b->b<w0.heap.size):tW w X v l:=by
 refine⟨h.sl,λhi=> ?_⟩
 rcases h.2 with⟨rfl,_⟩|⟨b,c,rest,rfl,h2,_⟩
 .exact hi
 .unfold Ci at hi
  split at hi
  .rename_i e
   simp only[Value.slice.injEq,VF]at e
   obtain⟨rfl,_⟩:=e
   have hi:X b:=hi
   have:=hX _ hi
   omega
  .exact hi
theorem fB.lt {w:V2}{p:Nat}{X D:Nat->Prop}{S:iL}(h:fB w p X D S):∀b,D b->b<w.heap.size:=by
 obtain⟨_,_,_,_,_,_,_,_,_,_,_,_,_,h7,_⟩:=h;exact h7
def sH(S:iL)(name:ByteArray):List UInt8:=(bC name S.seen).getD []
def Q3 (S:iL)(name:ByteArray)(a:Int)(n:Nat):Int:=
 if S.down then 20 else if sN name=false∨a<0 then 1 else if((sH S name).length:Int)<a then 17
 else if S.room<bF S.seen+max (a+n-(sH S name).length) 0 then 22 else 0
def Ld(S:iL)(name:ByteArray)(a:Int)(l:List UInt8):iL×Int:=
 if Q3 S name a l.length=0 then vX S ⟨0,name,⟨#[]⟩,a.toNat,l⟩else(S,Q3 S name a l.length)
theorem LA{p:Nat}{X D:Nat->Prop}{S:iL}{name:ByteArray}{a:Int}{bv:V3}{l:List UInt8}{w:V2}(h:fB w p X D S)(hB:Q4 S)(hb:Bs w bv l)(hl:l.length<=1000000000)(ha:a<=9000000000000000000)(ha': -9223372036854775808<=a):
 aH pg lH #[dP p,.string name,.int .i64 a,bv] w (λr w'=>r= .int .i64 (Ld S name a l).2/\vR w p X D (Ld S name a l).1 w'):=by
 refine C7 ?_
 unfold Cc yG
 obtain⟨ba,bc,rfl,_⟩:=hb.len
 rw[UA]at hb
 rw[UA]
 obtain⟨E,hE⟩:∃E,Q3 S name a l.length=E:=⟨_,rfl⟩
 have hW:∀e,E=e->e≠0->Ld S name a l=(S,e):=λe h1 h2=>by unfold Ld;rw[hE,h1,if_neg h2]
 refine(QM h).mono ?_
 rintro r w1 ⟨rfl,rfl⟩
 have hE0:=hE
 unfold Q3 at hE
 by_cases hd:S.down=true
 .rw [if_pos hd]at hE
  rw[hW 20 hE.symm (by decide),if_pos hd]
  have n1:((20:Int) !=0)=true:=rfl
  simp(disch:=omega)only[seval,n1]
  exact vR.refl h
 rw[if_neg hd]at hE
 rw[if_neg hd]
 have n1:((0:Int) !=0)=false:=rfl
 have h':=h
 obtain⟨ms,mn,sv,ls,ln,cs,h1,h2,h3,h4,h5,h6,hXD,hDl,op,hms,hmn,hfs,hfn,hun,hop⟩:=h'
 have h7:∀b,X b->b<w1.heap.size:=λb hb=>hDl b (hXD b hb)
 have c2:=op.cell (off:=2)
 have c0d:=(aP op).cell (off:=0)
 have c2d:=(aP op).cell (off:=2)
 simp only[Uv,Ux]at c2 c0d c2d
 obtain⟨oa,oc,ob,l0,hob⟩:∃(oa:Option Addr) (oc:Nat) (ob:List UInt8),(tI 57 (.map (some mn)) (.string name) false).run pg w1= .ok (.value (.slice oa ob.length oc)) w1/\sH S name=ob:=by
  have l0:=I4 hmn name
  unfold sH
  rcases hfn.get name with⟨q1,q2⟩|⟨v,b,q1,q2,q3⟩
  .rw [q1]at l0
   exact⟨none,0,[],l0,by rw[q2]<;>rfl⟩
  .obtain ⟨a',c',rfl⟩:=tW.slice q3
   rw[q1]at l0
   exact⟨a',c',b,l0,by rw[q2]<;>rfl⟩
 rw[hob]at hE
 have holdlen:ob.length<=1099511627776:=by rw[<-hob];have:=xQ (k:=name) (c:=S.seen);have:=hB.seen;unfold sH;omega
 simp(disch:=omega)only[seval,n1,c2,l0]
 refine(Qa name _).mono ?_
 rintro r w2 ⟨rfl,hw⟩
 rw[hw];clear hw w2
 by_cases hmay:sN name=false
 .rw [if_pos (.inl hmay)]at hE
  rw[hW 1 hE.symm (by decide),hmay]
  simp(disch:=omega)only[seval]
  exact vR.refl h
 have hmay:sN name=true:=by cases hq:sN name with|true=>rfl|false=>exact absurd hq hmay
 rw[hmay]at hE⊢
 by_cases ha0:a<0
 .have d1:decide (a<0)=true:=by simpa using ha0
  rw[if_pos (.inr ha0)]at hE
  rw[hW 1 hE.symm (by decide)]
  simp(disch:=omega)only[seval,d1]
  exact vR.refl h
 have d1:decide (a<0)=false:=by simpa using ha0
 rw[if_neg (by rintro(h|h);cases h;exact ha0 h)]at hE
 by_cases ha1:(ob.length:Int)<a
 .have d2:decide ((ob.length:Int)<a)=true:=by simpa using ha1
  rw[if_pos ha1]at hE
  rw[hW 17 hE.symm (by decide)]
  simp(disch:=omega)only[seval,d1,d2]
  exact vR.refl h
 have d2:decide ((ob.length:Int)<a)=false:=by simpa using ha1
 rw[if_neg ha1]at hE
 have hbs:=hB.seen
 have hbr:=hB.room
 obtain⟨k,rfl⟩:∃k:Nat,a=k:=⟨a.toNat,by omega⟩
 simp(disch:=omega)only[seval,d1,d2,c2d]
 refine(SD (c:=S.seen) hmn.dr (hfn.ext (aJ.dr _ bQ) λ_ h=>h.elim) hbs).mono ?_
 rintro r w2 ⟨rfl,x2⟩
 have x2:aJ w1 w2 bQ:=(aJ.dr _ _).seq x2
 have op2:=op.ext x2 (λh=>h)
 have r0:=op2.cell (off:=0)
 have r0d:=(aP op2).cell (off:=0)
 simp only[Uv,Ux]at r0 r0d
 have e1:(k:Int)+(l.length:Int)=((k+l.length:Nat):Int):=by omega
 obtain⟨q,hq⟩:∃q:Nat,max (((k+l.length:Nat):Int)-(ob.length:Int)) 0=q:=⟨(max (((k+l.length:Nat):Int)-(ob.length:Int)) 0).toNat,by omega⟩
 have hmax:(if(0:Int)>((k+l.length:Nat):Int)-(ob.length:Int)then(0:Int)else((k+l.length:Nat):Int)-(ob.length:Int))=(q:Nat):=by
  split<;>omega
 have e2:((bF S.seen:Nat):Int)+(q:Int)=((bF S.seen+q:Nat):Int):=by omega
 rw[e1,hq,e2]at hE
 by_cases hsp:S.room<((bF S.seen+q:Nat):Int)
 .have d3:decide (S.room<((bF S.seen+q:Nat):Int))=true:=by simpa using hsp
  rw[if_pos hsp]at hE
  rw[hW 22 hE.symm (by decide)]
  simp(disch:=omega)only[seval,d1,d2,r0,r0d,c0d,e1,hmax,e2,d3]
  exact⟨X,D,h.new x2,λ_ h=> .inl h,λ_ h=>h,x2.mono λ_ _ h=>h.elim⟩
 have d3:decide (S.room<((bF S.seen+q:Nat):Int))=false:=by simpa using hsp
 rw[if_neg hsp]at hE
 have hW0:Ld S name k l=vX S ⟨0,name,⟨#[]⟩,k,l⟩:=by unfold Ld;rw[hE0,<-hE,if_pos rfl,UJ]
 rw[hW0]
 simp(disch:=omega)only[seval,d1,d2,r0,r0d,c0d,e1,hmax,e2,d3]
 refine(NJ (hb.ext x2 (jV _)) hl).mono ?_
 rintro r w3 ⟨ho,x3⟩
 obtain⟨va,vc,rfl⟩:=ho.len
 have h2':=h.new x2
 have hd3:tW w3 D (.slice va l.length vc) l:=xE.dat ho λb hb=>fB.lt h2' b hb
 have opE:GS ⟨0,name,⟨#[]⟩,k,l⟩ (.slice va l.length vc)=[.int .i64 0,.string name,.string ⟨#[]⟩,.int .i64 k,.slice va l.length vc]:=rfl
 have hdn:=MJ (o:=⟨0,name,⟨#[]⟩,k,l⟩) (h2'.new x3) hd3 hB.left hbs (show k<=1099511627776 by omega) (show l.length<=1099511627776 by omega) hB.under
 rw[opE]at hdn
 simp(disch:=omega)only[seval]
 refine hdn.mono ?_
 rintro r w4 ⟨rfl,hp⟩
 exact⟨rfl,vR.step ((x2.seq x3).mono λ_ _ h=>h.elim) (λ_ h=> .inl h) (λ_ h=>h) hp⟩
theorem Ir{p:Nat}{X D:Nat->Prop}{S:iL}{name:ByteArray}{w:V2}(h:fB w p X D S)(hB:Q4 S)(hsz:∀b,bC name S.seen=some b->b.length<=1000000000):
 aH pg fS #[dP p,.string name] w (λr w'=>((S.down=true/\r= .tuple #[.slice none 0 0,.int .i64 20])∨(S.down=false/\bC name S.seen=none/\r= .tuple #[.slice none 0 0,.int .i64 21])∨
  (S.down=false/\∃b v,bC name S.seen=some b/\r= .tuple #[v,.int .i64 0]/\xE w' w.heap.size 1 v b.length (b.map xF)))/\aJ w w' bQ):=by
 refine Eg ?_
 obtain⟨RR,hRR⟩:∃RR:V3->V2->Prop,RR=λr w'=>((S.down=true/\r= .tuple #[.slice none 0 0,.int .i64 20])∨(S.down=false/\bC name S.seen=none/\r= .tuple #[.slice none 0 0,.int .i64 21])∨
  (S.down=false/\∃b v,bC name S.seen=some b/\r= .tuple #[v,.int .i64 0]/\xE w' w.heap.size 1 v b.length (b.map xF)))/\aJ w w' bQ:=⟨_,rfl⟩
 rw[<-hRR]
 unfold C4 Ae
 refine(QM h).mono ?_
 rintro r w1 ⟨rfl,rfl⟩
 by_cases hd:S.down=true
 .rw [if_pos hd]
  have n1:((20:Int) !=0)=true:=rfl
  simp(disch:=omega)only[seval,n1]
  rw[hRR]
  exact⟨.inl ⟨hd,rfl⟩,aJ.refl _ _⟩
 have hd':S.down=false:=by cases hq:S.down with|true=>exact absurd hq hd|false=>rfl
 rw[if_neg hd]
 have n1:((0:Int) !=0)=false:=rfl
 obtain⟨ms,mn,sv,ls,ln,cs,h1,h2,h3,h4,h5,h6,hXD,hDl,op,hms,hmn,hfs,hfn,hun,hop⟩:=h
 have h7:=λb (hb:X b)=>hDl b (hXD b hb)
 have c2:=op.cell (off:=2)
 simp only[Uv,Ux]at c2
 have l0:=vG hmn name
 rcases hfn.get name with⟨q1,q2⟩|⟨v,b,q1,q2,q3⟩
 .rw [q1]at l0
  have l0:(tI 57 (.map (some mn)) (.string name) true).run pg w1= .ok (.value (.tuple #[.slice none 0 0,.bool false])) w1:=l0
  simp(disch:=omega)only[seval,n1,c2,l0]
  rw[hRR]
  exact⟨.inr (.inl ⟨hd',q2,rfl⟩),aJ.refl _ _⟩
 .obtain ⟨a',c',rfl⟩:=tW.slice q3
  rw[q1]at l0
  have l0:(tI 57 (.map (some mn)) (.string name) true).run pg w1= .ok (.value (.tuple #[.slice a' b.length c',.bool true])) w1:=l0
  simp(disch:=omega)only[seval,n1,c2,l0]
  refine(NJ q3.1 (hsz b q2)).mono ?_
  rintro r w2 ⟨ho,x2⟩
  rw[hRR]
  exact⟨.inr (.inr ⟨hd',b,r,q2,rfl,ho⟩),x2⟩
theorem Kh{p:Nat}{X D:Nat->Prop}{S:iL}{w:V2}(h:fB w p X D S):aH pg jK #[dP p] w (λr w'=>r= .int .i64 (S.under.length:Nat)/\w'=w):=by
 refine BM ?_
 unfold Ad vW
 obtain⟨ms,mn,sv,ls,ln,cs,h1,h2,h3,h4,h5,h6,hXD,hDl,op,hms,hmn,hfs,hfn,hun,hop⟩:=h
 have h7:=λb (hb:X b)=>hDl b (hXD b hb)
 have c3:=op.cell (off:=3)
 simp only[Uv,Ux]at c3
 obtain⟨ua,uc,rfl⟩:=hun.len
 simp(disch:=omega)only[seval,c3]
def Na(S:iL)(name:ByteArray):iL×Int:=if S.down then(S,20)else if(bC name S.seen).isNone then(S,21)else vX S ⟨2,name,⟨#[]⟩,0,[]⟩
theorem OD{p:Nat}{X D:Nat->Prop}{S:iL}{name:ByteArray}{w:V2}(h:fB w p X D S)(hB:Q4 S):
 aH pg nP #[dP p,.string name] w (λr w'=>r= .int .i64 (Na S name).2/\vR w p X D (Na S name).1 w'):=by
 refine CA ?_
 unfold Be wV Na
 refine(QM h).mono ?_
 rintro r w1 ⟨rfl,rfl⟩
 by_cases hd:S.down=true
 .rw [if_pos hd,if_pos hd]
  have n1:((20:Int) !=0)=true:=rfl
  simp(disch:=omega)only[seval,n1]
  exact vR.refl h
 rw[if_neg hd,if_neg hd]
 have n1:((0:Int) !=0)=false:=rfl
 have h':=h
 obtain⟨ms,mn,sv,ls,ln,cs,h1,h2,h3,h4,h5,h6,hXD,hDl,op,hms,hmn,hfs,hfn,hun,hop⟩:=h'
 have h7:∀b,X b->b<w1.heap.size:=λb hb=>hDl b (hXD b hb)
 have c2:=op.cell (off:=2)
 simp only[Uv,Ux]at c2
 have l0:=vG hmn name
 rcases hfn.get name with⟨q1,q2⟩|⟨v,b,q1,q2,q3⟩
 .rw [q1]at l0
  have l0:(tI 57 (.map (some mn)) (.string name) true).run pg w1= .ok (.value (.tuple #[.slice none 0 0,.bool false])) w1:=l0
  rw[q2,if_pos (show(none:Option (List UInt8)).isNone=true from rfl)]
  simp(disch:=omega)only[seval,n1,c2,l0]
  exact vR.refl h
 .obtain ⟨a',c',rfl⟩:=tW.slice q3
  rw[q1]at l0
  have l0:(tI 57 (.map (some mn)) (.string name) true).run pg w1= .ok (.value (.tuple #[.slice a' b.length c',.bool true])) w1:=l0
  rw[q2,if_neg (show¬(some b).isNone=true by simp)]
  have hdn:=MJ (o:=⟨2,name,⟨#[]⟩,0,[]⟩) (va:=none) (vc:=0) h ⟨Sl.nil _,λh=>h⟩ hB.left hB.seen (show 0<=_ by omega) (show 0<=_ by omega) hB.under
  have opE:GS ⟨2,name,⟨#[]⟩,0,[]⟩ (.slice none ([]:List UInt8).length 0)=[.int .i64 2,.string name,.string ⟨#[]⟩,.int .i64 0,.slice none 0 0]:=rfl
  rw[opE]at hdn
  simp(disch:=omega)only[seval,n1,c2,l0]
  exact hdn
def Nb(S:iL)(old name:ByteArray):iL×Int:=if S.down then(S,20)else if sN old=false∨sN name=false then(S,1)else if(bC old S.seen).isNone then(S,21)else vX S ⟨1,old,name,0,[]⟩
theorem OE{p:Nat}{X D:Nat->Prop}{S:iL}{old name:ByteArray}{w:V2}(h:fB w p X D S)(hB:Q4 S):
 aH pg nQ #[dP p,.string old,.string name] w (λr w'=>r= .int .i64 (Nb S old name).2/\vR w p X D (Nb S old name).1 w'):=by
 refine CB ?_
 unfold Bf wW Nb
 refine(QM h).mono ?_
 rintro r w1 ⟨rfl,rfl⟩
 by_cases hd:S.down=true
 .rw [if_pos hd,if_pos hd]
  have n1:((20:Int) !=0)=true:=rfl
  simp(disch:=omega)only[seval,n1]
  exact vR.refl h
 rw[if_neg hd,if_neg hd]
 have n1:((0:Int) !=0)=false:=rfl
 have h':=h
 obtain⟨ms,mn,sv,ls,ln,cs,h1,h2,h3,h4,h5,h6,hXD,hDl,op,hms,hmn,hfs,hfn,hun,hop⟩:=h'
 have h7:∀b,X b->b<w1.heap.size:=λb hb=>hDl b (hXD b hb)
 have c2:=op.cell (off:=2)
 simp only[Uv,Ux]at c2
 simp(disch:=omega)only[seval,n1]
 refine(Qa old _).mono ?_
 rintro r w2 ⟨rfl,hw⟩
 rw[hw];clear hw w2
 cases hm1:sN old with
 |false=>
  rw[if_pos (.inl rfl)]
  simp(disch:=omega)only[seval]
  exact vR.refl h
 |true=>
  simp(disch:=omega)only[seval]
  refine(Qa name _).mono ?_
  rintro r w2 ⟨rfl,hw⟩
  rw[hw];clear hw w2
  cases hm2:sN name with
  |false=>
   rw[if_pos (.inr rfl)]
   simp(disch:=omega)only[seval]
   exact vR.refl h
  |true=>
   rw[if_neg (by simp)]
   have l0:=vG hmn old
   rcases hfn.get old with⟨q1,q2⟩|⟨v,b,q1,q2,q3⟩
   .rw [q1]at l0
    have l0:(tI 57 (.map (some mn)) (.string old) true).run pg w1= .ok (.value (.tuple #[.slice none 0 0,.bool false])) w1:=l0
    rw[q2,if_pos (show(none:Option (List UInt8)).isNone=true from rfl)]
    simp(disch:=omega)only[seval,n1,c2,l0]
    exact vR.refl h
   .obtain ⟨a',c',rfl⟩:=tW.slice q3
    rw[q1]at l0
    have l0:(tI 57 (.map (some mn)) (.string old) true).run pg w1= .ok (.value (.tuple #[.slice a' b.length c',.bool true])) w1:=l0
    rw[q2,if_neg (show¬(some b).isNone=true by simp)]
    have hdn:=MJ (o:=⟨1,old,name,0,[]⟩) (va:=none) (vc:=0) h ⟨Sl.nil _,λh=>h⟩ hB.left hB.seen (show 0<=_ by omega) (show 0<=_ by omega) hB.under
    have opE:GS ⟨1,old,name,0,[]⟩ (.slice none ([]:List UInt8).length 0)=[.int .i64 1,.string old,.string name,.int .i64 0,.slice none 0 0]:=rfl
    rw[opE]at hdn
    simp(disch:=omega)only[seval,n1,c2,l0]
    exact hdn
theorem SH{p:Nat}{X D:Nat->Prop}{S:iL}{a:Int}{w:V2}(h:fB w p X D S):aH pg pT #[dP p,.int .i64 a] w (λr w'=>r= .tuple #[]/\vR w p X D {S with left:=max a (-1)} w'):=by
 refine Eh ?_
 unfold C5 Af
 obtain⟨ms,mn,sv,ls,ln,cs,h1,h2,h3,h4,h5,h6,hXD,hDl,op,hms,hmn,hfs,hfn,hun,hop⟩:=h
 have h7:=λb (hb:X b)=>hDl b (hXD b hb)
 have e1:(if(-1:Int)>a then(-1:Int)else a)=max a (-1):=by split<;>omega
 simp(disch:=omega)only[seval,e1]
 refine DH op rfl (by simp) λw1 o1 x1 s1=> ?_
 simp only[UM,UY]at o1
 have xX:aJ w w1 X:=x1.mono λb _ h=>h▸h1
 have xD:aJ w w1 D:=xX.mono λb _ h=>hXD b h
 exact⟨X,D,⟨ms,mn,sv,ls,ln,cs,h1,h2,h3,h4,h5,h6,hXD,λb hb=>by have:=hDl b hb;omega,o1,hms.ext x1 (λh=>h4 h.symm),hmn.ext x1 (λh=>h5 h.symm),hfs.ext xD λ_ h=>h,hfn.ext xD λ_ h=>h,hun.ext x1 (λb hb h=>hb.2.1 h),hop.ext xD λ_ h=>h⟩,λ_ h=> .inl h,λ_ h=>h,xX⟩
def My(S:iL):iL×Int:=
 if S.down then(S,20)else if Ly S then({S with left:=sF S.left,down:=Ly S},20)
 else({S with left:=sF S.left,down:=Ly S,sure:=S.seen,under:=[]},0)
theorem QK{p:Nat}{X D:Nat->Prop}{S:iL}{w:V2}(h:fB w p X D S)(hB:Q4 S):
 aH pg mO #[dP p] w (λr w'=>r= .int .i64 (My S).2/\vR w p X D (My S).1 w'):=by
 refine Ei ?_
 unfold C6 Ag My
 refine(QM h).mono ?_
 rintro r w1 ⟨rfl,rfl⟩
 by_cases hd:S.down=true
 .rw [if_pos hd,if_pos hd]
  have n1:((20:Int) !=0)=true:=rfl
  simp(disch:=omega)only[seval,n1]
  exact vR.refl h
 rw[if_neg hd,if_neg hd]
 have n1:((0:Int) !=0)=false:=rfl
 obtain⟨ms,mn,sv,ls,ln,cs,h1,h2,h3,h4,h5,h6,hXD,hDl,op,hms,hmn,hfs,hfn,hun,hop⟩:=h
 have h7:=λb (hb:X b)=>hDl b (hXD b hb)
 simp(disch:=omega)only[seval,n1]
 refine(Oe op hB.left).mono ?_
 rintro r w2 ⟨rfl,op2,x2⟩
 have hdn:(S.down||S.left==0)=Ly S:=rfl
 rw[hdn]at op2⊢
 have xX:aJ w1 w2 X:=x2.mono λb _ h=>h▸h1
 have xD:aJ w1 w2 D:=xX.mono λb _ h=>hXD b h
 have z2:=x2.size
 have h72:∀b,X b->b<w2.heap.size:=λb hb=>by have:=h7 b hb;omega
 have hD2:∀b,D b->b<w2.heap.size:=λb hb=>by have:=hDl b hb;omega
 have hms2:=hms.ext x2 (λh=>h4 h.symm)
 have hmn2:=hmn.ext x2 (λh=>h5 h.symm)
 have hfs2:=hfs.ext xD λ_ h=>h
 have hfn2:=hfn.ext xD λ_ h=>h
 cases hD:Ly S with
 |true=>
  rw[hD]at op2
  rw[if_pos rfl]
  simp(disch:=omega)only[seval]
  exact⟨X,D,⟨ms,mn,sv,ls,ln,cs,h1,h2,h3,h4,h5,h6,hXD,hD2,op2,hms2,hmn2,hfs2,hfn2,hun.ext x2 (λb hb h=>hb.2.1 h),hop.ext xD λ_ h=>h⟩,λ_ h=> .inl h,λ_ h=>h,xX⟩
 |false=>
  rw[hD]at op2
  rw[if_neg (by decide)]
  have c2:=op2.cell (off:=2)
  simp only[Uv,Ux]at c2
  simp(disch:=omega)only[seval,c2]
  refine(LU hmn2).mono ?_
  rintro r w3 ⟨rfl,hmc,x3,s3⟩
  have op3:=op2.ext x3 (λh=>h)
  refine Fa op3 rfl (by simp) λw4 op4 x4 s4=> ?_
  simp only[UM,UY]at op4
  refine pS op4 rfl (by simp) λw5 op5 x5 s5=> ?_
  simp only[UM,UY]at op5
  have hp2:p<w2.heap.size:=op2.lt
  have hmn2l:=hmn2.lt
  have x45:aJ w3 w5 (λy=>y=p):=x4.seq x5
  obtain⟨Y,hY⟩:∃Y:Nat->Prop,Y=λb=>X b∨b=w2.heap.size:=⟨_,rfl⟩
  have hYX:∀b,X b->Y b:=λb h=>by rw[hY];exact .inl h
  have hY2:∀b,Y b->X b∨w2.heap.size<=b:=λb h=>by rw[hY]at h;rcases h with h|h;exact .inl h;exact .inr (by omega)
  obtain⟨E,hE⟩:∃E:Nat->Prop,E=λb=>D b∨b=w2.heap.size:=⟨_,rfl⟩
  have hED:∀b,D b->E b:=λb h=>by rw[hE];exact .inl h
  have hYE:∀b,Y b->E b:=λb h=>by rw[hY]at h;rw[hE];rcases h with h|h;exact .inl (hXD b h);exact .inr h
  have hE2:∀b,E b->D b∨w2.heap.size<=b:=λb h=>by rw[hE]at h;rcases h with h|h;exact .inl h;exact .inr (by omega)
  have x3Y:aJ w2 w3 E:=x3.mono λ_ _ h=>h.elim
  have x45Y:aJ w3 w5 E:=x45.mono λb _ h=>by rw[h];exact hED _ (hXD _ h1)
  have dat:∀v b,tW w2 D v b->tW w5 E v b:=λv b hd=>((hd.sub hE2).ext x3Y λ_ h=>h).ext x45Y λ_ h=>h
  refine⟨Y,E,⟨w2.heap.size,mn,.slice none 0 0,ln,ln,[],hYX _ h1,by rw[hY];exact .inr rfl,hYX _ h3,by omega,h5,by omega,hYE,λb h=> ?_,op5,hmc.ext x45 (by omega),(hmn2.ext x3 (λh=>h)).ext x45 (λh=>h5 h.symm),hfn2.map dat,hfn2.map dat,⟨rfl,.inl ⟨rfl,rfl⟩⟩,rfl⟩,λb h=> ?_,hED,(xX.trans x3 λ_ _ h=>h.elim).trans x45 λb _ h=>by rw[h];exact h1⟩
  .rw [hE]at h
   rcases h with h|h
   .have:=hD2 b h;omega
   .omega
  .rcases hY2 b h with h|h
   .exact .inl h
   .exact .inr (by omega)
def HD(os:List Ax)(ks:List Bool)(c:aX):Nat->aX
 |0=>c
 |i+1=>match os[i]?,ks[i]? with
  |some o,some true=>Ez o (HD os ks c i)
  |_,_=>HD os ks c i
def Sc(S:iL)(ks:List Bool):iL:={S with sure:=HD S.under ks S.sure S.under.length,seen:=HD S.under ks S.sure S.under.length,under:=[],left:= -1,down:=false}
theorem NK{p:Nat}{X D:Nat->Prop}{S:iL}{kv:V3}{ks:List Bool}{w:V2}(h:fB w p X D S)(hk:Sl w kv (ks.map Value.bool))(hkX:¬Ci kv X)(hkl:ks.length<=9223372036854775807)(hu:S.under.length<=1000000)
 (hs:∀i,i<=S.under.length->bF (HD S.under ks S.sure i)<=1099511627776) (hop':∀o∈S.under,o.at'<=1099511627776/\o.bytes.length<=1099511627776):
 aH pg lG #[dP p,kv] w (λr w'=>r= .tuple #[]/\vR w p X D (Sc S ks) w'):=by
 refine C2 ?_
 unfold Ca wU wT
 simp(disch:=omega)only[seval]
 obtain⟨ms,mn,sv,ls,ln,cs,h1,h2,h3,h4,h5,h6,hXD,hDl,op,hms,hmn,hfs,hfn,hun,hop⟩:=h
 have h7:=λb (hb:X b)=>hDl b (hXD b hb)
 have hp:p<w.heap.size:=op.lt
 have hmsl:=hms.lt
 have hmnl:=hmn.lt
 have c3:=op.cell (off:=3)
 simp only[Uv,Ux]at c3
 obtain⟨ua,uc,rfl⟩:=hun.len
 obtain⟨ka,kc,rfl,_⟩:=hk.len
 rw[UA]at hk hkX⊢
 unfold rO rN yE
 simp(disch:=omega)only[seval,c3]
 unfold nS
 have hol:=hop.len
 refine bG.rule (λm (t:V3) w'=>∃(i:Nat) (ls':List (ByteArray×V3)),m=S.under.length-i/\t= .int .i64 i/\i<=S.under.length/\Mp w' ms Dc ls'/\vQ w' D ls' (HD S.under ks S.sure i)/\aJ w w' (λb=>b=ms)) S.under.length
  ⟨0,ls,rfl,rfl,by omega,hms,hfs,aJ.refl _ _⟩ ?_
 rintro m t w1 ⟨i,ls',rfl,rfl,hi,hms1,hf1,x1⟩
 have z1:=x1.size
 have x1X:aJ w w1 X:=x1.mono λb _ h=>h▸h2
 have x1D:aJ w w1 D:=x1X.mono λb _ h=>hXD b h
 have op1:=op.ext x1 (λh=>h4 h)
 unfold rM yD
 by_cases hlt:i<S.under.length
 .have d1:decide ((i:Int)<(S.under.length:Int))=true:=by simp;omega
  obtain⟨v,⟨va,vn,vc,rfl⟩,hcs,hdat⟩:=hop.at hlt
  obtain⟨a',c',e'⟩:=tW.slice hdat
  simp only[Value.slice.injEq]at e'
  obtain⟨-,rfl,-⟩:=e'
  rcases hun.2 with⟨hnil,h0⟩|⟨b,c,rest,hsv,hbX,ob,hbl,hbc⟩
  .omega
  simp only[Value.slice.injEq]at hsv
  obtain⟨rfl,-,rfl⟩:=hsv
  have ob1:=ob.ext x1 (λh=>hbX.2.2.1 h)
  have l1:=kR (off:=i*5) ob1 (by rw[Uu];omega)
  have htk:((cs++rest).drop (i*5)).take 5=GS S.under[i] (.slice va S.under[i].bytes.length vc):=by
   rw[List.drop_append_of_le_length (by omega),List.take_append_of_le_length (by rw[U8];omega)];exact hcs
  rw[htk]at l1
  have hmem:=hop' _ (Vz hlt)
  have hcr:HD S.under ks S.sure (i+1)=match ks[i]? with|some true=>Ez S.under[i] (HD S.under ks S.sure i)|_=>HD S.under ks S.sure i:=by
   rw[HD,UG hlt]
   cases ks[i]? with
   |none=>rfl
   |some q=>cases q<;>rfl
  have hsi:=hs i hi
  generalize S.under[i]=o at*
  simp(disch:=omega)only[seval,d1,l1]
  refine F0 λw2 o2 x2 s2=> ?_
  refine FO o2 rfl (by unfold GS;simp[one]) (by simp) λw3 o3 x3 s3=> ?_
  have o3:bD w3 w1.heap.size (GS o (.slice va o.bytes.length vc)):=o3
  have x13:aJ w1 w3 bQ:=x2.new x3 (UF _)
  have x03:=x1.trans x13 λ_ _ h=>h.elim
  have hms3:=hms1.ext x13 (λh=>h)
  have hf3:=hf1.ext x13 λ_ h=>h.elim
  have hd3:tW w3 D (.slice va o.bytes.length vc) o.bytes:=(hdat.ext x1D λ_ h=>h).ext x13 λ_ h=>h.elim
  have op3:=op1.ext x13 (λh=>h)
  have q1d:=(aP op3).cell (off:=1)
  have q1:=op3.cell (off:=1)
  simp only[Uv,Ux]at q1 q1d
  have l3:=kR (off:=0) o3 (by unfold GS;simp)
  have l3d:=kR (off:=0) (aP o3) (by unfold GS;simp)
  have l3':((GS o (.slice va o.bytes.length vc)).drop 0).take 5=GS o (.slice va o.bytes.length vc):=rfl
  rw[l3']at l3 l3d
  have z3:=x13.size
  unfold rL
  have skip:HD S.under ks S.sure (i+1)=HD S.under ks S.sure i->∃m,m<S.under.length-i/\∃(i':Nat) (ls':List (ByteArray×V3)),m=S.under.length-i'/\Value.int .i64 ((i+1:Nat):Int)= .int .i64 i'/\i'<=S.under.length/\Mp w3 ms Dc ls'/\vQ w3 D ls' (HD S.under ks S.sure i')/\aJ w w3 (λb=>b=ms):=λe=>
   ⟨S.under.length-(i+1),by omega,i+1,ls',rfl,rfl,by omega,hms3,by rw[e];exact hf3,x03⟩
  have ei:(i:Int)+1=((i+1:Nat):Int):=by omega
  by_cases hki:i<ks.length
  .have d2:decide ((i:Int)<(ks.length:Int))=true:=by simp;omega
   obtain⟨kb,koff,rfl,hcell⟩:=T0 (hk.ext x03 (λh=>hkX (kK h λb hb=>by rw[hb];exact h2))) (by omega)
   have g1:=hcell i hki
   rw[U9,UG hki]at g1
   simp only[Vd]at g1
   rw[UG hki]at hcr
   generalize ks[i]=kq at*
   cases kq with
   |false=>
    simp(disch:=omega)only[seval,d2,g1,ei]
    exact skip hcr
   |true=>
    simp(disch:=omega)only[seval,d2,g1,q1,q1d,l3,l3d]
    refine(S3 (X:=D) (c:=HD S.under ks S.sure i) (o:=o) hms3.dr (hXD _ h2) (λb hb=>by have:=hDl b hb;show b<w3.heap.size;omega) (hf3.ext (aJ.dr _ bQ) λ_ h=>h.elim) (hd3.ext (aJ.dr _ bQ) λ_ h=>h.elim) hsi hmem.1 hmem.2).mono ?_
    rintro r w4 ⟨rfl,ls4,hms4,hf4,x4⟩
    have x4:aJ w3 w4 (λb=>b=ms):=(aJ.dr _ _).seq x4
    simp(disch:=omega)only[seval,ei]
    exact⟨S.under.length-(i+1),by omega,i+1,ls4,rfl,rfl,by omega,hms4,by rw[hcr];exact hf4,x03.seq x4⟩
  .have d2:decide ((i:Int)<(ks.length:Int))=false:=by simp;omega
   rw[Ve (by omega)]at hcr
   simp(disch:=omega)only[seval,d2,ei]
   exact skip hcr
 .have d1:decide ((i:Int)<(S.under.length:Int))=false:=by simp;omega
  obtain rfl:i=S.under.length:=by omega
  have c1:=op1.cell (off:=1)
  simp only[Uv,Ux]at c1
  unfold rK
  simp(disch:=omega)only[seval,d1,c1]
  refine(LU hms1).mono ?_
  rintro r w3 ⟨rfl,hmc,x3,s3⟩
  have op3:=op1.ext x3 (λh=>h)
  refine Fa op3 rfl (by simp) λw4 op4 x4 s4=> ?_
  simp only[UM,UY]at op4
  refine pS op4 rfl (by simp) λw5 op5 x5 s5=> ?_
  simp only[UM,UY]at op5
  refine DH op5 rfl (by simp) λw6 op6 x6 s6=> ?_
  simp only[UM,UY]at op6
  refine Iw op6 rfl (by simp) λw7 op7 x7 s7=> ?_
  simp only[UM,UY]at op7
  have x37:aJ w3 w7 (λy=>y=p):=((x4.seq x5).seq x6).seq x7
  obtain⟨Y,hY⟩:∃Y:Nat->Prop,Y=λb=>X b∨b=w1.heap.size:=⟨_,rfl⟩
  have hYX:∀b,X b->Y b:=λb h=>by rw[hY];exact .inl h
  have hY2:∀b,Y b->X b∨w1.heap.size<=b:=λb h=>by rw[hY]at h;rcases h with h|h;exact .inl h;exact .inr (by omega)
  obtain⟨E,hE⟩:∃E:Nat->Prop,E=λb=>D b∨b=w1.heap.size:=⟨_,rfl⟩
  have hED:∀b,D b->E b:=λb h=>by rw[hE];exact .inl h
  have hYE:∀b,Y b->E b:=λb h=>by rw[hY]at h;rw[hE];rcases h with h|h;exact .inl (hXD b h);exact .inr h
  have hE2:∀b,E b->D b∨w1.heap.size<=b:=λb h=>by rw[hE]at h;rcases h with h|h;exact .inl h;exact .inr (by omega)
  have x3Y:aJ w1 w3 E:=x3.mono λ_ _ h=>h.elim
  have x37Y:aJ w3 w7 E:=x37.mono λb _ h=>by rw[h];exact hED _ (hXD _ h1)
  have dat:∀v b,tW w1 D v b->tW w7 E v b:=λv b hd=>((hd.sub hE2).ext x3Y λ_ h=>h).ext x37Y λ_ h=>h
  refine⟨Y,E,⟨ms,w1.heap.size,.slice none 0 0,ls',ls',[],hYX _ h1,hYX _ h2,by rw[hY];exact .inr rfl,h4,by omega,by omega,hYE,λb h=> ?_,op7,(hms1.ext x3 (λh=>h)).ext x37 (λh=>h4 h.symm),hmc.ext x37 (by omega),hf1.map dat,hf1.map dat,⟨rfl,.inl ⟨rfl,rfl⟩⟩,rfl⟩,λb h=> ?_,hED,(x1X.trans x3 λ_ _ h=>h.elim).trans x37 λb _ h=>by rw[h];exact h1⟩
  .rw [hE]at h
   rcases h with h|h
   .have:=hDl b h;omega
   .omega
  .rcases hY2 b h with h|h
   .exact .inl h
   .exact .inr (by omega)
theorem GZ{w w':V2}{g i:Nat}{v:V3}{M:Nat->Prop}(hc:w.cell? ⟨g,i,none⟩=some v)(x:aJ w w' M)(hM:¬M g):w'.cell? ⟨g,i,none⟩=some v:=by
 have hg:g<w.heap.size:=by
  rcases U0 g w.heap.size with h|h
  .exact h
  .unfold World.cell? at hc
   rw[UR h]at hc
   cases hc
 rw[<-hc]
 unfold World.cell?
 rw[x.keep g hg hM]
theorem HC{w w':V2}{sz n:Nat}{v:V3}{l:List V3}{M:Nat->Prop}(h:Cl w sz v n l)(x:aJ w w' M)(hM:¬Ci v M):Cl w' sz v n l:=by
 obtain⟨a,c,rfl,hl,hh⟩:=h
 refine⟨a,c,rfl,hl,λh0=> ?_⟩
 obtain⟨b,off,rfl,h2⟩:=hh h0
 refine⟨b,off,rfl,λi hi=> ?_⟩
 have hb:¬M b:=λhm=>hM (by
  obtain⟨n',rfl⟩:∃n',n=n'+1:=⟨n-1,by omega⟩
  exact hm)
 obtain⟨y,hy⟩:∃y,l[i]?=some y:=⟨_,UG hi⟩
 rw[<-h2 i hi]
 have h3:=h2 i hi
 rw[hy]at h3
 rw[GZ h3 x hb,h3]
theorem L1 {w:V2}{S:Nat->Prop}{sz n:Nat}{v:V3}{l:List V3}(o3:J5 w S sz v n l):∃a c,v= .slice a n c:=by
 rcases o3.2 with⟨rfl,rfl⟩|⟨b,c,rest,rfl,_⟩
 .exact ⟨_,_,rfl⟩
 .exact ⟨_,_,rfl⟩
theorem GQ(x y:ByteArray):(x.toList==y.toList)=decide (x=y):=by
 rw[ByteArray.toList_eq,ByteArray.toList_eq]
 by_cases h:x=y
 .subst h;simp
 .rw [decide_eq_false h]
  refine beq_eq_false_iff_ne.2 λe=>h ?_
  cases x;cases y
  simp at e
  rw[e]
theorem M5 {P:Program}{w:V2}{t:TypeId}{ox oy:Operand}(x y:ByteArray):(aE .lss t ox oy (.string x) (.string y)).run P w= .ok (.value (.bool (fU x y))) w:=by
 simp[aE,xJ,jW,binOp,Op.stringOp,fU]
abbrev JS(l:aX):List V3:=l.flatMap λp=>[.string p.1,.string ⟨p.2.toArray⟩]
def CL(Z:Nat->Prop)(w:V2)(v:V3)(l:aX):Prop:=Cl w 2 v l.length (JS l)/\¬Ci v Z/\∀b,Z b->b<w.heap.size
variable{Z:Nat->Prop}
theorem DV(l:aX):(JS l).length=l.length*2:=by
 induction l with
 |nil=>rfl
 |cons p r ih=>simp only[JS,Vw,Uu,UL,VC]at ih⊢;omega
theorem NX(l:aX):∀y∈JS l,one y=true:=λy hy=>by
 obtain⟨p,-,hy⟩:=List.mem_flatMap.1 hy
 simp only[UD,U3,or_false]at hy
 rcases hy with rfl|rfl<;>rfl
theorem KP:∀{l:aX} {i:Nat} (hi:i<l.length),(JS l)[i*2]?=some (.string l[i].1)/\(JS l)[i*2+1]?=some (.string ⟨l[i].2.toArray⟩)
 |p::r,0,_=>⟨rfl,rfl⟩
 |p::r,i+1,hi=>by
  have h:=KP (l:=r) (i:=i) (by simp at hi;omega)
  rw[show(i+1)*2=i*2+1+1 from by omega]
  exact h
theorem CL.at {w:V2}{v:V3}{l:aX}(h:CL Z w v l){i:Nat}(hi:i<l.length):∃a off c,v= .slice (some ⟨a,off,none⟩) l.length c/\w.cell? ⟨a,off+i*2,none⟩=some (.string l[i].1)/\w.cell? ⟨a,off+i*2+1,none⟩=some (.string ⟨l[i].2.toArray⟩):=by
 obtain⟨⟨a,c,rfl,hl,hh⟩,_⟩:=h
 obtain⟨b,off,rfl,h2⟩:=hh (by omega)
 obtain⟨h3,h4⟩:=KP hi
 have hln:=DV l
 refine⟨b,off,c,rfl, ?_, ?_⟩
 .rw [h2 _ (by omega),h3]
 .rw [Vi,h2 _ (by omega),h4]
theorem CL.len {w:V2}{v:V3}{l:aX}(h:CL Z w v l):∃a c,v= .slice a l.length c:=by
 obtain⟨⟨a,c,rfl,_⟩,_⟩:=h
 exact⟨a,c,rfl⟩
theorem CL.new {w w':V2}{v:V3}{l:aX}(h:CL Z w v l)(x:aJ w w' bQ):CL Z w' v l:=⟨HC h.1 x (jV _),h.2.1,λb hb=>UQ (h.2.2 b hb) x.size⟩
theorem KI{w:V2}{base sz n:Nat}{v:V3}{l:List V3}(h:xE w base sz v n l)(hZ:∀b,Z b->b<base):¬Ci v Z:=by
 intro hi
 rcases h.2 with⟨rfl,_⟩|⟨b,c,rest,rfl,hb,_⟩
 .exact hi
 .unfold Ci at hi
  split at hi
  .rename_i e
   simp only[Value.slice.injEq,VF]at e
   obtain⟨rfl,_⟩:=e
   exact absurd (hZ _ hi) (by show¬b<base;omega)
  .exact hi
theorem G3 {n:ByteArray}:∀{l:aX} {i:Nat},(∀j (hj:j<l.length),j<i->l[j].1≠n)->bC n l=bC n (l.drop i)
 |_,0,_=>rfl
 |[],i+1,_=>rfl
 |p::r,i+1,h=>by
  have h0:=h 0 (by simp) (by omega)
  simp only[bC]
  rw[if_neg (λe=>h0 e.symm),List.drop_succ_cons]
  exact G3 λj hj hji=>by
   have:=h (j+1) (by simp;omega) (by omega)
   simpa using this
theorem GG{v:V3}{l:aX}{n:ByteArray}{w:V2}(h:CL Z w v l)(hl:l.length<=1000000):
 aH pg pV #[v,.string n] w (λr w'=>w'=w/\((bC n l=none/\r= .int .i64 (-1))∨∃i,∃hi:i<l.length,bC n l=some l[i].2/\l[i].1=n/\r= .int .i64 (i:Nat))):=by
 refine Ie ?_
 obtain⟨RR,hRR⟩:∃RR:V3->V2->Prop,RR=λr w'=>w'=w/\((bC n l=none/\r= .int .i64 (-1))∨∃i,∃hi:i<l.length,bC n l=some l[i].2/\l[i].1=n/\r= .int .i64 (i:Nat)):=⟨_,rfl⟩
 rw[<-hRR]
 obtain⟨a,c,hv⟩:=h.len
 subst hv
 unfold Ji EL EK AU AT EJ vI
 refine bG.rule (λm (t:V3) w'=>∃i:Nat,m=l.length-i/\i<=l.length/\t= .int .i64 (i:Nat)/\w'=w/\∀j (hj:j<l.length),j<i->l[j].1≠n) l.length
  ⟨0,rfl,by omega,rfl,rfl,λj _ h=>by omega⟩ ?_
 rintro m t w' ⟨i,rfl,hi,rfl,rfl,hne⟩
 unfold AS
 by_cases hlt:i<l.length
 .have d1:decide ((i:Int)<(l.length:Int))=true:=by simp;omega
  obtain⟨b,off,c',he,h1,h2⟩:=h.at hlt
  simp only[Value.slice.injEq]at he
  obtain⟨rfl,-,rfl⟩:=he
  have hin:(i:Int).toNat=i:=UJ _
  have q1:(i:Int)+1=((i+1:Nat):Int):=by omega
  by_cases hn:l[i].1=n
  .have k1:(l[i].1.toList==n.toList)=true:=by rw[GQ,decide_eq_true hn]
   simp(disch:=omega)only[seval,d1,hin,h1,AQ,k1]
   rw[hRR]
   refine⟨rfl,.inr ⟨i,hlt, ?_,hn,rfl⟩⟩
   rw[G3 hne,Vb hlt]
   simp only[bC]
   rw[if_pos hn.symm]
  .have k1:(l[i].1.toList==n.toList)=false:=by rw[GQ,decide_eq_false hn]
   have hq:∀j (hj:j<l.length),j<i+1->l[j].1≠n:=λj hj hji=>by
    by_cases hj2:j=i
    .subst hj2;exact hn
    .exact hne j hj (by omega)
   have hqq:∃m,m<l.length-i/\∃i':Nat,m=l.length-i'/\i'<=l.length/\Value.int .i64 ((i+1:Nat):Int)= .int .i64 (i':Nat)/\w'=w'/\∀j (hj:j<l.length),j<i'->l[j].1≠n:=⟨l.length-(i+1),by omega,i+1,rfl,by omega,rfl,rfl,hq⟩
   simp(disch:=omega)only[seval,d1,hin,h1,AQ,k1,q1]
   first|exact hqq|exact⟨l.length-(i+1),by omega,i+1,rfl,by omega,rfl,hq⟩
 .have d1:decide ((i:Int)<(l.length:Int))=false:=by simp;omega
  unfold AR
  simp(disch:=omega)only[seval,d1]
  rw[hRR]
  refine⟨rfl,.inl ⟨?_,rfl⟩⟩
  rw[G3 hne,List.drop_of_length_le (by omega)]
  rfl
theorem QB{n:ByteArray}{l:aX}{i:Nat}(hi:i<l.length):BF n (l.take (i+1))=if l[i].1=n then BF n (l.take i)else BF n (l.take i)++[l[i]]:=by
 unfold BF
 rw[Vn hi,List.filter_append]
 by_cases h:l[i].1=n
 .rw [if_pos h,List.filter_cons_of_neg (by simpa using h)];simp
 .rw [if_neg h,List.filter_cons_of_pos (by simpa using h)];simp
theorem Iv(a b:aX):JS (a++b)=JS a++JS b:=by simp[JS]
theorem Jt{v:V3}{l:aX}{n:ByteArray}{w:V2}(h:CL Z w v l)(hl:l.length<=1000000):
 aH pg oI #[v,.string n] w (λr w'=>xE w' w.heap.size 2 r (BF n l).length (JS (BF n l))/\aJ w w' bQ):=by
 refine FF ?_
 obtain⟨RR,hRR⟩:∃RR:V3->V2->Prop,RR=λr w'=>xE w' w.heap.size 2 r (BF n l).length (JS (BF n l))/\aJ w w' bQ:=⟨_,rfl⟩
 rw[<-hRR]
 obtain⟨a,c,hv⟩:=h.len
 subst hv
 unfold EX Au As uO uN BA pY
 refine bG.rule (λm (t:V3×V3) w'=>∃i:Nat,m=l.length-i/\i<=l.length/\∃ov,t=(ov,.int .i64 (i:Nat))/\xE w' w.heap.size 2 ov (BF n (l.take i)).length (JS (BF n (l.take i)))/\aJ w w' bQ) l.length
  ⟨0,rfl,by omega,_,rfl,xE.nil _ _ _,aJ.refl _ _⟩ ?_
 rintro m t w' ⟨i,rfl,hi,ov,rfl,ho,x⟩
 unfold uM Bz
 by_cases hlt:i<l.length
 .have d1:decide ((i:Int)<(l.length:Int))=true:=by simp;omega
  obtain⟨b,off,c',he,h1,h2⟩:=(h.new x).at hlt
  simp only[Value.slice.injEq]at he
  obtain⟨rfl,-,rfl⟩:=he
  have hin:(i:Int).toNat=i:=UJ _
  have q1:(i:Int)+1=((i+1:Nat):Int):=by omega
  have ht:=QB (n:=n) hlt
  unfold uL
  by_cases hn:l[i].1=n
  .have k1:(l[i].1.toList==n.toList)=true:=by rw[GQ,decide_eq_true hn]
   rw[if_pos hn]at ht
   simp(disch:=omega)only[seval,d1,hin,h1,Jd,k1,q1]
   exact⟨l.length-(i+1),by omega,i+1,rfl,by omega,ov,rfl,by rw[ht];exact ho,x⟩
  .have k1:(l[i].1.toList==n.toList)=false:=by rw[GQ,decide_eq_false hn]
   rw[if_neg hn]at ht
   have ldF:(aD 78 (.pointer (some ⟨b,off+i*2,none⟩))).run pg w'= .ok (.value (.agg #[.string l[i].1,.string ⟨l[i].2.toArray⟩])) w':=CH (l:=[.string l[i].1,.string ⟨l[i].2.toArray⟩]) rfl λj hj=>by
    match j,hj with
    |0,_=>rw[VZ];exact h1
    |1,_=>exact h2
   simp(disch:=omega)only[seval,d1,hin,h1,Jd,k1,ldF]
   refine sE (cells:= #[.string l[i].1,.string ⟨l[i].2.toArray⟩]) (by decide) (by decide) (by kernel_rfl) λw1 o1 x1 s1=> ?_
   have z:=x.size
   have ho1:=ho.ext x1 (λb _ h=>h)
   refine bL ho1 (m:=1) (news:=[.string l[i].1,.string ⟨l[i].2.toArray⟩]) ?_ (λy hy=> ?_) (by have:=x1.size;omega) ?_ λv3 w3 o3 x3=> ?_
   .exact ⟨_,_,rfl,rfl,λ_=>⟨_,0,rfl,λj hj=>by rw[o1.cell,Uw]⟩⟩
   .simp only[UD,U3,or_false]at hy
    rcases hy with rfl|rfl<;>rfl
   .have:(BF n (l.take i)).length<=l.length:=Vm (VR _ _) (by rw[US];omega)
    omega
   .simp (disch:=omega)only[seval,q1]
    refine⟨l.length-(i+1),by omega,i+1,rfl,by omega,v3,rfl, ?_,(x.seq x1).trans x3 λb hb h=>by omega⟩
    rw[ht,Iv,Uu,VS]
    exact o3
 .have d1:decide ((i:Int)<(l.length:Int))=false:=by simp;omega
  unfold uK
  simp(disch:=omega)only[seval,d1]
  rw[hRR]
  rw[UZ (by omega)]at ho
  exact⟨ho,x⟩
end Go.Proofs.Ytmhokapokchneaa
namespace Go.Proofs.Ytmhokapokchneaa
open Go Go.En Go.Pu
set_option maxRecDepth 4000
variable {Z : Nat -> Prop}
theorem CL.part {w:V2}{a:Option Addr}{c i j:Nat}{l:aX}(h:CL Z w (.slice a l.length c) l)(hij:i<=j)(hj:j<=l.length)(hc:l.length<=c):Cl w 2 (.slice (lF a c i 2) (j-i) (c-i)) ((l.drop i).take (j-i)).length (JS ((l.drop i).take (j-i))):=by
 have hln:((l.drop i).take (j-i)).length=j-i:=by rw[US,U8];omega
 obtain⟨⟨a',c',he,hl,hh⟩,_⟩:=h
 simp only[Value.slice.injEq]at he
 obtain⟨rfl,-,rfl⟩:=he
 rw[hln]
 refine⟨_,_,rfl,by rw[DV,hln],λh0=> ?_⟩
 obtain⟨b,off,rfl,h2⟩:=hh (by omega)
 have hs:lF (some ⟨b,off,none⟩) c i 2=some ⟨b,off+i*2,none⟩:=by
  unfold lF
  rw[if_neg (by omega)]
  simp[Addr.add]
 refine⟨b,off+i*2,hs,λx hx=> ?_⟩
 rw[DV,hln]at hx
 have hd:JS l=JS (l.take i)++JS ((l.drop i).take (j-i))++JS ((l.drop i).drop (j-i)):=by
  rw[<-Iv,<-Iv,Vk,Vg,Vg]
 have h3:=h2 (i*2+x) (by rw[DV];omega)
 have hti:(JS (l.take i)).length=i*2:=by rw[DV,US,VM (by omega)]
 rw[hd,UN (by rw[Uu,hti,DV,hln];omega),Vx (by omega),hti,Nat.add_sub_cancel_left]at h3
 rw[Vi]
 exact h3
theorem Oh{α:Type}{p:α->Bool}:∀{l:List α} {i:Nat},i<=l.length->(∀j (hj:j<l.length),j<i->p l[j]=true)->(∀hi:i<l.length,p l[i]=false)->l.takeWhile p=l.take i/\l.dropWhile p=l.drop i
 |[],i,_,_,_=>by simp
 |a::l,0,_,_,h=>by
  have h0:p a=false:=h (by simp)
  rw[List.takeWhile_cons,List.dropWhile_cons,if_neg (by rw[h0];decide),if_neg (by rw[h0];decide)]
  exact⟨rfl,rfl⟩
 |a::l,i+1,hi,h1,h2=>by
  have h0:p a=true:=h1 0 (by simp) (by omega)
  obtain⟨h3,h4⟩:=Oh (p:=p) (l:=l) (i:=i) (by simp at hi;omega) (λj hj hji=>by
   have:=h1 (j+1) (by simp;omega) (by omega)
   simpa using this) (λhh=>by
   have:=h2 (by simp;omega)
   simpa using this)
  rw[List.takeWhile_cons,List.dropWhile_cons,if_pos h0,if_pos h0,h3,h4]
  exact⟨rfl,rfl⟩
theorem GO(n:ByteArray)(l:aX):(BF n l).length<=l.length:=VR _ _
theorem Ob{v:V3}{l:aX}{n:ByteArray}{b:List UInt8}{w:V2}(h:CL Z w v l)(hl:l.length<=100000):
 aH pg sY #[v,.agg #[.string n,.string ⟨b.toArray⟩]] w (λr w'=>CL Z w' r (Pj n b l)/\aJ w w' bQ):=by
 refine Ik ?_
 obtain⟨RR,hRR⟩:∃RR:V3->V2->Prop,RR=λr w'=>CL Z w' r (Pj n b l)/\aJ w w' bQ:=⟨_,rfl⟩
 rw[<-hRR]
 unfold Jn EW EV
 refine jY λw1 o1 x1 s1=> ?_
 have o1:bD w1 w.heap.size [.string n,.string ⟨b.toArray⟩]:=o1
 obtain⟨fb,hfb⟩:∃fb,fb=w.heap.size:=⟨_,rfl⟩
 rw[<-hfb]at o1⊢
 have cf:∀{w'},aJ w1 w' bQ->w'.cell? ⟨fb,0,none⟩=some (.string n):=λx=>(o1.ext x (λh=>h)).cell (off:=0)
 have cf1:=cf (aJ.refl w1 bQ)
 simp(disch:=omega)only[seval,cf1]
 refine(Jt (h.new x1) (by omega)).mono ?_
 rintro r w2 ⟨ho,x2⟩
 have hlen:=GO n l
 obtain⟨l1,hl1⟩:∃l1,l1=BF n l:=⟨_,rfl⟩
 rw[<-hl1]at ho hlen
 have hZ:=h.2.2
 have hcl:CL Z w2 r l1:=⟨ho.cl,KI ho λb hb=>UQ (hZ b hb) x1.size,λb hb=>UQ (hZ b hb) (x1.seq x2).size⟩
 obtain⟨a,c,hr,hcap⟩:∃a c,r= .slice a l1.length c/\l1.length<=c:=by
  rcases ho.2 with⟨h1,h2⟩|⟨bb,c,rest,h1,_,_,_,h5⟩
  .exact ⟨none,0,by rw[h1,h2],by omega⟩
  .exact ⟨_,c,h1,h5⟩
 subst hr
 clear ho
 unfold A3 vM
 refine bG.rule (λm (t:V3) w'=>∃i:Nat,m=l1.length-i/\i<=l1.length/\t= .int .i64 (i:Nat)/\aJ w2 w' bQ/\∀j (hj:j<l1.length),j<i->fU l1[j].1 n=true) l1.length
  ⟨0,rfl,by omega,rfl,aJ.refl _ _,λj _ h=>by omega⟩ ?_
 rintro m t w3 ⟨i,rfl,hi,rfl,x3,hlt⟩
 have x3d:aJ w2 (dr w3) bQ:=x3.seq (aJ.dr _ _)
 have fin:(∀hi:i<l1.length,fU l1[i].1 n=false)->vL RR (.slice a l1.length c) (.pointer (some ⟨fb,0,none⟩)) (.int .i64 (i:Nat)) (dr w3):=λhge=>by
  obtain⟨ht,hd⟩:=Oh (p:=λp:ByteArray×List UInt8=>fU p.1 n) hi hlt hge
  unfold vL
  have hc3:=hcl.new x3d
  have hin:(i:Int).toNat=i:=UJ _
  have hpre:=hc3.part (i:=0) (j:=i) (by omega) hi hcap
  rw[List.drop_zero]at hpre
  have z1:i-0=i:=rfl
  rw[z1]at hpre
  simp(disch:=omega)only[seval,hin]
  have hn0:xE (dr w3) (dr w3).heap.size 2 (.slice none 0 0) 0 []:=xE.nil _ _ _
  have htl:(l1.take i).length=i:=by rw[US,VM hi]
  refine bL hn0 hpre (NX _) (UF _) (by omega) λv4 w4 o4 x4=> ?_
  rw[U2,Uw,htl]at o4
  have x24:aJ w2 w4 bQ:=x3d.trans x4 λy hy hh=>by have:=x3d.size;omega
  have x14:aJ w1 w4 bQ:=x2.seq x24
  have ldF:(aD 78 (.pointer (some ⟨fb,0,none⟩))).run pg w4= .ok (.value (.agg #[.string n,.string ⟨b.toArray⟩])) w4:=CG (off:=0) (o1.ext x14 (λh=>h)) (by simp)
  simp(disch:=omega)only[seval,ldF]
  refine sE (cells:= #[.string n,.string ⟨b.toArray⟩]) (by decide) (by decide) (by kernel_rfl) λw5 o5 x5 s5=> ?_
  have z4:=x4.size
  refine bL (o4.ext x5 (λ_ _ h=>h)) (m:=1) (news:=[.string n,.string ⟨b.toArray⟩]) ?_ (λy hy=> ?_) (by have:=x5.size;omega) (by omega) λv6 w6 o6 x6=> ?_
  .exact ⟨_,_,rfl,rfl,λ_=>⟨_,0,rfl,λj hj=>by rw[o5.cell,Uw]⟩⟩
  .simp only[UD,U3,or_false]at hy
   rcases hy with rfl|rfl<;>rfl
  have x26:aJ w2 w6 bQ:=(x24.seq x5).trans x6 λy hy hh=>by have:=x3d.size;omega
  have hsuf:=(hcl.new x26).part (i:=i) (j:=l1.length) hi (UF _) hcap
  rw[<-U8,UZ (UF _),U8]at hsuf
  try simp(disch:=omega)only[seval,hin]
  have hdl:(l1.drop i).length=l1.length-i:=U8
  refine bL o6 hsuf (NX _) (by have:=x5.size;have:=x6.size;omega) (by omega) λv7 w7 o7 x7=> ?_
  rw[hRR]
  have hfin:Pj n b l=l1.take i++(n,b)::l1.drop i:=by
   unfold Pj
   rw[<-hl1,ht,hd]
  have x07:aJ w w7 bQ:=(x1.seq x2).seq (x26.trans x7 λy hy hh=>by have:=x3d.size;omega)
  refine⟨⟨?_,KI o7 λb hb=>by have:=hZ b hb;have:=x1.size;have:=x2.size;have:=x3d.size;omega,λb hb=>UQ (hZ b hb) x07.size⟩,x07⟩
  rw[hfin]
  have:=o7.cl
  rw[Uu,UL,htl,Iv,show JS ((n,b)::l1.drop i)=[.string n,.string ⟨b.toArray⟩]++JS (l1.drop i)from rfl,<-Vk,show i+((l1.drop i).length+1)=i+1+(l1.drop i).length from by omega]
  first
   |exact this
   |(rw[U8];exact this)
 unfold A2
 by_cases hil:i<l1.length
 .have d1:decide ((i:Int)<(l1.length:Int))=true:=by simp;omega
  obtain⟨bb,off,c',he,h1,h2⟩:=(hcl.new x3d).at hil
  simp only[Value.slice.injEq]at he
  obtain⟨rfl,-,rfl⟩:=he
  have hin:(i:Int).toNat=i:=UJ _
  have q1:(i:Int)+1=((i+1:Nat):Int):=by omega
  have cf3:=cf (x2.seq x3d)
  cases hb:fU l1[i].1 n with
  |true=>
   have hq:∀j (hj:j<l1.length),j<i+1->fU l1[j].1 n=true:=λj hj hji=>by
    by_cases hj2:j=i
    .subst hj2;exact hb
    .exact hlt j hj (by omega)
   simp(disch:=omega)only[seval,d1,hin,h1,cf3,M5,hb,q1]
   exact⟨l1.length-(i+1),by omega,i+1,rfl,by omega,rfl,x3d,hq⟩
  |false=>
   have:=fin λ_=>hb
   simp(disch:=omega)only[seval,d1,hin,h1,cf3,M5,hb]
   exact this
 .have d1:decide ((i:Int)<(l1.length:Int))=false:=by simp;omega
  have:=fin λhh=>absurd hh hil
  simp(disch:=omega)only[seval,d1]
  exact this
end Go.Proofs.Ytmhokapokchneaa
namespace Go.Proofs.Ytmhokapokchneaa
open Go Go.En Go.Pu
set_option maxRecDepth 4000
set_option maxHeartbeats 1000000
variable {Z : Nat -> Prop}
abbrev Q2 (o:Ax):List V3:=[.int .i64 (o.kind:Nat),.string o.name,.string o.other,.int .i64 (o.at':Nat),.string ⟨o.bytes.toArray⟩]
def NU(Z:List UInt8)(a:Nat)(b:List UInt8)(i:Nat):List UInt8:=Z.take a++b.take i++Z.drop (a+i)
theorem Ql(Z:List UInt8)(a:Nat)(b:List UInt8):NU Z a b 0=Z:=by
 unfold NU
 rw[List.take_zero,VA,VZ,Vg]
theorem NV{Z:List UInt8}{a:Nat}{b:List UInt8}{i:Nat}(h:a+b.length<=Z.length)(hi:i<=b.length):(NU Z a b i).length=Z.length:=by
 unfold NU
 rw[Uu,Uu,US,US,U8];omega
theorem Qk{Z:List UInt8}{a:Nat}{b:List UInt8}{i:Nat}(h:a+b.length<=Z.length)(hi:i<b.length):(NU Z a b i).set (a+i) b[i]=NU Z a b (i+1):=by
 unfold NU
 have hl:(Z.take a++b.take i).length=a+i:=by rw[Uu,US,US];omega
 rw[List.set_append_right _ _ (by omega),hl,Nat.sub_self,Vb (by omega),UM,show b.take (i+1)=b.take i++[b[i]]from Vn hi]
 simp only[Vk,VP,U2,Vi]
theorem Rv{old:List UInt8}{a:Nat}{b:List UInt8}:NU (old++List.replicate (max old.length (a+b.length)-old.length) 0) a b b.length=over old a b:=by
 unfold NU over
 rw[UZ (UF _)]
theorem Qt{v:V3}{l:aX}{o:Ax}{w:V2}(h:CL Z w v l)(hl:l.length<=100000)(hk:o.kind<=2)(ha:o.at'<=1000000000)(hbl:o.bytes.length<=1000000000)(hf:∀b,bC o.name l=some b->b.length<=1000000000):
 aH pg rI #[v,.agg (Q2 o).toArray] w (λr w'=>CL Z w' r (Je o l)/\aJ w w' bQ):=by
 refine JR ?_
 obtain⟨RR,hRR⟩:∃RR:V3->V2->Prop,RR=λr w'=>CL Z w' r (Je o l)/\aJ w w' bQ:=⟨_,rfl⟩
 rw[<-hRR]
 unfold L6 GF GD
 refine jY λw1 o1 x1 s1=> ?_
 have o1:bD w1 w.heap.size (Q2 o):=o1
 obtain⟨ob,hob⟩:∃ob,ob=w.heap.size:=⟨_,rfl⟩
 rw[<-hob]at o1⊢
 have co:∀{w'},aJ w1 w' bQ->w'.cell? ⟨ob,0,none⟩=some (.int .i64 (o.kind:Nat))/\w'.cell? ⟨ob,1,none⟩=some (.string o.name)/\w'.cell? ⟨ob,2,none⟩=some (.string o.other)/\w'.cell? ⟨ob,3,none⟩=some (.int .i64 (o.at':Nat))/\w'.cell? ⟨ob,4,none⟩=some (.string ⟨o.bytes.toArray⟩):=λx=>
  ⟨(o1.ext x (λh=>h)).cell (off:=0),(o1.ext x (λh=>h)).cell (off:=1),(o1.ext x (λh=>h)).cell (off:=2),(o1.ext x (λh=>h)).cell (off:=3),(o1.ext x (λh=>h)).cell (off:=4)⟩
 obtain⟨c0,c1,c2,c3,c4⟩:=co (aJ.refl w1 bQ)
 simp(disch:=omega)only[seval,c1,Uw]
 refine(GG (h.new x1) (by omega)).mono ?_
 rintro r w2 ⟨hw,hr⟩
 rw[hw];clear hw w2
 have go:∀(i:Int) (ov:List UInt8),ov=(bC o.name l).getD []->(i<0↔bC o.name l=none)->(-1<=i/\i<=1000000)->xM RR v (.pointer (some ⟨ob,0,none⟩)) (.int .i64 i) (.string ⟨ov.toArray⟩) w1:=by
  intro i ov hov hi hib
  unfold xM BX GC BW
  by_cases hk0:o.kind=0
  .have d1:(((o.kind:Nat):Int)==0)=true:=by rw[hk0]<;>rfl
   unfold GA Gz
   simp(disch:=omega)only[seval,c0,d1,Uw]
   refine Fq λw3 cc hs x3 s3 hown=> ?_
   obtain⟨rr,hown,hcc⟩:=hown
   have hsz:(⟨ov.toArray⟩:ByteArray).size=ov.length:=by simp[ByteArray.size]
   have hdt:(⟨ov.toArray⟩:ByteArray).data.toList=ov:=by simp
   rw[hdt]at hown
   rw[hsz]at hcc⊢
   have hos:xE w3 w1.heap.size 1 (.slice (some ⟨w1.heap.size,0,none⟩) ov.length cc) (ov.length+0) ((ov++List.replicate 0 0).map xF):=by
    refine⟨by simp,.inr ⟨_,cc,List.replicate rr (.int .u8 0),rfl,UF _, ?_, ?_,by omega⟩⟩
    .rw [List.replicate_zero,VA];exact hown
    .simp;omega
   have hovl:ov.length<=1000000000:=by
    rw[hov]
    cases hg:bC o.name l with
    |none=>simp
    |some b=>exact hf b hg
   obtain⟨N,hN⟩:∃N,N=max ov.length (o.at'+o.bytes.length):=⟨_,rfl⟩
   have hbsz:(⟨o.bytes.toArray⟩:ByteArray).size=o.bytes.length:=by simp[ByteArray.size]
   unfold BV xL
   refine bG.rule (λm (t:V3) w'=>∃k:Nat,m=N-(ov.length+k)/\ov.length+k<=N/\xE w' w1.heap.size 1 t (ov.length+k) ((ov++List.replicate k 0).map xF)/\aJ w1 w' bQ) (N-(ov.length+0))
    ⟨0,rfl,by omega,hos,x3⟩ ?_
   rintro m t w4 ⟨kz,rfl,hkz,ho4,x4⟩
   obtain⟨ta,tc,htv⟩:=ho4.len
   subst htv
   obtain⟨f0,f1,f2,f3,f4⟩:=co x4
   have q1:((o.at':Nat):Int)+((o.bytes.length:Nat):Int)=((o.at'+o.bytes.length:Nat):Int):=by omega
   have z14:=x4.size
   unfold BU
   by_cases hlt:ov.length+kz<o.at'+o.bytes.length
   .have d2:decide (((ov.length+kz:Nat):Int)<((o.at'+o.bytes.length:Nat):Int))=true:=by simp only[decide_eq_true_eq];omega
    simp(disch:=omega)only[seval,f3,f4,hbsz,q1,d2,Uw]
    refine HB (cells:= #[.int .u8 0]) (by decide) (by decide) (by kernel_rfl) λw5 o5 x5 s5=> ?_
    refine vU (ho4.ext x5 (λ_ _ h=>h)) (m:=1) (news:=[.int .u8 0]) ?_ (λy hy=> ?_) (by have:=x5.size;omega) (by omega) λv6 w6 o6 x6=> ?_
    .exact ⟨_,_,rfl,rfl,λ_=>⟨_,0,rfl,λj hj=>by rw[o5.cell,Uw]⟩⟩
    .rw [VD]at hy;rw[hy]<;>rfl
    refine⟨N-(ov.length+(kz+1)),by omega,kz+1,rfl,by omega, ?_,(x4.seq x5).trans x6 λy hy hh=>by omega⟩
    rw[List.replicate_succ',<-Vk,Vl,<-Vi]
    exact o6
   have d2:decide (((ov.length+kz:Nat):Int)<((o.at'+o.bytes.length:Nat):Int))=false:=by simp only[decide_eq_false_iff_not];omega
   have hNk:ov.length+kz=N:=by omega
   obtain⟨Z,hZ⟩:∃Z,Z=ov++List.replicate kz (0:UInt8):=⟨_,rfl⟩
   have hZl:Z.length=N:=by rw[hZ,Uu,Vf];omega
   rw[<-hZ,hNk]at ho4
   rw[hNk]at d2⊢
   simp(disch:=omega)only[seval,f3,f4,hbsz,q1,d2,Uw]
   unfold BT DA HP Ar
   refine bG.rule (λm (t:V3) w'=>∃k:Nat,m=o.bytes.length-k/\k<=o.bytes.length/\t= .int .i64 (k:Nat)/\xE w' w1.heap.size 1 (.slice ta N tc) N ((NU Z o.at' o.bytes k).map xF)/\aJ w1 w' bQ) o.bytes.length
    ⟨0,rfl,by omega,rfl,by rw[Ql];exact ho4,x4⟩ ?_
   clear ho4 x4 f0 f1 f2 f3 f4 hos hown hs x3 s3 z14
   rintro m t w4 ⟨k,rfl,hkb,rfl,ho4,x4⟩
   obtain⟨f0,f1,f2,f3,f4⟩:=co x4
   have x4d:aJ w1 (dr w4) bQ:=x4.seq (aJ.dr _ _)
   obtain⟨g0,g1,g2,g3,g4⟩:=co x4d
   unfold Dz
   by_cases hkl:k<o.bytes.length
   .have d3:decide ((k:Int)<((o.bytes.length:Nat):Int))=true:=by simp;omega
    have q2:((o.at':Nat):Int)+(k:Int)=((o.at'+k:Nat):Int):=by omega
    have q3:(k:Int)+1=((k+1:Nat):Int):=by omega
    have hkn:(k:Int).toNat=k:=UJ _
    have han:((o.at'+k:Nat):Int).toNat=o.at'+k:=UJ _
    have hix:=λw=>G7 (k:= .i64) (a:=(k:Int)) ⟨o.bytes.toArray⟩ w (by omega) (by rw[hkn,hbsz];exact hkl)
    have hel:((⟨o.bytes.toArray⟩:ByteArray)[(k:Int).toNat]'(by rw[hkn];show k<ByteArray.size _;rw[hbsz];exact hkl))=o.bytes[k]:=by
     simp only[hkn];rfl
    obtain⟨hbl2,hcs⟩:=ho4
    rcases hcs with⟨_,hN0⟩|⟨bb,c',rest,he,hbb,hown,hcl,hnc⟩
    .omega
    simp only[Value.slice.injEq]at he
    obtain⟨rfl,-,rfl⟩:=he
    have hownd:=aP hown
    have hol:=NV (Z:=Z) (a:=o.at') (b:=o.bytes) (i:=k) (by omega) hkb
    simp(disch:=omega)only[seval,f4,hbsz,d3,g3,g4,q2,hix,hel,han,Uw]
    refine QH hownd rfl (by rw[Uu,UA];omega) λw5 o5 x5 s5=> ?_
    have hset:((NU Z o.at' o.bytes k).map xF++rest).set (o.at'+k) (.int .u8 ((o.bytes[k]).toNat:Nat))=(NU Z o.at' o.bytes (k+1)).map xF++rest:=by
     rw[VY _ _ (by rw[UA];omega),<-Qk (by omega) hkl,List.map_set]
     rfl
    have o5:bD w5 bb (((NU Z o.at' o.bytes k).map xF++rest).set (o.at'+k) (.int .u8 ((o.bytes[k]).toNat:Nat))):=o5
    rw[hset]at o5
    have hol2:=NV (Z:=Z) (a:=o.at') (b:=o.bytes) (i:=k+1) (by omega) hkl
    simp(disch:=omega)only[seval,q3]
    refine⟨o.bytes.length-(k+1),by omega,k+1,rfl,by omega,rfl,⟨by rw[UA];omega,.inr ⟨bb,_,rest,rfl,hbb,o5, ?_,hnc⟩⟩,x4d.trans x5 λy hy hh=>by omega⟩
    rw[<-hcl,Uu,Uu,UA,UA,hol,hol2]
   .have d3:decide ((k:Int)<((o.bytes.length:Nat):Int))=false:=by simp;omega
    have hkk:k=o.bytes.length:=by omega
    subst hkk
    have hfin:NU Z o.at' o.bytes o.bytes.length=over ov o.at' o.bytes:=by
     rw[hZ,show kz=max ov.length (o.at'+o.bytes.length)-ov.length from by omega]
     exact Rv
    rw[hfin]at ho4
    have hbs:Bs w4 (.slice ta N tc) (over ov o.at' o.bytes):=ho4.sl
    have hcv:=kG hbs
    unfold Dy
    simp(disch:=omega)only[seval,f4,hbsz,d3,f1,hcv,Uw]
    refine(Ob (h.new (x1.seq x4)) (by omega)).mono ?_
    rintro r w5 ⟨hr5,x5⟩
    rw[hRR]
    refine⟨?_,(x1.seq x4).seq x5⟩
    unfold Je
    rw[if_pos hk0,<-hov]
    exact hr5
  .have d1:(((o.kind:Nat):Int)==0)=false:=by rw[beq_eq_false_iff_ne];omega
   unfold GB Dx HO
   cases hg:bC o.name l with
   |none=>
    have d2:decide (i<0)=true:=by simp[hi.2 hg]
    simp(disch:=omega)only[seval,c0,d1,Uw,d2]
    rw[hRR]
    refine⟨?_,x1⟩
    unfold Je
    rw[if_neg hk0,hg]
    exact h.new x1
   |some old=>
    have d2:decide (i<0)=false:=by
     rw[decide_eq_false_iff_not]
     intro hh
     rw[hi.1 hh]at hg
     cases hg
    rw[hg,Vo]at hov
    subst hov
    simp(disch:=omega)only[seval,c0,d1,c1,Uw,d2]
    refine(Jt (h.new x1) (by omega)).mono ?_
    rintro r w3 ⟨ho,x3⟩
    have hfl:CL Z w3 r (BF o.name l):=⟨ho.cl,KI ho λb hb=>UQ (h.2.2 b hb) x1.size,λb hb=>UQ (h.2.2 b hb) (x1.seq x3).size⟩
    obtain⟨e0,e1,e2,e3,e4⟩:=co x3
    have hlen:=GO o.name l
    unfold Dw
    by_cases hk1:o.kind=1
    .have d3:(((o.kind:Nat):Int)==1)=true:=by rw[hk1]<;>rfl
     simp(disch:=omega)only[seval,e0,d3,e2,Uw]
     refine(Ob hfl (by omega)).mono ?_
     rintro r w4 ⟨hr4,x4⟩
     rw[hRR]
     refine⟨?_,(x1.seq x3).seq x4⟩
     unfold Je
     rw[if_neg hk0,hg]
     simp only[hk1,if_true]
     exact hr4
    .have d3:(((o.kind:Nat):Int)==1)=false:=by rw[beq_eq_false_iff_ne];omega
     simp(disch:=omega)only[seval,e0,d3,Uw]
     rw[hRR]
     refine⟨?_,x1.seq x3⟩
     unfold Je
     rw[if_neg hk0,hg]
     simp only[hk1,if_false]
     exact hfl
 rcases hr with⟨hg,rfl⟩|⟨i,hi,hg,hn,rfl⟩
 .have d1:decide ((0:Int)<=(-1:Int))=false:=by decide
  have:=go (-1) [] (by rw[hg]<;>rfl) ⟨λ_=>hg,λ_=>by decide⟩ (by decide)
  simp(disch:=omega)only[seval,d1]
  exact this
 .have d1:decide ((0:Int)<=((i:Nat):Int))=true:=by simp
  obtain⟨bb,off,c',rfl,h1,h2⟩:=(h.new x1).at hi
  have hin:(i:Int).toNat=i:=UJ _
  have:=go i l[i].2 (by rw[hg]<;>rfl) ⟨λhh=>by omega,λhh=>by rw[hg]at hh;cases hh⟩ (by omega)
  simp(disch:=omega)only[seval,d1,hin,h2]
  exact this
structure tO where
 room:Int
 sure:aX
 way:List Ax
 left:Int
 down:Bool
def cI(D:tO):aX:=D.way.foldl (λl o=>Je o l) D.sure
abbrev Im(l:List Ax):List V3:=l.flatMap Q2
abbrev sO(D:tO)(sv wv:V3):List V3:=[.int .i64 D.room,sv,wv,.int .i64 D.left,.bool D.down]
structure BE(Z:Nat->Prop)(w:V2)(D:tO)(sv wv:V3):Prop where
 sure:CL Z w sv D.sure
 way:Cl w 5 wv D.way.length (Im D.way)
 wz:¬Ci wv Z
def FB(l:aX):Prop:=∀n b,bC n l=some b->b.length<=1000000000
structure Ot(D:tO):Prop where
 fs:FB D.sure
 ops:∀o∈D.way,o.kind<=2/\o.at'+o.bytes.length<=1000000000
 len:D.sure.length+D.way.length<=50000
theorem BE.new {w w':V2}{D:tO}{sv wv:V3}(h:BE Z w D sv wv)(x:aJ w w' bQ):BE Z w' D sv wv:=⟨h.sure.new x,HC h.way x (jV _),h.wz⟩
theorem Qu{o:Ax}{l:aX}(h:FB l)(ho:o.at'+o.bytes.length<=1000000000):FB (Je o l):=by
 intro n b hb
 unfold Je at hb
 split at hb
 .rw [Gi]at hb
  split at hb
  .cases hb
   rw[sG]
   have:((bC o.name l).getD []).length<=1000000000:=by
    cases hg:bC o.name l with
    |none=>simp
    |some c=>exact h _ _ hg
   omega
  .exact h _ _ hb
 .split at hb
  .exact h _ _ hb
  .rename_i old hg
   split at hb
   .rw [Gi]at hb
    split at hb
    .cases hb;exact h _ _ hg
    .rw [Df]at hb
     split at hb
     .cases hb
     .exact h _ _ hb
   .rw [Df]at hb
    split at hb
    .cases hb
    .exact h _ _ hb
theorem NZ{n:ByteArray}{b:List UInt8}{l:aX}:(Pj n b l).length<=l.length+1:=by
 have h1:=GO n l
 have h2:(BF n l).length=((BF n l).takeWhile (λp=>fU p.1 n)++(BF n l).dropWhile (λp=>fU p.1 n)).length:=by rw[List.takeWhile_append_dropWhile]
 rw[Uu]at h2
 unfold Pj
 rw[Uu,UL];omega
theorem KO{o:Ax}{l:aX}:(Je o l).length<=l.length+1:=by
 unfold Je
 split
 .exact NZ
 .split
  .omega
  .split
   .have:=NZ (n:=o.other) (b:=‹List UInt8›) (l:=BF o.name l)
    have:=GO o.name l
    omega
   .have:=GO o.name l
    omega
theorem DN:∀(ops:List Ax) {l:aX},FB l->(∀o∈ops,o.kind<=2/\o.at'+o.bytes.length<=1000000000)->FB (ops.foldl (λl o=>Je o l) l)/\(ops.foldl (λl o=>Je o l) l).length<=l.length+ops.length
 |[],l,h,_=>⟨h,UF _⟩
 |o::ops,l,h,ho=>by
  have h1:=Qu h (ho o UP).2
  obtain⟨h2,h3⟩:=DN ops h1 λx hx=>ho x (UC _ hx)
  refine⟨h2,Vm h3 ?_⟩
  have:=KO (o:=o) (l:=l)
  rw[UL];omega
theorem QQ(l:List Ax):(Im l).length=l.length*5:=by
 induction l with
 |nil=>rfl
 |cons p r ih=>simp only[Im,Vw,Uu,UL,VC]at ih⊢;omega
theorem Iy:∀{l:List Ax} {i j:Nat} (hi:i<l.length),j<5->(Im l)[i*5+j]?=(Q2 l[i])[j]?
 |p::r,0,j,_,hj=>by
  show(Q2 p++Im r)[0*5+j]?=_
  rw[UN (by simpa using hj),V1,Uw]
  rfl
 |p::r,i+1,j,hi,hj=>by
  have h:=Iy (l:=r) (i:=i) (j:=j) (by simp at hi;omega) hj
  show(Q2 p++Im r)[(i+1)*5+j]?=_
  rw[Vx (by simp;omega),show(i+1)*5+j-(Q2 p).length=i*5+j from by simp;omega]
  exact h
theorem BE.op {w:V2}{D:tO}{sv wv:V3}(h:BE Z w D sv wv){i:Nat}(hi:i<D.way.length):∃a off c,wv= .slice (some ⟨a,off,none⟩) D.way.length c/\(aD 71 (.pointer (some ⟨a,off+i*5,none⟩))).run pg w= .ok (.value (.agg (Q2 D.way[i]).toArray)) w:=by
 obtain⟨a,c,hv,hl,hh⟩:=h.way
 obtain⟨b,off,rfl,h2⟩:=hh (by omega)
 refine⟨b,off,c,hv,CI (l:=Q2 D.way[i]) rfl λj hj=> ?_⟩
 have hj:j<5:=hj
 rw[Vi,h2 _ (by rw[QQ];omega),Iy hi hj]
theorem DW{D:tO}{sv wv:V3}{w:V2}(h:BE Z w D sv wv)(hB:Ot D):
 aH pg nR #[.agg (sO D sv wv).toArray] w (λr w'=>CL Z w' r (cI D)/\aJ w w' bQ):=by
 refine Ih ?_
 obtain⟨RR,hRR⟩:∃RR:V3->V2->Prop,RR=λr w'=>CL Z w' r (cI D)/\aJ w w' bQ:=⟨_,rfl⟩
 rw[<-hRR]
 unfold Jk EP EO
 refine jY λw1 o1 x1 s1=> ?_
 obtain⟨db,hdb⟩:∃db,db=w.heap.size:=⟨_,rfl⟩
 obtain⟨sa,sc,hsv⟩:=h.sure.len
 obtain⟨wa,wc,hwv,_⟩:=h.way
 have o1:bD w1 w.heap.size (sO D sv wv):=by
  have:(Value.agg (sO D sv wv).toArray).cells.toList=sO D sv wv:=by
   subst hsv;subst hwv;rfl
  rw[this]at o1
  exact o1
 rw[<-hdb]at o1⊢
 have cd:∀{w'},aJ w1 w' bQ->w'.cell? ⟨db,1,none⟩=some sv/\w'.cell? ⟨db,2,none⟩=some wv:=λx=>
  ⟨(o1.ext x (λh=>h)).cell (off:=1),(o1.ext x (λh=>h)).cell (off:=2)⟩
 obtain⟨c1,c2⟩:=cd (aJ.refl w1 bQ)
 have hn:=hB.len
 simp(disch:=omega)only[seval,c1,Uw]
 unfold AY AX EN vJ
 refine bG.rule (λm (t:V3×V3) w'=>∃(i:Nat) (lv:V3),m=D.way.length-i/\i<=D.way.length/\t=(lv,.int .i64 (i:Nat))/\CL Z w' lv ((D.way.take i).foldl (λl o=>Je o l) D.sure)/\aJ w1 w' bQ) D.way.length
  ⟨0,sv,rfl,by omega,rfl,h.sure.new x1,aJ.refl _ _⟩ ?_
 rintro m t w2 ⟨i,lv,rfl,hi,rfl,hlv,x2⟩
 obtain⟨d1,d2⟩:=cd x2
 have d2':=d2
 rw[hwv]at d2'
 unfold AW
 by_cases hlt:i<D.way.length
 .have k1:decide ((i:Int)<(D.way.length:Int))=true:=by simp;omega
  obtain⟨a,off,c',he,hld⟩:=(h.new (x1.seq x2)).op hlt
  rw[he]at d2
  have hin:(i:Int).toNat=i:=UJ _
  have q1:(i:Int)+1=((i+1:Nat):Int):=by omega
  have hops:=hB.ops _ (Vz hlt)
  obtain⟨hfb,hfl⟩:=DN (D.way.take i) hB.fs (λo ho=>hB.ops o (VW ho))
  rw[US]at hfl
  simp(disch:=omega)only[seval,d2,k1,hin,hld,Uw]
  refine(Qt hlv (by omega) hops.1 (by omega) (by omega) (λb hb=>hfb _ _ hb)).mono ?_
  rintro r w3 ⟨hr,x3⟩
  simp(disch:=omega)only[seval,q1]
  refine⟨D.way.length-(i+1),by omega,i+1,r,rfl,by omega,rfl, ?_,x2.seq x3⟩
  rw[Vn hlt,List.foldl_append]
  exact hr
 .have k1:decide ((i:Int)<(D.way.length:Int))=false:=by simp;omega
  unfold AV
  simp(disch:=omega)only[seval,d2',k1,Uw]
  rw[hRR]
  rw[UZ (by omega)]at hlv
  exact⟨hlv,x1.seq x2⟩
theorem uI{w:V2}{D:tO}{sv wv:V3}(h:BE Z w D sv wv):(Value.agg (sO D sv wv).toArray).cells.toList=sO D sv wv:=by
 obtain⟨sa,sc,hsv⟩:=h.sure.len
 obtain⟨wa,wc,hwv,_⟩:=h.way
 subst hsv;subst hwv;rfl
theorem xK{w:V2}{D:tO}{sv wv:V3}(h:BE Z w D sv wv):∀x∈sO D sv wv,one x=true:=by
 obtain⟨sa,sc,hsv⟩:=h.sure.len
 obtain⟨wa,wc,hwv,_⟩:=h.way
 subst hsv;subst hwv
 intro x hx
 simp only[UD,U3,or_false]at hx
 rcases hx with rfl|rfl|rfl|rfl|rfl<;>rfl
def GH(D:tO)(n:ByteArray):List UInt8×Int:=if D.down then([],20)else match bC n (cI D)with
 |none=>([],21)
 |some b=>(b,0)
theorem RG{D:tO}{sv wv:V3}{n:ByteArray}{w:V2}(h:BE Z w D sv wv)(hB:Ot D):
 aH pg sW #[.agg (sO D sv wv).toArray,.string n] w (λr w'=>r= .tuple #[.string ⟨(GH D n).1.toArray⟩,.int .i64 (GH D n).2]/\aJ w w' bQ):=by
 refine Ig ?_
 obtain⟨RR,hRR⟩:∃RR:V3->V2->Prop,RR=λr w'=>r= .tuple #[.string ⟨(GH D n).1.toArray⟩,.int .i64 (GH D n).2]/\aJ w w' bQ:=⟨_,rfl⟩
 rw[<-hRR]
 unfold Jj EM
 refine jY λw1 o1 x1 s1=> ?_
 rw[uI h]at o1
 obtain⟨db,hdb⟩:∃db,db=w.heap.size:=⟨_,rfl⟩
 rw[<-hdb]at o1⊢
 have c4:w1.cell? ⟨db,4,none⟩=some (.bool D.down):=o1.cell (off:=4)
 cases hd:D.down with
 |true=>
  rw[hd]at c4
  simp(disch:=omega)only[seval,c4,Uw]
  rw[hRR]
  refine⟨?_,x1⟩
  unfold GH
  rw[if_pos hd]
 |false=>
  rw[hd]at c4
  have ld:(aD 41 (.pointer (some ⟨db,0,none⟩))).run pg w1= .ok (.value (.agg (sO D sv wv).toArray)) w1:=cB (off:=0) o1 (by simp)
  simp(disch:=omega)only[seval,c4,ld,Uw]
  refine(DW (h.new x1) hB).mono ?_
  rintro r w2 ⟨hr,x2⟩
  obtain⟨hfb,hfl⟩:=DN D.way hB.fs hB.ops
  have hl:(cI D).length<=1000000:=by have:=hB.len;unfold cI;omega
  refine(GG hr hl).mono ?_
  rintro r2 w3 ⟨hw,hr2⟩
  rw[hw];clear hw w3
  rcases hr2 with⟨hg,rfl⟩|⟨i,hi,hg,hn,rfl⟩
  .have d1:decide ((-1:Int)<0)=true:=by decide
   simp(disch:=omega)only[seval,d1]
   rw[hRR]
   refine⟨?_,x1.seq x2⟩
   unfold GH
   rw[if_neg (by rw[hd];decide),hg]
  .have d1:decide (((i:Nat):Int)<0)=false:=by simp
   obtain⟨bb,off,c',rfl,h1,h2⟩:=hr.at hi
   have hin:(i:Int).toNat=i:=UJ _
   simp(disch:=omega)only[seval,d1,hin,h2]
   rw[hRR]
   refine⟨?_,x1.seq x2⟩
   unfold GH
   rw[if_neg (by rw[hd];decide),hg]
def fZ(D:tO):tO×Bool:=if D.left=0 then({D with down:=true},true)else({D with left:=sF D.left},false)
theorem Md{D:tO}{sv wv:V3}{w:V2}(h:BE Z w D sv wv)(hl: -1<=D.left/\D.left<=9223372036854775807):
 aH pg qP #[.agg (sO D sv wv).toArray] w (λr w'=>r= .tuple #[.agg (sO (fZ D).1 sv wv).toArray,.bool (fZ D).2]/\aJ w w' bQ):=by
 refine Hp ?_
 obtain⟨RR,hRR⟩:∃RR:V3->V2->Prop,RR=λr w'=>r= .tuple #[.agg (sO (fZ D).1 sv wv).toArray,.bool (fZ D).2]/\aJ w w' bQ:=⟨_,rfl⟩
 rw[<-hRR]
 unfold HQ DD DC
 refine jY λw1 o1 x1 s1=> ?_
 rw[uI h]at o1
 obtain⟨db,hdb⟩:∃db,db=w.heap.size:=⟨_,rfl⟩
 rw[<-hdb]at o1⊢
 refine bX λw2 o2 x2 s2=> ?_
 obtain⟨rb,hrb⟩:∃rb,rb=w1.heap.size:=⟨_,rfl⟩
 rw[<-hrb]at o2⊢
 have o1:=o1.ext x2 (λh=>h)
 have hne:db≠rb:=by omega
 have c3:w2.cell? ⟨db,3,none⟩=some (.int .i64 D.left):=o1.cell (off:=3)
 have h1:=xK h
 have fin:∀(D':tO) (w3:V2) (K:V3->V2->Prop),bD w3 db (sO D' sv wv)->bD w3 rb [.int .i64 0,.slice none 0 0,.slice none 0 0,.int .i64 0,.bool false]->aJ w w3 bQ->(∀w4,aJ w w4 bQ->K (.agg (sO D' sv wv).toArray) w4)→
     aB pg (aD 41 (.pointer (some ⟨db,0,none⟩))) w3 λt w=>aB pg (aO 41 (.pointer (some ⟨rb,0,none⟩)) t) w λ_u w=>HW pg 41 (.pointer (some ⟨rb,0,none⟩)) w λr0=>K r0 w:=by
  intro D' w3 K oa ob x3 hK
  have ld:(aD 41 (.pointer (some ⟨db,0,none⟩))).run pg w3= .ok (.value (.agg (sO D' sv wv).toArray)) w3:=cB (off:=0) oa (by simp)
  have h1':∀x∈sO D' sv wv,one x=true:=by
   obtain⟨sa,sc,hsv⟩:=h.sure.len
   obtain⟨wa,wc,hwv,_⟩:=h.way
   subst hsv;subst hwv
   intro x hx
   simp only[UD,U3,or_false]at hx
   rcases hx with rfl|rfl|rfl|rfl|rfl<;>rfl
  simp(disch:=omega)only[seval,ld]
  refine iN ob rfl (by simpa using h1') (by simp) λw4 o4 x4 s4=> ?_
  refine iM o4 (by simp[mW]) ?_
  exact hK w4 (x3.trans x4 λy hy hh=>by have:=x1.size;omega)
 have x02:aJ w w2 bQ:=x1.seq x2
 by_cases h0:D.left=0
 .have d1:(D.left==0)=true:=by rw[h0]<;>rfl
  simp(disch:=omega)only[seval,c3,d1,Uw]
  refine Iw o1 rfl (by simp) λw3 o3 x3 s3=> ?_
  have o3:bD w3 db (sO {D with down:=true} sv wv):=o3
  refine fin _ w3 (λr0 w=>RR (.tuple #[r0,.bool true]) w) o3 (o2.ext x3 (λhh=>hne hh.symm)) (x02.trans x3 λy hy hh=>by omega) λw4 x4=> ?_
  rw[hRR]
  refine⟨?_,x4⟩
  unfold fZ
  rw[if_pos h0]
 .have d1:(D.left==0)=false:=beq_eq_false_iff_ne.2 h0
  have hst:fZ D=({D with left:=sF D.left},false):=by unfold fZ;rw[if_neg h0]
  unfold zE
  by_cases hp:0<D.left
  .have d2:decide ((0:Int)<D.left)=true:=by simpa using hp
   have q1:D.left-1=sF D.left:=by unfold sF;rw[if_pos hp]
   simp(disch:=omega)only[seval,c3,d1,d2,q1,Uw]
   refine DH o1 rfl (by simp) λw3 o3 x3 s3=> ?_
   have o3:bD w3 db (sO {D with left:=sF D.left} sv wv):=by
    first|exact o3|(rw[<-q1];exact o3)
   refine fin _ w3 (λr0 w=>RR (.tuple #[r0,.bool false]) w) o3 (o2.ext x3 (λhh=>hne hh.symm)) (x02.trans x3 λy hy hh=>by omega) λw4 x4=> ?_
   rw[hRR,hst]
   exact⟨rfl,x4⟩
  .have d2:decide ((0:Int)<D.left)=false:=by simpa using hp
   simp(disch:=omega)only[seval,c3,d1,d2,Uw]
   have q1:sF D.left=D.left:=by unfold sF;rw[if_neg hp]
   refine fin D w2 (λr0 w=>RR (.tuple #[r0,.bool false]) w) o1 o2 x02 λw4 x4=> ?_
   rw[hRR,hst,q1]
   exact⟨rfl,x4⟩
end Go.Proofs.Ytmhokapokchneaa
namespace Go.Proofs.Ytmhokapokchneaa
open Go Go.En Go.Pu
set_option maxRecDepth 4000
set_option maxHeartbeats 4000000
variable {Z : Nat -> Prop}
abbrev Mx(k:Nat)(n m:ByteArray)(a:Int)(b:List UInt8):List V3:=[.int .i64 (k:Nat),.string n,.string m,.int .i64 a,.string ⟨b.toArray⟩]
def nZ(D:tO)(k:Nat)(n m:ByteArray)(a:Int)(b:List UInt8):Int:=
 if D.down then 20 else if(k=1/\sN m=false)∨(k=0/\a<0)∨(k<2/\sN n=false)then 1
 else if 0<k then(if bC n (cI D)=none then 21 else 0)
 else if(((bC n (cI D)).getD []).length:Int)<a then 17
 else if D.room<(bF (Je ⟨0,n,m,a.toNat,b⟩ (cI D)):Nat)then 22 else 0
theorem Of(n:ByteArray):(n.toList==(⟨#[]⟩:ByteArray).toList)=decide (n.size=0):=by
 rw[GQ]
 by_cases h:n.size=0
 .rw [decide_eq_true h]
  refine decide_eq_true ?_
  cases n with
  |mk d=>
   have:d.size=0:=h
   rw[Array.eq_empty_of_size_eq_zero this]
 .rw [decide_eq_false h]
  refine decide_eq_false λe=>h ?_
  rw[e]<;>rfl
theorem Kc(n:ByteArray):sN n= !(decide (n.size=0)||decide ((32:Int)<(n.size:Int))):=by
 unfold sN
 by_cases h:n.size=0
 .rw [decide_eq_true h,decide_eq_false (by omega)]<;>rfl
 .by_cases h2:n.size<=32
  .rw [decide_eq_false h,decide_eq_true (by omega),decide_eq_false (by omega)]<;>rfl
  .rw [decide_eq_false h,decide_eq_false (by omega),decide_eq_true (by omega)]<;>rfl
theorem MN{l:aX}{i:Nat}(hi:i<l.length):bF (l.take (i+1))=bF (l.take i)+l[i].2.length:=by
 unfold bF
 rw[Vn hi,Vl,List.sum_append]
 simp
theorem EA(l:aX)(i:Nat):bF (l.take i)<=bF l:=by
 have:bF l=bF (l.take i)+bF (l.drop i):=by
  unfold bF
  rw[<-List.sum_append,<-Vl,Vg]
 omega
theorem OU{D:tO}{sv wv lv:V3}{l:aX}{db:Nat}{w:V2}{RR:K1}(o:bD w db (sO D sv wv))(h:CL Z w lv l)(hl:l.length<=100000)(hz:bF l<=1000000000000)
 (hR:RR (.int .i64 (if D.room<(bF l:Nat)then 22 else 0)) w):qS RR (.pointer (some ⟨db,0,none⟩)) lv (.int .i64 0) w:=by
 obtain⟨a,c,hv⟩:=h.len
 unfold qS A1 ES vK
 refine bG.rule (λm (t:V3×V3) w'=>∃i:Nat,m=l.length-i/\i<=l.length/\t=(.int .i64 (bF (l.take i):Nat),.int .i64 (i:Nat))/\w'=w) l.length
  ⟨0,rfl,by omega,rfl,rfl⟩ ?_
 rintro m t w' ⟨i,rfl,hi,rfl,rfl⟩
 subst hv
 have hsz:=EA l i
 unfold A0
 by_cases hlt:i<l.length
 .have d1:decide ((i:Int)<(l.length:Int))=true:=by simp;omega
  obtain⟨b,off,c',he,h1,h2⟩:=h.at hlt
  simp only[Value.slice.injEq]at he
  obtain⟨rfl,-,rfl⟩:=he
  have hin:(i:Int).toNat=i:=UJ _
  have q1:(i:Int)+1=((i+1:Nat):Int):=by omega
  have hsb:(⟨l[i].2.toArray⟩:ByteArray).size=l[i].2.length:=by simp[ByteArray.size]
  have ht:=MN hlt
  have hle:=EA l (i+1)
  have q2:((bF (l.take i):Nat):Int)+((l[i].2.length:Nat):Int)=((bF (l.take (i+1)):Nat):Int):=by omega
  simp(disch:=omega)only[seval,d1,hin,h2,hsb,q1,q2]
  first
   |exact⟨l.length-(i+1),by omega,i+1,rfl,by omega,rfl,rfl⟩
   |exact⟨l.length-(i+1),by omega,i+1,rfl,by omega,rfl⟩
 .have d1:decide ((i:Int)<(l.length:Int))=false:=by simp;omega
  have c0:w'.cell? ⟨db,0,none⟩=some (.int .i64 D.room):=o.cell (off:=0)
  unfold AZ
  rw[UZ (by omega)]
  by_cases hr:D.room<((bF l:Nat):Int)
  .have d2:decide (D.room<((bF l:Nat):Int))=true:=decide_eq_true hr
   rw[if_pos hr]at hR
   simp(disch:=omega)only[seval,d1,c0,d2,Uw]
   exact hR
  .have d2:decide (D.room<((bF l:Nat):Int))=false:=decide_eq_false hr
   rw[if_neg hr]at hR
   simp(disch:=omega)only[seval,d1,c0,d2,Uw]
   exact hR
end Go.Proofs.Ytmhokapokchneaa
namespace Go.Proofs.Ytmhokapokchneaa
open Go Go.En Go.Pu
set_option maxRecDepth 4000
set_option maxHeartbeats 8000000
variable {Z : Nat -> Prop}
theorem RD{D:tO}{sv wv:V3}{k:Nat}{n m:ByteArray}{a:Int}{b:List UInt8}{w:V2}(h:BE Z w D sv wv)(hB:Ot D)(hk:k<=2)(hb:b.length<=1000000000)
 (hz:k=0->0<=a->a<=(((bC n (cI D)).getD []).length:Int)->bF (Je ⟨0,n,m,a.toNat,b⟩ (cI D))<=1000000000000):
 aH pg xC #[.agg (sO D sv wv).toArray,.agg (Mx k n m a b).toArray] w (λr w'=>r= .int .i64 (nZ D k n m a b)/\aJ w w' bQ):=by
 refine Ij ?_
 obtain⟨RR,hRR⟩:∃RR:V3->V2->Prop,RR=λr w'=>r= .int .i64 (nZ D k n m a b)/\aJ w w' bQ:=⟨_,rfl⟩
 rw[<-hRR]
 have hR:∀(e:Int) w',aJ w w' bQ->nZ D k n m a b=e->RR (.int .i64 e) w':=λe w' x he=>by rw[hRR,he];exact⟨rfl,x⟩
 clear hRR
 unfold Jm EU ET
 refine jY λw1 o1 x1 s1=> ?_
 rw[uI h]at o1
 obtain⟨db,hdb⟩:∃db,db=w.heap.size:=⟨_,rfl⟩
 rw[<-hdb]at o1⊢
 refine jY λw2 o2 x2 s2=> ?_
 have o2:bD w2 w1.heap.size (Mx k n m a b):=o2
 obtain⟨ob,hob⟩:∃ob,ob=w1.heap.size:=⟨_,rfl⟩
 rw[<-hob]at o2⊢
 have x02:=x1.seq x2
 have oD:∀{w'},aJ w2 w' bQ->bD w' db (sO D sv wv):=λx=>(o1.ext x2 (λh=>h)).ext x (λh=>h)
 have c4:w2.cell? ⟨db,4,none⟩=some (.bool D.down):=(oD (aJ.refl _ _)).cell (off:=4)
 have co:∀{w'},aJ w2 w' bQ->w'.cell? ⟨ob,0,none⟩=some (.int .i64 (k:Nat))/\w'.cell? ⟨ob,1,none⟩=some (.string n)/\w'.cell? ⟨ob,2,none⟩=some (.string m)/\w'.cell? ⟨ob,3,none⟩=some (.int .i64 a)/\w'.cell? ⟨ob,4,none⟩=some (.string ⟨b.toArray⟩):=λx=>
  ⟨(o2.ext x (λh=>h)).cell (off:=0),(o2.ext x (λh=>h)).cell (off:=1),(o2.ext x (λh=>h)).cell (off:=2),(o2.ext x (λh=>h)).cell (off:=3),(o2.ext x (λh=>h)).cell (off:=4)⟩
 obtain⟨f0,f1,f2,f3,f4⟩:=co (aJ.refl w2 bQ)
 cases hd:D.down with
 |true=>
  rw[hd]at c4
  simp(maxSteps:=4000000) (disch:=omega)only[aB,bN,Uw,bP,aV,bO,bK,cD,true_and,tE,oQ,Am,c4,gO,jJ]
  exact hR _ _ x02 (by unfold nZ;rw[if_pos hd])
 |false=>
 rw[hd]at c4
 have hnd:¬D.down=true:=by rw[hd];decide
 have hmn:=Kc n
 have hmm:=Kc m
 have kn:=Of n
 have km:=Of m
 have ld:(aD 41 (.pointer (some ⟨db,0,none⟩))).run pg w2= .ok (.value (.agg (sO D sv wv).toArray)) w2:=cB (off:=0) (oD (aJ.refl _ _)) (by simp)
 obtain⟨hfb,hfl⟩:=DN D.way hB.fs hB.ops
 have hl:(cI D).length<=50000:=by have:=hB.len;unfold cI;omega
 obtain⟨eN,hEN⟩:∃e,decide (n.size=0)=e:=⟨_,rfl⟩
 obtain⟨gN,hGN⟩:∃e,decide ((32:Int)<(n.size:Int))=e:=⟨_,rfl⟩
 obtain⟨eM,hEM⟩:∃e,decide (m.size=0)=e:=⟨_,rfl⟩
 obtain⟨gM,hGM⟩:∃e,decide ((32:Int)<(m.size:Int))=e:=⟨_,rfl⟩
 rw[hEN]at kn
 rw[hEM]at km
 rw[hEN,hGN]at hmn
 rw[hEM,hGM]at hmm
 clear hEN hEM
 have u1:bB undef false=false:=by kernel_rfl
 have u2:bB undef true=false:=by kernel_rfl
 have t00:(((0:Nat):Int)==0)=true:=rfl
 have t01:(((0:Nat):Int)==1)=false:=rfl
 have t10:(((1:Nat):Int)==0)=false:=rfl
 have t11:(((1:Nat):Int)==1)=true:=rfl
 have t20:(((2:Nat):Int)==0)=false:=rfl
 have t21:(((2:Nat):Int)==1)=false:=rfl
 have l0:decide (((0:Nat):Int)<2)=true:=rfl
 have l1:decide (((1:Nat):Int)<2)=true:=rfl
 have l2:decide (((2:Nat):Int)<2)=false:=rfl
 have p0:decide ((0:Int)<((0:Nat):Int))=false:=rfl
 have p1:decide ((0:Int)<((1:Nat):Int))=true:=rfl
 have p2:decide ((0:Int)<((2:Nat):Int))=true:=rfl
 have hk3:k=0∨k=1∨k=2:=by omega
 rcases hk3 with rfl|rfl|rfl
 .
  by_cases ha:a<0
  .have ka:decide (a<0)=true:=decide_eq_true ha
   have hf:nZ D 0 n m a b=1:=by unfold nZ;rw[if_neg hnd,if_pos (.inr (.inl ⟨rfl,ha⟩))]
   cases eN<;>cases gN<;>(simp(maxSteps:=4000000) (disch:=omega)only[aB,bN,Uw,bP,aV,bO,bK,cD,true_and,tE,oQ,Am,c4,gO,f1,AQ,kn,uF,qH,UE,if_false,mK,pX,yZ,hGN,f0,HL,t01,uG,lL,u1,t00,wP,if_true,f3,wX,ka,G6,jJ,u2,eH];exact hR _ _ x02 hf)
  have ka:decide (a<0)=false:=decide_eq_false ha
  cases hN:sN n with
  |false=>
   have hf:nZ D 0 n m a b=1:=by unfold nZ;rw[if_neg hnd,if_pos (.inr (.inr ⟨by decide,hN⟩))]
   rw[hN]at hmn
   cases eN<;>cases gN<;>first|(cases hmn;done)|(simp(maxSteps:=4000000) (disch:=omega)only[aB,bN,Uw,bP,aV,bO,bK,cD,true_and,tE,oQ,Am,c4,gO,f1,AQ,kn,uF,qH,UE,if_false,mK,pX,yZ,hGN,f0,HL,t01,uG,lL,u1,t00,wP,if_true,f3,wX,ka,l0,jJ,eH,G6];exact hR _ _ x02 hf)
  |true=>
   rw[hN]at hmn
   have hgood:¬((0=1/\sN m=false)∨(0=0/\a<0)∨(0<2/\sN n=false)):=by rw[hN];simp[ha]
   cases eN
   .cases gN
    .simp (maxSteps:=4000000) (disch:=omega)only[aB,bN,Uw,bP,aV,bO,bK,cD,true_and,tE,oQ,Am,c4,gO,f1,AQ,kn,uF,qH,UE,if_false,mK,pX,yZ,hGN,f0,HL,t01,uG,lL,u1,t00,wP,if_true,f3,wX,ka,l0,ld,eH]
     refine(DW (h.new x02) hB).mono ?_
     rintro r w3 ⟨hr,x3⟩
     obtain⟨e0,e1,e2,e3,e4⟩:=co x3
     obtain⟨g0,g1,g2,g3,g4⟩:=co (x3.seq (aJ.dr w3 bQ))
     simp(maxSteps:=4000000) (disch:=omega)only[e1,gO,aV]
     refine(GG hr (by omega)).mono ?_
     rintro r2 w4 ⟨hw,hr2⟩
     rw[hw];clear hw w4
     have x0d:aJ w (dr w3) bQ:=(x02.seq x3).seq (aJ.dr _ _)
     have fin:¬(((bC n (cI D)).getD []).length:Int)<a->aH pg rI #[r,.agg (Mx 0 n m a b).toArray] (dr w3) (λt88 w=>qS RR (.pointer (some ⟨db,0,none⟩)) t88 (.int .i64 0) w):=λhle=>by
      obtain⟨an,rfl⟩:∃an:Nat,a=an:=⟨a.toNat,by omega⟩
      have hg1:((bC n (cI D)).getD []).length<=1000000000:=by
       cases hg:bC n (cI D)with
       |none=>simp
       |some c=>exact hfb _ _ hg
      have hz':=hz rfl (by omega) (by omega)
      rw[UJ]at hz'
      refine(Qt (o:=⟨0,n,m,an,b⟩) (hr.new (aJ.dr _ _)) (by omega) (Nat.zero_le _) (by show an<=_;omega) hb (λc hc=>hfb _ _ hc)).mono ?_
      rintro r3 w5 ⟨hr3,x5⟩
      have x05:=x0d.seq x5
      refine OU (D:=D) (sv:=sv) (wv:=wv) (oD ((x3.seq (aJ.dr _ _)).seq x5)) hr3 ?_ hz' ?_
      .have:=KO (o:=⟨0,n,m,an,b⟩) (l:=cI D);omega
      .refine hR _ _ x05 ?_
       unfold nZ
       rw[if_neg hnd,if_neg hgood,if_neg (by decide),if_neg hle,UJ]
     have hf17:(((bC n (cI D)).getD []).length:Int)<a->nZ D 0 n m a b=17:=λhlt=>by
      unfold nZ
      rw[if_neg hnd,if_neg hgood,if_neg (by decide),if_pos hlt]
     have ldo:(aD 71 (.pointer (some ⟨ob,0,none⟩))).run pg (dr w3)= .ok (.value (.agg (Mx 0 n m a b).toArray)) (dr w3):=oU (off:=0) (o2.ext (x3.seq (aJ.dr _ _)) (λh=>h)) (by simp)
     rcases hr2 with⟨hg,rfl⟩|⟨i,hi,hg,hn,rfl⟩
     .have k1:decide ((-1:Int)<0)=true:=by decide
      have k2:decide ((0:Int)<= -1)=false:=by decide
      rw[hg]at hf17 fin
      by_cases ha0:0<a
      .have k3:decide ((0:Int)<a)=true:=decide_eq_true ha0
       simp(maxSteps:=4000000) (disch:=omega)only[e0,gO,wX,k1,aV,jJ,wP,qH,if_true,true_and,mK,tE,yZ,p0,g3,k3,G6,lL,u2,eH]
       exact hR _ _ x0d (hf17 (by simpa using ha0))
      .have k3:decide ((0:Int)<a)=false:=decide_eq_false ha0
       have:=fin (by simpa using ha0)
       simp(maxSteps:=4000000) (disch:=omega)only[e0,gO,wX,k1,aV,jJ,wP,qH,if_true,true_and,mK,tE,yZ,p0,g3,ldo,k3,uF,UE,if_false,Cm,k2,uG,eH,lL]
       exact this
     .have k1:decide (((i:Nat):Int)<0)=false:=by simp
      have k2:decide ((0:Int)<=((i:Nat):Int))=true:=by simp
      have hin:(i:Int).toNat=i:=UJ _
      obtain⟨bb,off,c',rfl,h1,h2⟩:=(hr.new (aJ.dr w3 bQ)).at hi
      have hsb:(⟨(cI D)[i].2.toArray⟩:ByteArray).size=(cI D)[i].2.length:=by simp[ByteArray.size]
      rw[hg,Vo]at hf17 fin
      by_cases hlt:(((cI D)[i].2.length:Nat):Int)<a
      .have k3:decide ((((cI D)[i].2.length:Nat):Int)<a)=true:=decide_eq_true hlt
       simp(maxSteps:=4000000) (disch:=omega)only[e0,gO,wX,k1,aV,eH,uG,qH,UE,if_false,uF,true_and,mK,Cm,k2,wP,if_true,mQ,hin,kI,oQ,tE,lL,yZ,p0,g3,h2,pX,hsb,k3,jJ]
       exact hR _ _ x0d (hf17 hlt)
      .have k3:decide ((((cI D)[i].2.length:Nat):Int)<a)=false:=decide_eq_false hlt
       have:=fin hlt
       simp(maxSteps:=4000000) (disch:=omega)only[e0,gO,wX,k1,aV,eH,uG,qH,UE,if_false,uF,true_and,mK,Cm,k2,wP,if_true,mQ,hin,kI,oQ,tE,lL,yZ,p0,g3,h2,ldo,pX,hsb,k3]
       exact this
    .cases hmn
   .cases hmn
 .
  by_cases hbad:sN m=false∨sN n=false
  .have hf:nZ D 1 n m a b=1:=by
    unfold nZ
    rw[if_neg hnd,if_pos]
    rcases hbad with h|h
    .exact .inl ⟨rfl,h⟩
    .exact .inr (.inr ⟨by decide,h⟩)
   rw[hmn,hmm]at hbad
   cases eN<;>cases gN<;>cases eM<;>cases gM<;>first|(exfalso;revert hbad;decide)|(simp(maxSteps:=4000000) (disch:=omega)only[aB,bN,Uw,bP,aV,bO,bK,cD,true_and,tE,oQ,Am,c4,gO,f1,AQ,kn,uF,qH,UE,if_false,mK,pX,yZ,hGN,f0,HL,t11,wP,if_true,f2,km,hGM,G6,jJ,lL,u2,eH,t10,uG,wX,l1];exact hR _ _ x02 hf)
  .have hm1:sN m=true:=by cases hq:sN m with|true=>rfl|false=>exact absurd (.inl hq) hbad
   have hn1:sN n=true:=by cases hq:sN n with|true=>rfl|false=>exact absurd (.inr hq) hbad
   have hgood:¬((1=1/\sN m=false)∨(1=0/\a<0)∨(1<2/\sN n=false)):=by rw[hm1,hn1];simp
   rw[hm1]at hmm
   rw[hn1]at hmn
   cases eN<;>cases gN<;>cases eM<;>cases gM<;>first|(cases hmn;done)|(cases hmm;done)|skip
   simp(maxSteps:=4000000) (disch:=omega)only[aB,bN,Uw,bP,aV,bO,bK,cD,true_and,tE,oQ,Am,c4,gO,f1,AQ,kn,uF,qH,UE,if_false,mK,pX,yZ,hGN,f0,HL,t11,wP,if_true,f2,km,hGM,t10,uG,lL,wX,l1,ld,eH]
   refine(DW (h.new x02) hB).mono ?_
   rintro r w3 ⟨hr,x3⟩
   obtain⟨e0,e1,e2,e3,e4⟩:=co x3
   have x03:=x02.seq x3
   simp(maxSteps:=4000000) (disch:=omega)only[e1,gO,aV]
   refine(GG hr (by omega)).mono ?_
   rintro r2 w4 ⟨hw,hr2⟩
   rw[hw];clear hw w4
   rcases hr2 with⟨hg,rfl⟩|⟨i,hi,hg,hn,rfl⟩
   .have k1:decide ((-1:Int)<0)=true:=by decide
    simp(maxSteps:=4000000) (disch:=omega)only[e0,gO,wX,k1,aV,jJ,wP,qH,if_true,true_and,mK,tE,yZ,p1]
    refine hR _ _ x03 ?_
    unfold nZ
    rw[if_neg hnd,if_neg hgood,if_pos (by decide),if_pos hg]
   .have k1:decide (((i:Nat):Int)<0)=false:=by simp
    simp(maxSteps:=4000000) (disch:=omega)only[e0,gO,wX,k1,aV,eH,uG,qH,UE,if_false,uF,true_and,mK,Cm,lL,yZ,p1,jJ]
    refine hR _ _ x03 ?_
    unfold nZ
    rw[if_neg hnd,if_neg hgood,if_pos (by decide),if_neg (by rw[hg];simp)]
 .
  have hgood:¬((2=1/\sN m=false)∨(2=0/\a<0)∨(2<2/\sN n=false)):=by simp
  cases eN<;>cases gN
  all_goals
   simp(maxSteps:=4000000) (disch:=omega)only[aB,bN,Uw,bP,aV,bO,bK,cD,true_and,tE,oQ,Am,c4,gO,f1,AQ,kn,uF,qH,UE,if_false,mK,pX,yZ,hGN,f0,HL,t21,uG,lL,u1,t20,wX,l2,eH,ld,G6,if_true]
   refine(DW (h.new x02) hB).mono ?_
   rintro r w3 ⟨hr,x3⟩
   obtain⟨e0,e1,e2,e3,e4⟩:=co x3
   have x03:=x02.seq x3
   simp(maxSteps:=4000000) (disch:=omega)only[e1,gO,aV]
   refine(GG hr (by omega)).mono ?_
   rintro r2 w4 ⟨hw,hr2⟩
   rw[hw];clear hw w4
   rcases hr2 with⟨hg,rfl⟩|⟨i,hi,hg,hn,rfl⟩
   .have k1:decide ((-1:Int)<0)=true:=by decide
    simp(maxSteps:=4000000) (disch:=omega)only[e0,gO,wX,k1,aV,jJ,wP,qH,if_true,true_and,mK,tE,yZ,p2]
    refine hR _ _ x03 ?_
    unfold nZ
    rw[if_neg hnd,if_neg hgood,if_pos (by decide),if_pos hg]
   .have k1:decide (((i:Nat):Int)<0)=false:=by simp
    simp(maxSteps:=4000000) (disch:=omega)only[e0,gO,wX,k1,aV,eH,uG,qH,UE,if_false,uF,true_and,mK,Cm,lL,yZ,p2,jJ]
    refine hR _ _ x03 ?_
    unfold nZ
    rw[if_neg hnd,if_neg hgood,if_pos (by decide),if_neg (by rw[hg];simp)]
end Go.Proofs.Ytmhokapokchneaa
namespace Go.Proofs.Ytmhokapokchneaa
open Go Go.En Go.Pu
set_option maxRecDepth 4000
set_option maxHeartbeats 2000000
variable {Z : Nat -> Prop}
theorem Jo{w w3:V2}{db rb:Nat}{D':tO}{sv wv:V3}{cs:List V3}{K:V3->V2->Prop}(h1:∀x∈sO D' sv wv,one x=true)(oa:bD w3 db (sO D' sv wv))(ob:bD w3 rb cs)(hcs:cs.length=5)(hb:w.heap.size<=rb)(x3:aJ w w3 bQ)
 (hK:∀w4,aJ w3 w4 (λy=>y=rb)->aJ w w4 bQ->K (.agg (sO D' sv wv).toArray) w4):
 aB pg (aD 41 (.pointer (some ⟨db,0,none⟩))) w3 λt w=>aB pg (aO 41 (.pointer (some ⟨rb,0,none⟩)) t) w λ_u w=>HW pg 41 (.pointer (some ⟨rb,0,none⟩)) w λr0=>K r0 w:=by
 have ld:(aD 41 (.pointer (some ⟨db,0,none⟩))).run pg w3= .ok (.value (.agg (sO D' sv wv).toArray)) w3:=cB (off:=0) oa (by simp)
 simp(disch:=omega)only[seval,ld]
 refine iN ob rfl (by simpa using h1) (by omega) λw4 o4 x4 s4=> ?_
 have hset:mW cs 0 (sO D' sv wv)=sO D' sv wv:=by
  match cs,hcs with
  |[a,b,c,d,e],_=>rfl
 have o4:bD w4 rb (mW cs 0 (sO D' sv wv)):=o4
 rw[hset]at o4
 refine iM o4 (by simp) ?_
 exact hK w4 x4 (x3.trans x4 λy hy hh=>by omega)
def tF(D:tO)(k:Nat)(n m:ByteArray)(a:Int)(b:List UInt8):tO×Int:=
 if nZ D k n m a b≠0 then(D,nZ D k n m a b)
 else if(fZ D).2 then((fZ D).1,20)
 else({(fZ D).1 with way:=D.way++[⟨k,n,m,a.toNat,b⟩]},0)
theorem wC(D:tO):(fZ D).1.sure=D.sure/\(fZ D).1.way=D.way/\(fZ D).1.room=D.room:=by
 unfold fZ
 split<;>exact⟨rfl,rfl,rfl⟩
theorem BE.like {w:V2}{D D':tO}{sv wv:V3}(h:BE Z w D sv wv)(h1:D'.sure=D.sure)(h2:D'.way=D.way):BE Z w D' sv wv:=⟨h1▸h.sure,h2▸h.way,h.wz⟩
theorem NY(o:Ax):∀x∈Q2 o,one x=true:=λx hx=>by
 simp only[UD,U3,or_false]at hx
 rcases hx with rfl|rfl|rfl|rfl|rfl<;>rfl
theorem QR(l:List Ax):∀x∈Im l,one x=true:=λx hx=>by
 obtain⟨o,-,hx⟩:=List.mem_flatMap.1 hx
 exact NY o x hx
theorem M6 {D:tO}{sv wv:V3}{k:Nat}{n m:ByteArray}{a:Int}{b:List UInt8}{w:V2}(h:BE Z w D sv wv)(hB:Ot D)(hk:k<=2)(hka:k≠0->a=0)(hb:b.length<=1000000000)(hl: -1<=D.left/\D.left<=9223372036854775807)
 (hz:k=0->0<=a->a<=(((bC n (cI D)).getD []).length:Int)->bF (Je ⟨0,n,m,a.toNat,b⟩ (cI D))<=1000000000000):
 aH pg lJ #[.agg (sO D sv wv).toArray,.agg (Mx k n m a b).toArray] w (λr w'=>∃sv' wv',r= .tuple #[.agg (sO (tF D k n m a b).1 sv' wv').toArray,.int .i64 (tF D k n m a b).2]/\BE Z w' (tF D k n m a b).1 sv' wv'/\aJ w w' bQ):=by
 refine Jf ?_
 obtain⟨RR,hRR⟩:∃RR:V3->V2->Prop,RR=λr w'=>∃sv' wv',r= .tuple #[.agg (sO (tF D k n m a b).1 sv' wv').toArray,.int .i64 (tF D k n m a b).2]/\BE Z w' (tF D k n m a b).1 sv' wv'/\aJ w w' bQ:=⟨_,rfl⟩
 rw[<-hRR]
 have hR:∀D' e sv' wv' w',tF D k n m a b=(D',e)->BE Z w' D' sv' wv'->aJ w w' bQ->RR (.tuple #[.agg (sO D' sv' wv').toArray,.int .i64 e]) w':=λD' e sv' wv' w' he hv x=>by
  rw[hRR,he]
  exact⟨sv',wv',rfl,hv,x⟩
 clear hRR
 unfold Kj Gw
 refine jY λw1 o1 x1 s1=> ?_
 rw[uI h]at o1
 obtain⟨db,hdb⟩:∃db,db=w.heap.size:=⟨_,rfl⟩
 rw[<-hdb]at o1⊢
 refine jY λw2 o2 x2 s2=> ?_
 have o2:bD w2 w1.heap.size (Mx k n m a b):=o2
 obtain⟨ob,hob⟩:∃ob,ob=w1.heap.size:=⟨_,rfl⟩
 rw[<-hob]at o2⊢
 refine bX λw3 o3 x3 s3=> ?_
 obtain⟨rb,hrb⟩:∃rb,rb=w2.heap.size:=⟨_,rfl⟩
 rw[<-hrb]at o3⊢
 have x03:aJ w w3 bQ:=(x1.seq x2).seq x3
 have oD:bD w3 db (sO D sv wv):=(o1.ext x2 (λh=>h)).ext x3 (λh=>h)
 have oO:bD w3 ob (Mx k n m a b):=o2.ext x3 (λh=>h)
 have ld:(aD 41 (.pointer (some ⟨db,0,none⟩))).run pg w3= .ok (.value (.agg (sO D sv wv).toArray)) w3:=cB (off:=0) oD (by simp)
 have lo:(aD 71 (.pointer (some ⟨ob,0,none⟩))).run pg w3= .ok (.value (.agg (Mx k n m a b).toArray)) w3:=oU (off:=0) oO (by simp)
 simp(disch:=omega)only[seval,ld,lo]
 refine(RD (h.new x03) hB hk hb hz).mono ?_
 rintro r w4 ⟨rfl,x4⟩
 have x04:=x03.seq x4
 have h1:=xK h
 have oD4:=oD.ext x4 (λh=>h)
 have oO4:=oO.ext x4 (λh=>h)
 have oR4:=o3.ext x4 (λh=>h)
 by_cases he:nZ D k n m a b=0
 rotate_left
 .have d1:(nZ D k n m a b !=0)=true:=bne_iff_ne.2 he
  have:=Jo (w:=w) (K:=λr0 w=>RR (.tuple #[r0,.int .i64 (nZ D k n m a b)]) w) h1 oD4 oR4 rfl (by omega) x04 (λw5 x5 x05=>hR D (nZ D k n m a b) sv wv w5 (by unfold tF;rw[if_pos he]) (h.new x05) x05)
  simp(disch:=omega)only[seval,d1]
  exact this
 have d1:(nZ D k n m a b !=0)=false:=by rw[he]<;>rfl
 have ld4:(aD 41 (.pointer (some ⟨db,0,none⟩))).run pg w4= .ok (.value (.agg (sO D sv wv).toArray)) w4:=cB (off:=0) oD4 (by simp)
 simp(disch:=omega)only[seval,d1,ld4]
 refine(Md (h.new x04) hl).mono ?_
 rintro r w5 ⟨rfl,x5⟩
 obtain⟨k1,k2,k3⟩:=wC D
 obtain⟨E,hE⟩:∃E,E=(fZ D).1:=⟨_,rfl⟩
 have hv5:BE Z w E sv wv:=by rw[hE];exact h.like k1 k2
 have h1E:=xK hv5
 rw[<-hE]
 simp(disch:=omega)only[seval]
 refine iN (oD4.ext x5 (λh=>h)) rfl (by simpa using h1E) (by simp) λw6 o6 x6 s6=> ?_
 have o6:bD w6 db (sO E sv wv):=o6
 have x06:aJ w w6 bQ:=(x04.seq x5).trans x6 λy hy hh=>by omega
 have oR6:bD w6 rb [.int .i64 0,.slice none 0 0,.slice none 0 0,.int .i64 0,.bool false]:=(oR4.ext x5 (λh=>h)).ext x6 (λhh=>by omega)
 have oO6:bD w6 ob (Mx k n m a b):=(oO4.ext x5 (λh=>h)).ext x6 (λhh=>by omega)
 cases hs:(fZ D).2 with
 |true=>
  have:=Jo (w:=w) (K:=λr0 w=>RR (.tuple #[r0,.int .i64 20]) w) h1E o6 oR6 rfl (by omega) x06 (λw7 x7 x07=>hR E 20 sv wv w7 (by unfold tF;rw[if_neg (by rw[he];decide),if_pos hs,hE]) (hv5.new x07) x07)
  simp(disch:=omega)only[seval]
  exact this
 |false=>
  have c2:w6.cell? ⟨db,2,none⟩=some wv:=o6.cell (off:=2)
  have ha:0<=a:=by
   by_cases hk0:k=0
   .subst hk0
    unfold nZ at he
    by_cases ha:a<0
    .exfalso
     split at he
     .cases he
     .rw [if_pos (.inr (.inl ⟨rfl,ha⟩))]at he
      cases he
    .omega
   .rw [hka hk0];exact Int.le_refl 0
  obtain⟨an,rfl⟩:∃an:Nat,a=an:=⟨a.toNat,by omega⟩
  obtain⟨wa,wc,hwv,hwl,_⟩:=h.way
  have hway:=(hv5.new x06).way
  have hel:E.way.length=D.way.length:=by rw[hE,k2]
  simp(disch:=omega)only[seval,c2,Uw]
  refine fT (xE.nil w6 w6.heap.size 5) hway (QR _) (UF _) (by have:=hB.len;omega) λv7 w7 o7 x7=> ?_
  rw[Uw,U2]at o7
  have x67:aJ w6 w7 (λy=>w6.heap.size<=y):=x7
  have x07:aJ w w7 bQ:=x06.trans x7 λy hy hh=>by have:=x06.size;omega
  have l6:∀{q:Nat} {cs:List V3},bD w6 q cs->bD w7 q cs:=λo=>o.ext x7 (λhh=>by have:=o.lt;omega)
  have oO7:=l6 oO6
  have o7d:=l6 o6
  have oR7:=l6 oR6
  have lo7:(aD 71 (.pointer (some ⟨ob,0,none⟩))).run pg w7= .ok (.value (.agg (Mx k n m an b).toArray)) w7:=oU (off:=0) oO7 (by simp)
  simp(disch:=omega)only[seval,lo7]
  refine Bb (cells:=(Mx k n m an b).toArray) (by decide) (by decide) (by kernel_rfl) λw8 o8 x8 s8=> ?_
  have l7:∀{q:Nat} {cs:List V3},bD w7 q cs->bD w8 q cs:=λo=>o.ext x8 (λh=>h)
  refine fT (o7.ext x8 (λ_ _ h=>h)) (m:=1) (news:=Mx k n m an b) ?_ (λy hy=>NY ⟨k,n,m,an,b⟩ y hy) (by have:=x7.size;have:=x8.size;omega) (by have:=hB.len;omega) λv9 w9 o9 x9=> ?_
  .exact ⟨_,_,rfl,rfl,λ_=>⟨_,0,rfl,λj hj=>by rw[o8.cell,Uw]⟩⟩
  have l8:∀{q:Nat} {cs:List V3},q<w6.heap.size->bD w8 q cs->bD w9 q cs:=λhq o=>o.ext x9 (λhh=>by omega)
  have ldb:=o6.lt
  have lrb:=oR6.lt
  have x09:aJ w w9 bQ:=(x07.seq x8).trans x9 λy hy hh=>by have:=x06.size;omega
  have o9d:=l8 ldb (l7 o7d)
  have oR9:=l8 lrb (l7 oR7)
  obtain⟨v9a,v9c,hv9⟩:=o9.len
  refine nG (off:=2) o9d (by rw[hv9]<;>rfl) (by simp) λwa' oa xa sa=> ?_
  obtain⟨F,hF⟩:∃F:tO,F={E with way:=D.way++[⟨k,n,m,an,b⟩]}:=⟨_,rfl⟩
  have oa:bD wa' db (sO F sv v9):=by rw[hF];exact oa
  have x0a:aJ w wa' bQ:=x09.trans xa λy hy hh=>by omega
  have hvF:∀{w'},aJ wa' w' (λy=>y=rb)->aJ w w' bQ->BE Z w' F sv v9:=λ{w'} xx x0=>by
   refine⟨?_, ?_,KI o9 λb hb=>by have:=h.sure.2.2 b hb;have:=x06.size;omega⟩
   .rw [hF]
    show CL Z w' sv E.sure
    exact(hv5.new x0).sure
   .rw [hF]
    show Cl w' 5 v9 (D.way++[_]).length (Im (D.way++[_]))
    have hq:=(o9.ext xa (λbq hbq hh=>by subst hh;omega)).ext xx (λbq hbq hh=>by subst hh;omega)
    have hq:=hq.cl
    rw[Uu,VS,show Im (D.way++[⟨k,n,m,an,b⟩])=Im D.way++Mx k n m an b from by simp[Im],<-hel,show E.way=D.way from by rw[hE,k2]]at*
    exact hq
  have h1F:∀x∈sO F sv v9,one x=true:=by
   have hx:=xK (hvF (w':=wa') (aJ.refl _ _) x0a)
   exact hx
  have:=Jo (w:=w) (K:=λr0 w=>RR (.tuple #[r0,.int .i64 0]) w) h1F oa (oR9.ext xa (λhh=>by omega)) rfl (by omega) x0a (λw7 x7 x07=>hR F 0 sv v9 w7 (by unfold tF;rw[if_neg (by rw[he];decide),if_neg (by rw[hs];decide),<-hE,hF,UJ]) (hvF x7 x07) x07)
  try simp(disch:=omega)only[seval]
  exact this
def Al:V3->Bool| .string _=>true|_=>false
theorem CL.notin {w:V2}{v:V3}{l:aX}{b:Nat}{cs:List V3}(h:CL Z w v l)(o:bD w b cs)(hs:∀c∈cs,Al c=false):¬Ci v (λy=>y=b):=by
 intro hi
 obtain⟨⟨a,c,rfl,hl,hh⟩,_⟩:=h
 unfold Ci at hi
 split at hi
 .rename_i e
  simp only[Value.slice.injEq]at e
  obtain⟨rfl,e2,rfl⟩:=e
  obtain⟨b',off,he,h2⟩:=hh (by omega)
  cases he
  have hi:b'=b:=hi
  subst hi
  have h3:=h2 0 (by rw[hl];omega)
  have h4:=(KP (l:=l) (i:=0) (by omega)).1
  rw[V1]at h4
  rw[o.cell,h4]at h3
  have:=hs _ (Vu h3)
  cases this
 .exact hi
theorem CL.keep {w w':V2}{v:V3}{l:aX}{b:Nat}{cs:List V3}(h:CL Z w v l)(o:bD w b cs)(hs:∀c∈cs,Al c=false)(x:aJ w w' (λy=>y=b)):CL Z w' v l:=⟨HC h.1 x (h.notin o hs),h.2.1,λb hb=>UQ (h.2.2 b hb) x.size⟩
def wY(D:tO):tO×Int:=
 if D.down then(D,20)else if(fZ D).2 then((fZ D).1,20)else({(fZ D).1 with sure:=cI D,way:=[]},0)
theorem uJ{w:V2}{D:tO}{sv wv:V3}(h:BE Z w D sv wv):∀x∈sO D sv wv,Al x=false:=by
 obtain⟨sa,sc,hsv⟩:=h.sure.len
 obtain⟨wa,wc,hwv,_⟩:=h.way
 subst hsv;subst hwv
 intro x hx
 simp only[UD,U3,or_false]at hx
 rcases hx with rfl|rfl|rfl|rfl|rfl<;>rfl
theorem Iz(w:V2):Cl w 5 (.slice none 0 0) ([]:List Ax).length (Im []):=⟨none,0,rfl,rfl,λh=>by simp at h⟩
theorem RI{D:tO}{sv wv:V3}{w:V2}(h:BE Z w D sv wv)(hB:Ot D)(hl: -1<=D.left/\D.left<=9223372036854775807):
 aH pg sX #[.agg (sO D sv wv).toArray] w (λr w'=>∃sv' wv',r= .tuple #[.agg (sO (wY D).1 sv' wv').toArray,.int .i64 (wY D).2]/\BE Z w' (wY D).1 sv' wv'/\aJ w w' bQ):=by
 refine Ii ?_
 obtain⟨RR,hRR⟩:∃RR:V3->V2->Prop,RR=λr w'=>∃sv' wv',r= .tuple #[.agg (sO (wY D).1 sv' wv').toArray,.int .i64 (wY D).2]/\BE Z w' (wY D).1 sv' wv'/\aJ w w' bQ:=⟨_,rfl⟩
 rw[<-hRR]
 have hR:∀D' e sv' wv' w',wY D=(D',e)->BE Z w' D' sv' wv'->aJ w w' bQ->RR (.tuple #[.agg (sO D' sv' wv').toArray,.int .i64 e]) w':=λD' e sv' wv' w' he hv x=>by
  rw[hRR,he]
  exact⟨sv',wv',rfl,hv,x⟩
 clear hRR
 unfold Jl ER
 refine jY λw1 o1 x1 s1=> ?_
 rw[uI h]at o1
 obtain⟨db,hdb⟩:∃db,db=w.heap.size:=⟨_,rfl⟩
 rw[<-hdb]at o1⊢
 refine bX λw3 o3 x3 s3=> ?_
 obtain⟨rb,hrb⟩:∃rb,rb=w1.heap.size:=⟨_,rfl⟩
 rw[<-hrb]at o3⊢
 have x03:aJ w w3 bQ:=x1.seq x3
 have oD:bD w3 db (sO D sv wv):=o1.ext x3 (λh=>h)
 have h1:=xK h
 have c4:w3.cell? ⟨db,4,none⟩=some (.bool D.down):=oD.cell (off:=4)
 cases hd:D.down with
 |true=>
  rw[hd]at c4
  have:=Jo (w:=w) (K:=λr0 w=>RR (.tuple #[r0,.int .i64 20]) w) h1 oD o3 rfl (by omega) x03 (λw5 x5 x05=>hR D 20 sv wv w5 (by unfold wY;rw[if_pos hd]) (h.new x05) x05)
  simp(disch:=omega)only[seval,c4,Uw]
  exact this
 |false=>
 rw[hd]at c4
 have hnd:¬D.down=true:=by rw[hd];decide
 have ld:(aD 41 (.pointer (some ⟨db,0,none⟩))).run pg w3= .ok (.value (.agg (sO D sv wv).toArray)) w3:=cB (off:=0) oD (by simp)
 simp(disch:=omega)only[seval,c4,ld,Uw]
 refine(Md (h.new x03) hl).mono ?_
 rintro r w5 ⟨rfl,x5⟩
 obtain⟨k1,k2,k3⟩:=wC D
 obtain⟨E,hE⟩:∃E,E=(fZ D).1:=⟨_,rfl⟩
 have hv5:BE Z w E sv wv:=by rw[hE];exact h.like k1 k2
 have h1E:=xK hv5
 rw[<-hE]
 simp(disch:=omega)only[seval]
 refine iN (oD.ext x5 (λh=>h)) rfl (by simpa using h1E) (by simp) λw6 o6 x6 s6=> ?_
 have o6:bD w6 db (sO E sv wv):=o6
 have x06:aJ w w6 bQ:=(x03.seq x5).trans x6 λy hy hh=>by omega
 have oR6:bD w6 rb [.int .i64 0,.slice none 0 0,.slice none 0 0,.int .i64 0,.bool false]:=(o3.ext x5 (λh=>h)).ext x6 (λhh=>by omega)
 cases hs:(fZ D).2 with
 |true=>
  have:=Jo (w:=w) (K:=λr0 w=>RR (.tuple #[r0,.int .i64 20]) w) h1E o6 oR6 rfl (by omega) x06 (λw7 x7 x07=>hR E 20 sv wv w7 (by unfold wY;rw[if_neg hnd,if_pos hs,hE]) (hv5.new x07) x07)
  try simp(disch:=omega)only[seval]
  exact this
 |false=>
  have ld6:(aD 41 (.pointer (some ⟨db,0,none⟩))).run pg w6= .ok (.value (.agg (sO E sv wv).toArray)) w6:=cB (off:=0) o6 (by simp)
  have hBE:Ot E:=by
   rw[hE]
   exact⟨k1▸hB.fs,k2▸hB.ops,by rw[k1,k2];exact hB.len⟩
  have hse:cI E=cI D:=by unfold cI;rw[hE,k1,k2]
  simp(disch:=omega)only[seval,ld6]
  refine(DW (hv5.new x06) hBE).mono ?_
  rintro r w7 ⟨hr,x7⟩
  rw[hse]at hr
  obtain⟨ra,rc,hrv⟩:=hr.len
  have o7:=o6.ext x7 (λh=>h)
  have oR7:=oR6.ext x7 (λh=>h)
  try simp(disch:=omega)only[seval,Uw]
  refine sJ (off:=1) o7 (by rw[hrv]<;>rfl) (by simp) λw8 o8 x8 s8=> ?_
  have o8:bD w8 db (sO {E with sure:=cI D} r wv):=o8
  have hr8:CL Z w8 r (cI D):=hr.keep o7 (uJ hv5) x8
  have x08:aJ w w8 bQ:=(x06.seq x7).trans x8 λy hy hh=>by omega
  have h8:BE Z w8 {E with sure:=cI D} r wv:=⟨hr8,(hv5.new x08).way,h.wz⟩
  try simp(disch:=omega)only[seval,Uw]
  refine nG (off:=2) o8 rfl (by simp) λw9 o9 x9 s9=> ?_
  obtain⟨F,hF⟩:∃F:tO,F={E with sure:=cI D,way:=[]}:=⟨_,rfl⟩
  have o9:bD w9 db (sO F r (.slice none 0 0)):=by rw[hF];exact o9
  have hr9:CL Z w9 r (cI D):=hr8.keep o8 (uJ h8) x9
  have x09:aJ w w9 bQ:=x08.trans x9 λy hy hh=>by omega
  have oR9:=(oR7.ext x8 (λhh=>by omega)).ext x9 (λhh=>by omega)
  have hvF:∀{w'},CL Z w' r (cI D)->BE Z w' F r (.slice none 0 0):=λ{w'} hf=>by
   rw[hF]
   exact⟨hf,Iz w',λh=>h⟩
  have hns:∀c∈([.int .i64 0,.slice none 0 0,.slice none 0 0,.int .i64 0,.bool false]:List V3),Al c=false:=by
   intro c hc
   simp only[UD,U3,or_false]at hc
   rcases hc with rfl|rfl|rfl|rfl|rfl<;>rfl
  have:=Jo (w:=w) (K:=λr0 w=>RR (.tuple #[r0,.int .i64 0]) w) (xK (hvF hr9)) o9 oR9 rfl (by omega) x09 (λw7 x7 x07=>hR F 0 r (.slice none 0 0) w7 (by unfold wY;rw[if_neg hnd,if_neg (by rw[hs];decide),<-hE,hF]) (hvF (hr9.keep oR9 hns x7)) x07)
  try simp(disch:=omega)only[seval]
  exact this
def Eo(os:List Ax)(ks:List Bool)(l:aX):Nat->aX
 |0=>l
 |i+1=>match os[i]?,ks[i]? with
  |some o,some true=>Je o (Eo os ks l i)
  |_,_=>Eo os ks l i
def Hg(D:tO)(ks:List Bool):tO:={D with sure:=Eo D.way ks D.sure D.way.length,way:=[],left:= -1,down:=false}
theorem L5 {os:List Ax}{ks:List Bool}{l:aX}{i:Nat}(h:ks.length<=i):∀d,Eo os ks l (i+d)=Eo os ks l i
 |0=>rfl
 |d+1=>by
  rw[<-Vi,Eo]
  split
  .rename_i o h1 h2
   rw[Ve (by omega)]at h2
   cases h2
  .exact L5 h d
theorem M7 {os:List Ax}{ks:List Bool}{l:aX}(h:FB l)(ho:∀o∈os,o.kind<=2/\o.at'+o.bytes.length<=1000000000):∀i,FB (Eo os ks l i)/\(Eo os ks l i).length<=l.length+i
 |0=>⟨h,UF _⟩
 |i+1=>by
  obtain⟨h1,h2⟩:=M7 h ho i (ks:=ks)
  rw[Eo]
  split
  .rename_i o hq _
   refine⟨Qu h1 (ho o (Vu hq)).2, ?_⟩
   have:=KO (o:=o) (l:=Eo os ks l i)
   omega
  .exact ⟨h1,by omega⟩
theorem Qs{D:tO}{sv wv kv:V3}{ks:List Bool}{w:V2}(h:BE Z w D sv wv)(hB:Ot D)(hk:Sl w kv (ks.map Value.bool))(hkl:ks.length<=9223372036854775807):
 aH pg qO #[.agg (sO D sv wv).toArray,kv] w (λr w'=>∃sv' wv',r= .agg (sO (Hg D ks) sv' wv').toArray/\BE Z w' (Hg D ks) sv' wv'/\aJ w w' bQ):=by
 refine Hh ?_
 obtain⟨RR,hRR⟩:∃RR:V3->V2->Prop,RR=λr w'=>∃sv' wv',r= .agg (sO (Hg D ks) sv' wv').toArray/\BE Z w' (Hg D ks) sv' wv'/\aJ w w' bQ:=⟨_,rfl⟩
 rw[<-hRR]
 obtain⟨ka,kc,rfl,hkc⟩:=hk.len
 rw[UA]at hk hkc⊢
 unfold HN Co Cn
 refine jY λw1 o1 x1 s1=> ?_
 rw[uI h]at o1
 obtain⟨db,hdb⟩:∃db,db=w.heap.size:=⟨_,rfl⟩
 rw[<-hdb]at o1⊢
 refine bX λw3 o3 x3 s3=> ?_
 obtain⟨rb,hrb⟩:∃rb,rb=w1.heap.size:=⟨_,rfl⟩
 rw[<-hrb]at o3⊢
 have x03:aJ w w3 bQ:=x1.seq x3
 have oD:bD w3 db (sO D sv wv):=o1.ext x3 (λh=>h)
 obtain⟨wa,wc,hwv,_⟩:=h.way
 have hn:=hB.len
 unfold zD zC Dv tH
 refine bG.rule (λm (t:V3) w'=>∃(i:Nat) (lv:V3),m=D.way.length-i/\i<=D.way.length/\t= .int .i64 (i:Nat)/\CL Z w' lv (Eo D.way ks D.sure i)/\bD w' db (sO {D with sure:=Eo D.way ks D.sure i} lv wv)/\bD w' rb [.int .i64 0,.slice none 0 0,.slice none 0 0,.int .i64 0,.bool false]/\aJ w w' bQ) D.way.length
  ⟨0,sv,rfl,by omega,rfl,h.sure.new x03,oD,o3,x03⟩ ?_
 clear oD o3 o1
 rintro m t w4 ⟨i,lv,rfl,hi,rfl,hlv,oD,oR,x4⟩
 have hv4:BE Z w4 {D with sure:=Eo D.way ks D.sure i} lv wv:=⟨hlv,(h.new x4).way,h.wz⟩
 have c1:w4.cell? ⟨db,1,none⟩=some lv:=oD.cell (off:=1)
 have c2:w4.cell? ⟨db,2,none⟩=some wv:=oD.cell (off:=2)
 have c2':=c2
 rw[hwv]at c2'
 obtain⟨hfb,hfl⟩:=M7 (ks:=ks) hB.fs hB.ops i
 have fin:Eo D.way ks D.sure i=Eo D.way ks D.sure D.way.length->tG RR (.pointer (some ⟨db,0,none⟩)) (.pointer (some ⟨rb,0,none⟩)) w4:=λhe=>by
  unfold tG
  try simp(disch:=omega)only[seval,Uw]
  refine nG (off:=2) oD rfl (by simp) λw5 o5 x5 s5=> ?_
  have h5:=hlv.keep oD (uJ hv4) x5
  have o5:bD w5 db (sO {D with sure:=Eo D.way ks D.sure i,way:=[]} lv (.slice none 0 0)):=o5
  have v5:BE Z w5 {D with sure:=Eo D.way ks D.sure i,way:=[]} lv (.slice none 0 0):=⟨h5,Iz w5,λh=>h⟩
  try simp(disch:=omega)only[seval,Uw]
  refine Iw (off:=4) o5 rfl (by simp) λw6 o6 x6 s6=> ?_
  have h6:=h5.keep o5 (uJ v5) x6
  have o6:bD w6 db (sO {D with sure:=Eo D.way ks D.sure i,way:=[],down:=false} lv (.slice none 0 0)):=o6
  have v6:BE Z w6 {D with sure:=Eo D.way ks D.sure i,way:=[],down:=false} lv (.slice none 0 0):=⟨h6,Iz w6,λh=>h⟩
  try simp(disch:=omega)only[seval,Uw]
  refine DH (off:=3) o6 rfl (by simp) λw7 o7 x7 s7=> ?_
  have h7:=h6.keep o6 (uJ v6) x7
  obtain⟨F,hF⟩:∃F:tO,F=Hg D ks:=⟨_,rfl⟩
  have o7:bD w7 db (sO F lv (.slice none 0 0)):=by rw[hF];exact o7
  have x07:aJ w w7 bQ:=((x4.trans x5 λy hy hh=>by omega).trans x6 λy hy hh=>by omega).trans x7 λy hy hh=>by omega
  have oR7:=((oR.ext x5 (λhh=>by omega)).ext x6 (λhh=>by omega)).ext x7 (λhh=>by omega)
  have hvF:∀{w'},CL Z w' lv (Eo D.way ks D.sure i)->BE Z w' F lv (.slice none 0 0):=λ{w'} hf=>by
   rw[hF]
   exact⟨by show CL Z w' lv (Eo D.way ks D.sure D.way.length);rw[<-he];exact hf,Iz w',λh=>h⟩
  have hns:∀c∈([.int .i64 0,.slice none 0 0,.slice none 0 0,.int .i64 0,.bool false]:List V3),Al c=false:=by
   intro c hc
   simp only[UD,U3,or_false]at hc
   rcases hc with rfl|rfl|rfl|rfl|rfl<;>rfl
  have:=Jo (w:=w) (K:=λr0 w=>RR r0 w) (xK (hvF h7)) o7 oR7 rfl (by omega) x07 (λw8 x8 x08=>by
   rw[hRR]
   refine⟨lv,.slice none 0 0,by rw[hF], ?_,x08⟩
   have:=hvF (h7.keep oR7 hns x8)
   rw[hF]at this
   exact this)
  try simp(disch:=omega)only[seval]
  exact this
 unfold zB Du
 by_cases hlt:i<D.way.length
 rotate_left
 .have k1:decide ((i:Int)<(D.way.length:Int))=false:=by simp;omega
  have:=fin (by rw[show i=D.way.length from by omega])
  simp(disch:=omega)only[seval,c2',k1,Uw]
  exact this
 have k1:decide ((i:Int)<(D.way.length:Int))=true:=by simp;omega
 by_cases hlk:i<ks.length
 rotate_left
 .have k2:decide ((i:Int)<(ks.length:Int))=false:=by simp;omega
  have:=fin (by
   have:=L5 (os:=D.way) (l:=D.sure) (i:=i) (ks:=ks) (by omega) (D.way.length-i)
   rw[show i+(D.way.length-i)=D.way.length from by omega]at this
   exact this.symm)
  simp(disch:=omega)only[seval,c2',k1,k2,Uw]
  exact this
 have k2:decide ((i:Int)<(ks.length:Int))=true:=by simp;omega
 have hin:(i:Int).toNat=i:=UJ _
 have q1:(i:Int)+1=((i+1:Nat):Int):=by omega
 obtain⟨kb,koff,hka,hkcell⟩:∃kb koff,ka=some ⟨kb,koff,none⟩/\w4.cell? ⟨kb,koff+i,none⟩=some (.bool ks[i]):=by
  obtain⟨a',n',c',he',hn',hc',hh⟩:=hk.ext x4 (jV _)
  simp only[Value.slice.injEq]at he'
  obtain⟨rfl,rfl,rfl⟩:=he'
  obtain⟨kb,koff,rfl,h2⟩:=hh (by omega)
  refine⟨kb,koff,rfl, ?_⟩
  rw[h2 i (by omega),U9,UG hlk]
  rfl
 subst hka
 have hstep:Eo D.way ks D.sure (i+1)=if ks[i]then Je D.way[i] (Eo D.way ks D.sure i)else Eo D.way ks D.sure i:=by
  rw[Eo,UG hlt,UG hlk]
  cases ks[i]<;>rfl
 unfold zA
 cases hki:ks[i]with
 |false=>
  rw[hki]at hkcell
  rw[hki,if_neg (by decide)]at hstep
  simp(disch:=omega)only[seval,c2',k1,k2,hin,hkcell,q1,Uw]
  exact⟨D.way.length-(i+1),by omega,i+1,lv,rfl,by omega,rfl,by rw[hstep];exact hlv,by rw[hstep];exact oD,oR,x4⟩
 |true=>
  rw[hki]at hkcell
  rw[hki,if_pos rfl]at hstep
  have x4d:aJ w (dr w4) bQ:=x4.seq (aJ.dr _ _)
  have oDd:=aP oD
  have d1:(dr w4).cell? ⟨db,1,none⟩=some lv:=oDd.cell (off:=1)
  have d2:(dr w4).cell? ⟨db,2,none⟩=some wv:=oDd.cell (off:=2)
  obtain⟨a,off,c',he,hld⟩:=(h.new x4d).op hlt
  rw[he]at d2
  have hops:=hB.ops _ (Vz hlt)
  simp(disch:=omega)only[seval,c2',k1,k2,hin,hkcell,d1,d2,hld,Uw]
  refine(Qt (hlv.new (aJ.dr _ _)) (by omega) hops.1 (by omega) (by omega) (λb hb=>hfb _ _ hb)).mono ?_
  rintro r w5 ⟨hr,x5⟩
  obtain⟨ra,rc,hrv⟩:=hr.len
  have oD5:=oDd.ext x5 (λh=>h)
  have oR5:=(aP oR).ext x5 (λh=>h)
  try simp(disch:=omega)only[seval,Uw]
  refine sJ (off:=1) oD5 (by rw[hrv]<;>rfl) (by simp) λw6 o6 x6 s6=> ?_
  have v5:BE Z w5 {D with sure:=Eo D.way ks D.sure i} lv wv:=hv4.new ((aJ.dr _ _).seq x5)
  have hr6:=hr.keep oD5 (uJ v5) x6
  rw[<-hstep]at hr6
  have o6:bD w6 db (sO {D with sure:=Eo D.way ks D.sure (i+1)} r wv):=o6
  simp(disch:=omega)only[seval,q1]
  exact⟨D.way.length-(i+1),by omega,i+1,r,rfl,by omega,rfl,hr6,o6,oR5.ext x6 (λhh=>by omega),(x4d.seq x5).trans x6 λy hy hh=>by omega⟩
end Go.Proofs.Ytmhokapokchneaa
namespace Go.Proofs.Ytmhokapokchneaa
open Go Go.En Go.Pu
structure xT(S:iL)(D:tO):Prop where
 rm:D.room=S.room
 lf:D.left=S.left
 dn:D.down=S.down
 wy:D.way=S.under
 su:Ku S.sure D.sure
 se:Ku S.seen (cI D)
 kd:∀o∈S.under,o.kind<=2
theorem RL(r:Int):xT (LX r) ⟨r,[],[],-1,false⟩:=⟨rfl,rfl,rfl,rfl,Ku.nil,Ku.nil,λo h=>by cases h⟩
theorem QF{S:iL}{D:tO}(h:xT S D)(n:ByteArray):GH D n=if S.down then(([]:List UInt8),(20:Int))else match bC n S.seen with
 |none=>([],21)
 |some b=>(b,0):=by
 unfold GH
 by_cases hd:S.down=true
 .rw [h.dn,if_pos hd,if_pos hd]
 .rw [h.dn,h.se.eq]<;>simp only[if_neg hd]<;>(cases bC n (cI D)<;>rfl)
theorem QE{S:iL}{D:tO}(h:xT S D)(a:Int):xT {S with left:=a} {D with left:=a}:=⟨h.rm,rfl,h.dn,h.wy,h.su,h.se,h.kd⟩
theorem Ko{S:iL}{D:tO}(h:xT S D)(hd:S.down=false):(fZ D).2=Ly S/\xT {S with left:=sF S.left,down:=Ly S} (fZ D).1:=by
 unfold fZ Ly
 rw[h.lf,hd,Bool.false_or]
 by_cases h0:S.left=0
 .rw [if_pos h0]
  refine⟨by rw[h0]<;>rfl,⟨h.rm, ?_,by show true=_;rw[h0]<;>rfl,h.wy,h.su,h.se,h.kd⟩⟩
  show S.left=sF S.left
  rw[h0]<;>rfl
 .rw [if_neg h0]
  have:(S.left==0)=false:=beq_eq_false_iff_ne.2 h0
  refine⟨this.symm,⟨h.rm,rfl,by show D.down=_;rw[h.dn,hd,this],h.wy,h.su,h.se,h.kd⟩⟩
theorem Jv{S:iL}{D:tO}(h:xT S D)(hd:S.down=false){k:Nat}{n m:ByteArray}{a:Int}{b:List UInt8}(hf:nZ D k n m a b=0)(hk:k<=2):(tF D k n m a b).2=(vX S ⟨k,n,m,a.toNat,b⟩).2/\xT (vX S ⟨k,n,m,a.toNat,b⟩).1 (tF D k n m a b).1:=by
 obtain⟨h1,h2⟩:=Ko h hd
 unfold tF vX
 rw[if_neg (by rw[hf];decide),h1]
 cases hs:Ly S with
 |true=>
  rw[hs]at h2
  exact⟨rfl,h2⟩
 |false=>
  rw[hs]at h2
  refine⟨rfl,⟨h2.rm,h2.lf,h2.dn, ?_,h2.su, ?_,λo ho=> ?_⟩⟩
  .show D.way++[_]=S.under++[_]
   rw[h.wy]
  .have h3:=h.se.do (o:=⟨k,n,m,a.toNat,b⟩) hk
   have hr:cI {(fZ D).1 with way:=D.way++[⟨k,n,m,a.toNat,b⟩]}=Je ⟨k,n,m,a.toNat,b⟩ (cI D):=by
    unfold cI
    show(D.way++[_]).foldl _ (fZ D).1.sure=_
    rw[List.foldl_append,(wC D).1]
    rfl
   have h4:Ku (Ez ⟨k,n,m,a.toNat,b⟩ S.seen) (cI {(fZ D).1 with way:=D.way++[⟨k,n,m,a.toNat,b⟩]}):=by rw[hr];exact h3
   exact h4
  .rcases Vc.1 ho with ho|ho
   .exact h.kd o ho
   .rw [VD]at ho
    rw[ho];exact hk
theorem uR{S:iL}{D:tO}(h:xT S D){k:Nat}{n m:ByteArray}{a:Int}{b:List UInt8}{e:Int}(hf:nZ D k n m a b=e)(he:e≠0):(tF D k n m a b).2=e/\xT S (tF D k n m a b).1:=by
 unfold tF
 rw[if_pos (by rw[hf];exact he)]
 exact⟨hf,h⟩
theorem Kp{S:iL}{D:tO}(h:xT S D)(n:ByteArray)(a:Int)(b:List UInt8):(tF D 0 n ⟨#[]⟩ a b).2=(Ld S n a b).2/\xT (Ld S n a b).1 (tF D 0 n ⟨#[]⟩ a b).1:=by
 have hf:nZ D 0 n ⟨#[]⟩ a b=Q3 S n a b.length:=by
  unfold nZ Q3
  rw[h.dn]
  by_cases hd:S.down=true
  .rw [if_pos hd,if_pos hd]
  rw[if_neg hd,if_neg hd]
  by_cases hb:sN n=false∨a<0
  .rw [if_pos hb,if_pos]
   rcases hb with hb|hb
   .exact .inr (.inr ⟨by decide,hb⟩)
   .exact .inr (.inl ⟨rfl,hb⟩)
  rw[if_neg hb,if_neg,if_neg (by decide),<-h.se.eq]
  .have hsb:sH S n=(bC n S.seen).getD []:=rfl
   rw[hsb]
   by_cases h17:(((bC n S.seen).getD []).length:Int)<a
   .rw [if_pos h17,if_pos h17]
   rw[if_neg h17,if_neg h17,h.rm,<-((h.se.do (o:=⟨0,n,⟨#[]⟩,a.toNat,b⟩) (Nat.zero_le _)).both).1]
   have hs:=Bl n (over ((bC n S.seen).getD []) a.toNat b) S.seen
   rw[sG]at hs
   have hdo:Ez ⟨0,n,⟨#[]⟩,a.toNat,b⟩ S.seen=rU n (over ((bC n S.seen).getD []) a.toNat b) S.seen:=rfl
   rw[hdo]
   have ha:0<=a:=by
    by_cases ha:a<0
    .exact absurd (.inr ha) hb
    .omega
   have heq:((bF (rU n (over ((bC n S.seen).getD []) a.toNat b) S.seen):Nat):Int)=(bF S.seen:Int)+max (a+(b.length:Int)-(((bC n S.seen).getD []).length:Int)) 0:=by
    generalize((bC n S.seen).getD []).length=q at*
    omega
   rw[heq]
  .rintro (hh|hh|hh)
   .exact absurd hh.1 (by decide)
   .exact hb (.inr hh.2)
   .exact hb (.inl hh.2)
 unfold Ld
 by_cases he:Q3 S n a b.length=0
 .rw [if_pos he]
  have hd:S.down=false:=by
   cases hd:S.down with
   |false=>rfl
   |true=>unfold Q3 at he;rw[if_pos hd]at he;cases he
  exact Jv h hd (by rw[hf,he]) (Nat.zero_le _)
 .rw [if_neg he]
  exact uR h hf he
theorem Jw{S:iL}{D:tO}(h:xT S D)(n:ByteArray):(tF D 2 n ⟨#[]⟩ 0 []).2=(Na S n).2/\xT (Na S n).1 (tF D 2 n ⟨#[]⟩ 0 []).1:=by
 unfold Na
 by_cases hd:S.down=true
 .rw [if_pos hd]
  exact uR (e:=20) h (by unfold nZ;rw[h.dn,if_pos hd]) (by decide)
 have hd':S.down=false:=by cases hq:S.down with|true=>exact absurd hq hd|false=>rfl
 have hf:nZ D 2 n ⟨#[]⟩ 0 []=if bC n S.seen=none then 21 else 0:=by
  unfold nZ
  rw[h.dn,if_neg hd,if_neg (by simp),if_pos (by decide),h.se.eq]
 rw[if_neg hd]
 cases hg:bC n S.seen with
 |none=>
  rw[hg,if_pos rfl]at hf
  exact uR (e:=21) h hf (by decide)
 |some b=>
  rw[hg,if_neg (by simp)]at hf
  exact Jv h hd' hf (by decide)
theorem Jx{S:iL}{D:tO}(h:xT S D)(n m:ByteArray):(tF D 1 n m 0 []).2=(Nb S n m).2/\xT (Nb S n m).1 (tF D 1 n m 0 []).1:=by
 unfold Nb
 by_cases hd:S.down=true
 .rw [if_pos hd]
  exact uR (e:=20) h (by unfold nZ;rw[h.dn,if_pos hd]) (by decide)
 have hd':S.down=false:=by cases hq:S.down with|true=>exact absurd hq hd|false=>rfl
 rw[if_neg hd]
 by_cases hb:sN n=false∨sN m=false
 .rw [if_pos hb]
  refine uR (e:=1) h ?_ (by decide)
  unfold nZ
  rw[h.dn,if_neg hd,if_pos]
  rcases hb with hb|hb
  .exact .inr (.inr ⟨by decide,hb⟩)
  .exact .inl ⟨rfl,hb⟩
 have hf:nZ D 1 n m 0 []=if bC n S.seen=none then 21 else 0:=by
  unfold nZ
  rw[h.dn,if_neg hd,if_neg,if_pos (by decide),h.se.eq]
  rintro(hh|hh|hh)
  .exact hb (.inr hh.2)
  .exact absurd hh.1 (by decide)
  .exact hb (.inl hh.2)
 rw[if_neg hb]
 cases hg:bC n S.seen with
 |none=>
  rw[hg,if_pos rfl]at hf
  exact uR (e:=21) h hf (by decide)
 |some b=>
  rw[hg,if_neg (by simp)]at hf
  exact Jv h hd' hf (by decide)
theorem Mj{S:iL}{D:tO}(h:xT S D):(wY D).2=(My S).2/\xT (My S).1 (wY D).1:=by
 unfold wY My
 rw[h.dn]
 by_cases hd:S.down=true
 .rw [if_pos hd,if_pos hd]
  exact⟨rfl,h⟩
 have hd':S.down=false:=by cases hq:S.down with|true=>exact absurd hq hd|false=>rfl
 obtain⟨h1,h2⟩:=Ko h hd'
 rw[if_neg hd,if_neg hd,h1]
 cases hs:Ly S with
 |true=>
  rw[hs]at h2
  exact⟨rfl,h2⟩
 |false=>
  rw[hs]at h2
  refine⟨rfl,⟨h2.rm,h2.lf,h2.dn,rfl,h.se, ?_,λo ho=>by cases ho⟩⟩
  show Ku S.seen (cI {(fZ D).1 with sure:=cI D,way:=[]})
  exact h.se
theorem OY{S:iL}{D:tO}(h:xT S D)(ks:List Bool):xT (Sc S ks) (Hg D ks):=by
 have hi:∀i,Ku (HD S.under ks S.sure i) (Eo D.way ks D.sure i):=by
  intro i
  induction i with
  |zero=>exact h.su
  |succ i ih=>
   rw[HD,Eo,h.wy]
   rw[h.wy]at ih
   cases ho:S.under[i]? with
   |none=>exact ih
   |some o=>
    cases hk:ks[i]? with
    |none=>exact ih
    |some z=>
     cases z with
     |false=>exact ih
     |true=>exact ih.do (h.kd o (Vu ho))
 have hh:=hi S.under.length
 refine⟨h.rm,rfl,rfl,rfl, ?_, ?_,λo ho=>by cases ho⟩
 .show Ku _ (Eo D.way ks D.sure D.way.length)
  rw[show D.way.length=S.under.length from by rw[h.wy]]
  exact hh
 .show Ku _ (Eo D.way ks D.sure D.way.length)
  rw[show D.way.length=S.under.length from by rw[h.wy]]
  exact hh
end Go.Proofs.Ytmhokapokchneaa
namespace Go.Proofs.Ytmhokapokchneaa
open Go Go.En Go.Pu
set_option maxRecDepth 4000
set_option maxHeartbeats 2000000
theorem Ro(x:ByteArray)(w:V2):aH pg mN #[.string x] w (λr w'=>r= .bool false/\w'=w):=by
 refine D9 ?_
 unfold CU Ac
 have k1:(x.toList==x.toList)=true:=beq_self_eq_true _
 simp(disch:=omega)only[aB,Jd,k1,VJ,aV,and_true]
theorem oN(x y:ByteArray)(w:V2):aH pg bM #[.string x,.string y] w (λr w'=>r= .bool (fU x y)/\w'=w):=by
 refine Fl ?_
 unfold Ev Bc
 refine(Ro x w).mono ?_
 rintro r w1 ⟨rfl,rfl⟩
 simp(disch:=omega)only[uG,aB,qH,UE,if_false,aV,uF,mK,M5,true_and,lL]
end Go.Proofs.Ytmhokapokchneaa
namespace Go.Proofs.Ytmhokapokchneaa
open Go Go.En Go.Pu
def IE(L:List ByteArray):Prop:=L.Pairwise λx y=>fU x y=true
theorem Mk:∀{A B:List ByteArray},IE A->IE B->(∀x,x∈A↔x∈B)->A=B
 |[],[],_,_,_=>rfl
 |[],b::B,_,_,h=>by have:=(h b).2 UP;cases this
 |a::A,[],_,_,h=>by have:=(h a).1 UP;cases this
 |a::A,b::B,ha,hb,h=>by
  obtain⟨ha1,ha2⟩:=Vh.1 ha
  obtain⟨hb1,hb2⟩:=Vh.1 hb
  have hab:a=b:=by
   rcases UD.1 ((h a).1 UP)with h1|h1
   .exact h1
   .rcases UD.1 ((h b).2 UP)with h2|h2
    .exact h2.symm
    .have:=xR (hb1 a h1) (ha1 b h2)
     rw[An]at this
     cases this
  subst hab
  refine congrArg _ (Mk ha2 hb2 λx=> ?_)
  have hx:=h x
  rw[UD,UD]at hx
  constructor
  .intro hm
   rcases hx.1 (.inr hm)with e|e
   .have:=ha1 x hm
    rw[e,An]at this
    cases this
   .exact e
  .intro hm
   rcases hx.2 (.inr hm)with e|e
   .have:=hb1 x hm
    rw[e,An]at this
    cases this
   .exact e
end Go.Proofs.Ytmhokapokchneaa
namespace Go.Pu
def FC(p:Int):Int:=if p<0 then 1 else p
def fits:Int->List Int->Bool
 |left,[]=>left==0
 |left,p::r=>if p< -1∨left<FC p then false else fits (left-FC p) r
def Mq(ps:List Int):Int:=(ps.map FC).sum
def RT(log:Int)(ps:List Int):Bool:=decide (5<=log/\log<=15/\1<=ps.length/\ps.length<=256/\ps.getLast?≠some 0)
def S8 (log:Int)(ps:List Int):Bool:=RT log ps&&fits (2^log.toNat) ps
theorem Kq(p:Int)(ps:List Int):Mq (p::ps)=FC p+Mq ps:=by simp[Mq]
theorem JQ{p:Int}(h: -1<=p):0<=FC p:=by unfold FC;split<;>omega
theorem Mr{ps:List Int}(h:∀p∈ps,-1<=p):0<=Mq ps:=by
 induction ps with
 |nil=>simp[Mq]
 |cons p r ih=>
  rw[Kq]
  have:=JQ (h p (by simp))
  have:=ih λq hq=>h q (UC _ hq)
  omega
theorem LD:∀{ps:List Int} {left:Int},fits left ps=true↔(∀p∈ps,-1<=p)/\Mq ps=left
 |[],left=>by simp[fits,Mq];constructor<;>intro h<;>omega
 |p::r,left=>by
  rw[fits,Kq]
  by_cases h:p< -1∨left<FC p
  .rw [if_pos h]
   constructor
   .intro h;cases h
   .rintro ⟨h1,h2⟩
    have hp:=h1 p (by simp)
    have:=Mr (ps:=r) λq hq=>h1 q (UC _ hq)
    omega
  .rw [if_neg h,LD]
   constructor
   .rintro ⟨h1,h2⟩
    exact⟨λq hq=>by rcases UD.1 hq with rfl|hq;·omega
                    .exact h1 q hq,by omega⟩
   .rintro ⟨h1,h2⟩
    exact⟨λq hq=>h1 q (UC _ hq),by omega⟩
structure T6 (log:Nat)(ps:List Int):Prop where
 log5:5<=log
 log15:log<=15
 len1:1<=ps.length
 len256:ps.length<=256
 last:ps.getLast?≠some 0
 low:∀p∈ps,-1<=p
 sum:Mq ps=2^log
theorem T6.b {log:Nat}{ps:List Int}(h:T6 log ps):S8 log ps=true:=by
 unfold S8 RT
 simp only[Uz,decide_eq_true_eq]
 have h1:=h.log5
 have h2:=h.log15
 refine⟨⟨by omega,by omega,h.len1,h.len256,h.last⟩, ?_⟩
 rw[LD,UJ]
 exact⟨h.low,h.sum⟩
def pos(n j:Nat):Nat:=(j*(n/2+n/8+3))%n
def bl(k:Nat):Nat:=if k=0 then 0 else k.log2+1
theorem RS(k:Nat):k<2^bl k:=by
 unfold bl
 split
 .subst_vars;simp
 .exact Nat.lt_log2_self
theorem NH{k:Nat}(h:k≠0):2^(bl k-1)<=k:=by
 unfold bl
 rw[if_neg h,Nat.add_sub_cancel]
 exact Nat.log2_self_le h
theorem Sa{k:Nat}(h:k≠0):1<=bl k:=by unfold bl;rw[if_neg h];omega
theorem Lo{k n:Nat}(h:k<2^n):bl k<=n:=by
 by_cases h0:k=0
 .subst h0;simp[bl]
 .rcases U0 n (bl k)with hh|hh
  .have h1:=NH h0
   have:=Nat.pow_le_pow_right (n:=2) (by omega) (show n<=bl k-1 by omega)
   omega
  .exact hh
theorem SZ{k n:Nat}(h1:2^n<=k)(h2:k<2^(n+1)):bl k=n+1:=by
 have h0:k≠0:=by have:=Nat.two_pow_pos n;omega
 have a:=Lo h2
 have b:=RS k
 rcases U0 (bl k) (n+1)with h|h
 .have:=Nat.pow_le_pow_right (n:=2) (by omega) (show bl k<=n by omega)
  omega
 .omega
end Go.Pu
namespace Go.Proofs.Ytmhokapokchneaa
open Go Go.En Go.Pu
set_option maxRecDepth 4000
def MV:ByteArray:=⟨#[0,1,2,2,3,3,3,3,4,4,4,4,4,4,4,4,5,5,5,5,5,5,5,5,5,5,5,5,5,5,5,5,6,6,6,6,6,6,6,6,6,6,6,6,6,6,6,6,6,6,6,6,6,6,6,6,6,6,6,6,6,6,6,6,7,7,7,7,7,7,7,7,7,7,7,7,7,7,7,7,7,7,7,7,7,7,7,7,7,7,7,7,7,7,7,7,7,7,7,7,7,7,7,7,7,7,7,7,7,7,7,7,7,7,7,7,7,7,7,7,7,7,7,7,7,7,7,7,8,8,8,8,8,8,8,8,8,8,8,8,8,8,8,8,8,8,8,8,8,8,8,8,8,8,8,8,8,8,8,8,8,8,8,8,8,8,8,8,8,8,8,8,8,8,8,8,8,8,8,8,8,8,8,8,8,8,8,8,8,8,8,8,8,8,8,8,8,8,8,8,8,8,8,8,8,8,8,8,8,8,8,8,8,8,8,8,8,8,8,8,8,8,8,8,8,8,8,8,8,8,8,8,8,8,8,8,8,8,8,8,8,8,8,8,8,8,8,8,8,8,8,8,8,8,8,8]⟩
theorem Hb:MV.size=256:=by decide
set_option maxRecDepth 100000 in
theorem P6 (x:Nat)(h:x<256):(MV[x]'(by rw[Hb];exact h)).toNat=bl x:=by
 have:∀k:Fin 256,(MV.data[k.val]!).toNat=bl k.val:=by decide+kernel
 have h2:=this ⟨x,h⟩
 simp only at h2
 rw[<-h2]
 have hs:x<MV.data.size:=by have:=Hb;exact(show MV.data.size=256 from this)▸h
 rw[getElem!_pos MV.data x hs]
 rfl
theorem IK{x j:Nat}(h:2^j<=x):bl x=bl (x/2^j)+j:=by
 have hp:=Nat.two_pow_pos j
 have h0:x/2^j≠0:=by
  have:=Nat.div_pos h hp
  omega
 have a:=NH h0
 have b:=RS (x/2^j)
 have c:=Sa h0
 obtain⟨m,hm⟩:∃m,bl (x/2^j)=m+1:=⟨bl (x/2^j)-1,by omega⟩
 rw[hm,Nat.add_sub_cancel]at a
 rw[hm]at b⊢
 have h1:2^(m+j)<=x:=by
  rw[Nat.pow_add]
  exact Vm (VI _ a) (Nat.div_mul_le_self _ _)
 have h2:x<2^(m+j+1):=by
  rw[show m+j+1=(m+1)+j from by omega,Nat.pow_add]
  exact(Nat.div_lt_iff_lt_mul hp).1 b
 rw[SZ h1 h2];omega
theorem LP{x n:Nat}(hx:x<256)(hn:n<=1000)(R:V3->V2->Prop)(w:V2)(h:R (.int .i64 ((n+bl x:Nat):Int)) w):
 nW R (.int .u64 x) (.int .i64 n) w:=by
 have hg:=P6 x hx
 have hs:=Hb
 have hb:bl x<=8:=Lo (n:=8) (by omega)
 unfold nW
 change aB pg _ w λt21 w=>aB pg (OX 9 (.string MV) t21) w _
 simp(disch:=omega)only[aB,B9,TI,aV,G7,UJ,hg,F7,Cp,Ja]
 rw[Int.natCast_add]at h
 exact h
theorem PS(a b:Nat):((a:Int)).fdiv (b:Int)=((a/b:Nat):Int):=by rw[Int.fdiv_eq_ediv_of_nonneg _ (by omega)]<;>rfl
theorem KV(x j:Nat)(hj:j<=64):((x:Int)).fdiv (2^(min (j:Nat) IntKind.u64.bits))=((x/2^j:Nat):Int):=by
 have e:min j IntKind.u64.bits=j:=by simp only[IntKind.bits];omega
 rw[e,<-PS];simp
theorem Rq(x:Nat)(hx:x<18446744073709551616)(w:V2):aH pg pA #[.int .u64 x] w (λr w'=>r= .int .i64 (bl x:Nat)/\w'=w):=by
 refine Ds ?_
 unfold Ck yW yV
 have step8:∀(y n:Nat),y<65536->n<=64->n+bl y=bl x->nX (λr w'=>r= .int .i64 (bl x:Nat)/\w'=w) (.int .u64 y) (.int .i64 n) w:=by
  intro y n hy hn e
  unfold nX yT
  by_cases h:256<=y
  .have d:decide ((256:Int)<=(y:Int))=true:=by simp;omega
   have sh:=KV y 8 (by omega)
   have hq:y/2^8<256:=by omega
   have:=IK (x:=y) (j:=8) (by omega)
   have e2:(n:Int)+8=((n+8:Nat):Int):=by omega
   simp(disch:=omega)only[aB,Cm,d,Jb,Ja,e2,Cp,aV,jJ]
   rw[show(8:Int).toNat=8 from rfl,sh]
   exact LP hq (by omega) _ _ ⟨by rw[<-e,this];congr 2;omega,rfl⟩
  .have d:decide ((256:Int)<=(y:Int))=false:=by simp;omega
   simp(disch:=omega)only[aB,Cm,d,Jb,Ja,Cp,aV,eH]
   exact LP (by omega) (by omega) _ _ ⟨by rw[e],rfl⟩
 have step16:∀(y n:Nat),y<4294967296->n<=32->n+bl y=bl x->nY (λr w'=>r= .int .i64 (bl x:Nat)/\w'=w) (.int .u64 y) (.int .i64 n) w:=by
  intro y n hy hn e
  unfold nY yU
  by_cases h:65536<=y
  .have d:decide ((65536:Int)<=(y:Int))=true:=by simp;omega
   have sh:=KV y 16 (by omega)
   have hq:y/2^16<65536:=by omega
   have:=IK (x:=y) (j:=16) (by omega)
   have e2:(n:Int)+16=((n+16:Nat):Int):=by omega
   simp(disch:=omega)only[aB,Cm,d,Jb,Ja,e2,Cp,aV,jJ]
   rw[show(16:Int).toNat=16 from rfl,sh]
   exact step8 _ _ hq (by omega) (by rw[<-e,this];omega)
  .have d:decide ((65536:Int)<=(y:Int))=false:=by simp;omega
   simp(disch:=omega)only[aB,Cm,d,Jb,Ja,Cp,aV,eH]
   exact step8 _ _ (by omega) (by omega) e
 by_cases h:4294967296<=x
 .have d:decide ((4294967296:Int)<=(x:Int))=true:=by simp;omega
  have sh:=KV x 32 (by omega)
  have hq:x/2^32<4294967296:=by omega
  have:=IK (x:=x) (j:=32) (by omega)
  simp(disch:=omega)only[aB,Cm,d,Jb,aV,jJ]
  rw[show(32:Int).toNat=32 from rfl,sh]
  exact step16 _ 32 hq (by omega) (by rw[this];omega)
 .have d:decide ((4294967296:Int)<=(x:Int))=false:=by simp;omega
  simp(disch:=omega)only[aB,Cm,d,Jb,aV,eH]
  exact step16 _ 0 (by omega) (by omega) (by omega)
theorem P7 (x:Nat)(hx:x<18446744073709551616)(w:V2):aH pg oH #[.int .u64 x] w (λr w'=>r= .int .i64 (bl x:Nat)/\w'=w):=by
 refine Fz ?_
 simp(disch:=omega)only[EG,Bw,aB,C0,aV,eH]
 exact Rq x hx w
end Go.Proofs.Ytmhokapokchneaa
namespace Go.Proofs.Ytmhokapokchneaa
open Go Go.En Go.Pu
set_option maxRecDepth 4000
set_option maxHeartbeats 2000000
theorem P0 {a:Option Addr}{c:Nat}{w:V2}:aH pg aZ #[.slice a 0 c,.int .i64 0,.int .i64 (0:Nat)] w (λr w'=>r= .tuple #[]/\w'=w):=by
 refine jD ?_
 have z1:(0:Int)+1=((1:Nat):Int):=rfl
 unfold gR fA eZ
 simp(disch:=omega)only[aB,Ja,z1,Cp,true_and,aV]
 unfold bV
 refine bG.rule (λm (t:V3) w'=>m=0/\t= .int .i64 ((1:Nat):Int)/\w'=w) 0 ⟨rfl,rfl,rfl⟩ ?_
 rintro m t w1 ⟨rfl,rfl,rfl⟩
 have d1:decide (((1:Nat):Int)<((0:Nat):Int))=false:=rfl
 unfold cW fO
 simp(disch:=omega)only[aB,wX,d1,aV,eH]
theorem S9 {a:Option Addr}{n c:Nat}{l:Int}{w:V2}{R:V3->V2->Prop}(hn:n<=12)(h:aH pg aZ #[.slice a n c,.int .i64 0,.int .i64 (n:Nat)] w (λr w'=>R (.tuple #[]) w')):
 aH pg aY #[.slice a n c,.int .i64 0,.int .i64 (n:Nat),.int .i64 l] w R:=by
 refine iK ?_
 unfold hJ eP eL cG
 refine bG.rule (λm (t:V3×V3×V3×V3×V3) w'=>m=0/\t=(.int .i64 0,.int .i64 (n:Nat),.int .i64 l,.bool true,.bool true)/\w'=w) 0 ⟨rfl,rfl,rfl⟩ ?_
 rintro m t w1 ⟨rfl,rfl,rfl⟩
 unfold cF fF fE
 have q1:((n:Nat):Int)-0=((n:Nat):Int):=by omega
 have d1:decide (((n:Nat):Int)<=12)=true:=by simp only[decide_eq_true_eq];omega
 simp(disch:=omega)only[aB,R3,q1,Cp,HL,R2,VJ,aV,eH,R1,d1,jJ]
 exact h
theorem SF{a:Option Addr}{n c:Nat}{w:V2}{R:V3->V2->Prop}(hn:n<=12)(h:aH pg aZ #[.slice a n c,.int .i64 0,.int .i64 (n:Nat)] w (λr w'=>R (.tuple #[]) w')):
 aH pg iO #[.slice a n c] w R:=by
 refine tT ?_
 unfold uU qJ
 have e1:IntKind.u64.wrap ((n:Nat):Int)=((n:Nat):Int):=Mt (by omega) (by omega)
 simp(disch:=omega)only[aB,Gn,aV,HE,e1]
 refine(P7 n (by omega) w).mono ?_
 rintro r w1 ⟨rfl,rfl⟩
 exact S9 hn h
end Go.Proofs.Ytmhokapokchneaa
namespace Go.Proofs.Ytmhokapokchneaa
open Go Go.En Go.Pu Go.Sort
set_option maxRecDepth 4000
theorem DY:SWO fU where
 irrefl:=An
 trans:=λ_ _ _=>xR
 ntrans:=λx y z h1 h2=>by
  by_cases e1:x=y
  .rw [e1];exact h2
  .have h3:=DQ e1 h1
   by_cases e2:y=z
   .rw [<-e2];exact h1
   .have h4:=DQ e2 h2
    have h5:=xR h4 h3
    cases h6:fU x z with
    |false=>rfl
    |true=>have:=xR h5 h6;rw[An]at this;cases this
abbrev hU(d:Array ByteArray):List V3:=d.toList.map Value.string
theorem gP(d:Array ByteArray):(hU d).length=d.size:=by simp
theorem TV{d:Array ByteArray}{i:Nat}(h:i<d.size):d.toList[i]?=some d[i]! :=by
 rw[getElem!_pos d i h,Vq,UH h]
theorem dF{W:V2}{b i:Nat}{d:Array ByteArray}{rest:List V3}(o:bD W b (hU d++rest))(h:i<d.size):W.cell? ⟨b,i,none⟩=some (.string d[i]!):=by
 rw[o.cell,UN (by rw[gP];exact h),U9,TV h]
 rfl
theorem vN{d:Array ByteArray}{i j:Nat}{rest:List V3}(hi:i<d.size)(hj:j<d.size):((hU d++rest).set i (.string d[j]!)).set j (.string d[i]!)=hU (swp d i j)++rest:=by
 rw[VY _ _ (by rw[gP];exact hi),VY _ _ (by rw[UU,gP];exact hj)]
 unfold hU swp
 rw[Array.toList_setIfInBounds,Array.toList_setIfInBounds,List.map_set,List.map_set]
abbrev qT(b n c:Nat):V3:= .slice (some ⟨b,0,none⟩) n c
theorem I6 {b c x y sp:Nat}{s:Nat}{d:Array ByteArray}{rest:List V3}{w:V2}(o:bD w b (hU d++rest))(hx:x<d.size)(hy:y<d.size)(hd:d.size<=1000000)(os:bD w sp [.int .i64 (s:Nat)])(hs:s<=1000000):
 aH pg cN #[qT b d.size c,.int .i64 (x:Nat),.int .i64 (y:Nat),.pointer (some ⟨sp,0,none⟩)] w (λr w'=>∃x' y' s':Nat,r= .tuple #[.int .i64 (x':Nat),.int .i64 (y':Nat)]/\((x'=x/\y'=y)∨(x'=y/\y'=x))/\bD w' sp [.int .i64 (s':Nat)]/\s'<=s+1/\aJ w w' (λz=>z=sp)):=by
 refine uW ?_
 unfold qD oL
 have cx:=dF (aP o) hx
 have cy:=dF (aP o) hy
 simp(disch:=omega)only[seval,cx,cy]
 refine(oN _ _ _).mono ?_
 rintro r w1 ⟨rfl,rfl⟩
 have cs:=(aP os).cell (off:=0)
 simp only[Uv]at cs
 have e1:((s:Nat):Int)+1=((s+1:Nat):Int):=by omega
 cases hl:fU d[y]! d[x]! with
 |true=>
  simp(disch:=omega)only[seval,hl,cs,e1]
  refine DH (aP os) rfl (by simp) λw2 o2 x2 s2=> ?_
  exact⟨y,x,s+1,rfl,.inr ⟨rfl,rfl⟩,o2,by omega,(aJ.dr _ _).seq x2⟩
 |false=>
  simp(disch:=omega)only[seval,hl]
  exact⟨x,y,s,rfl,.inl ⟨rfl,rfl⟩,aP os,by omega,aJ.dr _ _⟩
theorem Qb{b c x y z sp:Nat}{s:Nat}{d:Array ByteArray}{rest:List V3}{w:V2}(o:bD w b (hU d++rest))(hx:x<d.size)(hy:y<d.size)(hz:z<d.size)(hd:d.size<=1000000)(os:bD w sp [.int .i64 (s:Nat)])(hs:s<=1000)(hb:b≠sp):
 aH pg fX #[qT b d.size c,.int .i64 (x:Nat),.int .i64 (y:Nat),.int .i64 (z:Nat),.pointer (some ⟨sp,0,none⟩)] w (λr w'=>∃m s':Nat,r= .int .i64 (m:Nat)/\(m=x∨m=y∨m=z)/\bD w' sp [.int .i64 (s':Nat)]/\s'<=s+3/\aJ w w' (λz=>z=sp)):=by
 refine uV ?_
 unfold qC oK
 refine(I6 o hx hy hd os (by omega)).mono ?_
 rintro r w1 ⟨x1,y1,s1,rfl,h1,o1,hs1,e1⟩
 simp(disch:=omega)only[seval]
 have ob1:=o.ext e1 hb
 refine(I6 ob1 (x:=y1) (y:=z) (by omega) hz hd o1 (by omega)).mono ?_
 rintro r w2 ⟨x2,y2,s2,rfl,h2,o2,hs2,e2⟩
 simp(disch:=omega)only[seval]
 have ob2:=ob1.ext e2 hb
 refine(I6 ob2 (x:=x1) (y:=x2) (by omega) (by omega) hd o2 (by omega)).mono ?_
 rintro r w3 ⟨x3,y3,s3,rfl,h3,o3,hs3,e3⟩
 simp(disch:=omega)only[seval]
 exact⟨y3,s3,rfl,by omega,o3,by omega,(e1.seq e2).seq e3⟩
theorem Tq(k:Nat)(h:k<=20):IntKind.u64.wrap (1*2^(min k IntKind.u64.bits))=((2^k:Nat):Int):=by
 have:∀k:Fin 21,IntKind.u64.wrap (1*2^(min k.val IntKind.u64.bits))=((2^k.val:Nat):Int):=by decide
 exact this ⟨k,by omega⟩
theorem QV(a b:Int):∃n:Nat,Mv .u64 a b=(n:Int)/\n<2^64:=by
 unfold Mv
 refine⟨(IntKind.u64.wrap ((BitVec.ofInt IntKind.u64.bits a^^^BitVec.ofInt IntKind.u64.bits b).toNat:Int)).toNat, ?_, ?_⟩<;>rw[show∀z:Int,IntKind.u64.wrap z=z%18446744073709551616 fromλ_=>rfl]<;>omega
theorem Rt{n:Nat}{w:V2}(hn:n<=1000000):aH pg jC #[.int .i64 (n:Nat)] w (λr w'=>r= .int .u64 ((2^bl n:Nat):Int)/\w'=w):=by
 refine zL ?_
 unfold tV rA
 have e1:IntKind.u64.wrap ((n:Nat):Int)=((n:Nat):Int):=Mt (by omega) (by omega)
 simp(disch:=omega)only[seval,e1]
 refine(P7 n (by omega) w).mono ?_
 rintro r w1 ⟨rfl,rfl⟩
 have hb:bl n<=20:=by
  unfold bl
  split
  .omega
  .have h2:n.log2<20:=(Nat.log2_lt (by omega)).2 (by omega)
   omega
 have q1:=Tq (bl n) hb
 simp(disch:=omega)only[seval,q1]
theorem TK{p:Nat}{v:Nat}{w:V2}(o:bD w p [.int .u64 (v:Nat)])(hv:v<2^64):aH pg jT #[.pointer (some ⟨p,0,none⟩)] w (λr w'=>∃v':Nat,r= .int .u64 (v':Nat)/\v'<2^64/\bD w' p [.int .u64 (v':Nat)]/\aJ w w' (λz=>z=p)):=by
 refine Aa ?_
 unfold wE sI
 have c0:=(aP o).cell (off:=0)
 simp only[Uv]at c0
 simp(disch:=omega)only[seval,c0]
 obtain⟨v1,h1,hv1⟩:=QV (v:Nat) (IntKind.u64.wrap ((v:Nat)*2^min 13 IntKind.u64.bits))
 simp(disch:=omega)only[seval,h1]
 refine oE (aP o) rfl (by simp) λw1 o1 x1 s1=> ?_
 simp only[UM]at o1
 have c1:=(aP o1).cell (off:=0)
 simp only[Uv]at c1
 simp(disch:=omega)only[seval,c1]
 generalize hz2:Mv IntKind.u64 (v1:Nat) _=z2
 obtain⟨v2,h2,hv2⟩:∃n:Nat,z2=(n:Int)/\n<2^64:=hz2▸QV _ _
 subst h2
 refine oE (aP o1) rfl (by simp) λw2 o2 x2 s2=> ?_
 simp only[UM]at o2
 have c2:=(aP o2).cell (off:=0)
 simp only[Uv]at c2
 simp(disch:=omega)only[seval,c2]
 generalize hz3:Mv IntKind.u64 (v2:Nat) _=z3
 obtain⟨v3,h3,hv3⟩:∃n:Nat,z3=(n:Int)/\n<2^64:=hz3▸QV _ _
 subst h3
 refine oE (aP o2) rfl (by simp) λw3 o3 x3 s3=> ?_
 simp only[UM]at o3
 have c3:=o3.cell (off:=0)
 simp only[Uv]at c3
 simp(disch:=omega)only[seval,c3]
 exact⟨v3,rfl,hv3,o3,((((aJ.dr _ _).seq x1).seq (aJ.dr _ _)).seq x2).seq ((aJ.dr _ _).seq x3)⟩
def Q8 (b:Nat)(rest:List V3)(a e:Nat)(d:Array ByteArray)(w':V2):Prop:=∃d',bD w' b (hU d'++rest)/\PermIn a e d d'
theorem OR{b c a e:Nat}{d:Array ByteArray}{rest:List V3}{w:V2}(o:bD w b (hU d++rest))(hae:a<=e)(he1:1<=e)(he:e<=d.size)(hd:d.size<=1000000):
 aH pg dW #[qT b d.size c,.int .i64 (a:Nat),.int .i64 (e:Nat)] w (λr w'=>r= .tuple #[]/\Q8 b rest a e d w'/\aJ w w' (λy=>y=b)):=by
 refine qL ?_
 obtain⟨RR,hRR⟩:∃RR:V3->V2->Prop,RR=λr w'=>r= .tuple #[]/\Q8 b rest a e d w'/\aJ w w' (λy=>y=b):=⟨_,rfl⟩
 rw[<-hRR]
 unfold mI kW kV
 have e1:((e:Nat):Int)-1=((e-1:Nat):Int):=by omega
 simp(disch:=omega)only[seval,e1]
 unfold dU
 refine bG.rule (λm (t:V3×V3) w'=>∃(i j:Int) (d':Array ByteArray),m=(j-i+1).toNat/\t=(.int .i64 i,.int .i64 j)/\(a:Int)<=i/\j<(e:Nat)/\ -1<=j/\i<=2000000/\bD w' b (hU d'++rest)/\PermIn a e d d'/\aJ w w' (λy=>y=b)) _
  ⟨_,_,d,rfl,rfl,by omega,by omega,by omega,by omega,o,permIn_refl _ _ _,aJ.refl _ _⟩ ?_
 rintro m t w1 ⟨i,j,d',rfl,rfl,hi,hj,hj1,hi2,o1,hp,x1⟩
 have hsz:=hp.1
 unfold fR
 by_cases hlt:i<j
 .have d1:decide (i<j)=true:=decide_eq_true hlt
  obtain⟨i',rfl⟩:∃i':Nat,i=(i':Int):=⟨i.toNat,by omega⟩
  obtain⟨j',rfl⟩:∃j':Nat,j=(j':Int):=⟨j.toNat,by omega⟩
  have ci:=dF (aP o1) (i:=i') (by omega)
  have cj:=dF (aP o1) (i:=j') (by omega)
  simp(disch:=omega)only[seval,d1,ci,cj]
  refine eD (aP o1) rfl (by rw[Uu,gP];omega) λw2 o2 x2 s2=> ?_
  try simp(disch:=omega)only[seval]
  refine eD o2 rfl (by rw[UU,Uu,gP];omega) λw3 o3 x3 s3=> ?_
  rw[vN (by omega) (by omega)]at o3
  have q1:((i':Nat):Int)+1=((i'+1:Nat):Int):=by omega
  have q2:((j':Nat):Int)-1=((j'-1:Nat):Int):=by omega
  simp(disch:=omega)only[seval,q1,q2]
  exact⟨(((j'-1:Nat):Int)-((i'+1:Nat):Int)+1).toNat,by omega,_,_,swp d' i' j',rfl,rfl,by omega,by omega,by omega,by omega,o3,permIn_trans _ _ _ _ _ hp (swp_permIn _ _ _ _ _ (by omega) (by omega) (by omega) (by omega) (by omega)),((x1.seq (aJ.dr _ _)).seq x2).seq x3⟩
 .have d1:decide (i<j)=false:=decide_eq_false hlt
  simp(disch:=omega)only[seval,d1]
  rw[hRR]
  exact⟨rfl,⟨d',o1,hp⟩,x1⟩
theorem SY{a b:Nat}:∃n:Nat,MC .u64 (a:Int) (b:Int)=(n:Int)/\n<=b:=by
 refine⟨(BitVec.ofInt 64 (a:Int)&&&BitVec.ofInt 64 (b:Int)).toNat, ?_, ?_⟩
 .unfold MC
  rw[show IntKind.u64.bits=64 from rfl,show∀z:Int,IntKind.u64.wrap z=z%18446744073709551616 fromλ_=>rfl]
  have:=(BitVec.ofInt 64 (a:Int)&&&BitVec.ofInt 64 (b:Int)).isLt
  omega
 .rw [BitVec.toNat_and]
  refine Vm Nat.and_le_right ?_
  rw[BitVec.ofInt_natCast,BitVec.toNat_ofNat]
  exact Nat.mod_le _ _
theorem Sb{n:Nat}(h:1<=n):1<=2^bl n/\2^bl n<=2*n:=by
 refine⟨Nat.one_le_two_pow, ?_⟩
 unfold bl
 rw[if_neg (by omega),Nat.pow_succ,Nat.mul_comm]
 exact Nat.mul_le_mul_left 2 (Nat.log2_self_le (by omega))
theorem Rd{b c a e:Nat}{d:Array ByteArray}{rest:List V3}{w:V2}(o:bD w b (hU d++rest))(hae:a<=e)(he:e<=d.size)(hd:d.size<=1000000):
 aH pg dS #[qT b d.size c,.int .i64 (a:Nat),.int .i64 (e:Nat)] w (λr w'=>r= .tuple #[]/\Q8 b rest a e d w'/\aJ w w' (λy=>y=b)):=by
 refine pZ ?_
 obtain⟨RR,hRR⟩:∃RR:V3->V2->Prop,RR=λr w'=>r= .tuple #[]/\Q8 b rest a e d w'/\aJ w w' (λy=>y=b):=⟨_,rfl⟩
 rw[<-hRR]
 unfold lP jR jQ
 have e1:((e:Nat):Int)-((a:Nat):Int)=((e-a:Nat):Int):=by omega
 obtain⟨n,hn⟩:∃n,n=e-a:=⟨_,rfl⟩
 rw[<-hn]at e1
 by_cases h8:n<8
 .have d1:decide ((8:Int)<=((n:Nat):Int))=false:=decide_eq_false (by omega)
  simp(disch:=omega)only[seval,e1,d1]
  unfold cV jP
  simp(disch:=omega)only[seval]
  rw[hRR]
  exact⟨rfl,⟨d,o,permIn_refl _ _ _⟩,aJ.refl _ _⟩
 have d1:decide ((8:Int)<=((n:Nat):Int))=true:=decide_eq_true (by omega)
 simp(disch:=omega)only[seval,e1,d1]
 unfold cV jO jN
 have e2:IntKind.u64.wrap ((n:Nat):Int)=((n:Nat):Int):=Mt (by omega) (by omega)
 simp(disch:=omega)only[seval,e2]
 refine Fc λw1 o1 x1 s1=> ?_
 obtain⟨rp,hrp⟩:∃rp,rp=w.heap.size:=⟨_,rfl⟩
 rw[<-hrp]at o1⊢
 refine oE o1 rfl (by simp) λw2 o2 x2 s2=> ?_
 have o2:bD w2 rp [.int .u64 (n:Nat)]:=o2
 have hb:=o.lt
 have hbr:b≠rp:=by omega
 have x02:aJ w w2 (λy=>y=b):=(x1.trans x2 λy hy h=>by omega:aJ w w2 bQ).mono λ_ _ h=>h.elim
 have ob2:bD w2 b (hU d++rest):=(o.ext x1 (λh=>h)).ext x2 hbr
 refine(Rt (n:=n) (by omega)).mono ?_
 rintro r w3 ⟨rfl,hw3⟩
 rw[hw3];clear hw3 w3
 obtain⟨M,hM⟩:∃M,M=2^bl n:=⟨_,rfl⟩
 have hM2:=Sb (n:=n) (by omega)
 rw[<-hM]at hM2⊢
 have q1:((n:Nat):Int).tdiv 4=((n/4:Nat):Int):=rfl
 obtain⟨K,hK⟩:∃K,K=n/4:=⟨_,rfl⟩
 rw[<-hK]at q1
 have q2:((K:Nat):Int)*2=((K*2:Nat):Int):=by omega
 have q3:((a:Nat):Int)+((K*2:Nat):Int)=((a+K*2:Nat):Int):=by omega
 have q4:((a+K*2:Nat):Int)-1=((a+K*2-1:Nat):Int):=by omega
 have q5:((a+K*2:Nat):Int)+1=((a+K*2+1:Nat):Int):=by omega
 have n4:((4:Int)==0)=false:=rfl
 simp(disch:=omega)only[seval,q1,q2,q3,q4,n4]
 unfold dB
 refine bG.rule (λm (t:V3) w'=>∃(i v:Nat) (d':Array ByteArray),m=a+K*2+2-i/\t= .int .i64 (i:Nat)/\a+K*2-1<=i/\i<=a+K*2+2/\bD w' rp [.int .u64 (v:Nat)]/\v<2^64/\bD w' b (hU d'++rest)/\PermIn a e d d'/\aJ w2 w' (λy=>y=b∨y=rp)) _
  ⟨_,n,d,rfl,rfl,by omega,by omega,o2,by omega,ob2,permIn_refl _ _ _,aJ.refl _ _⟩ ?_
 rintro m t w4 ⟨i,v,d',rfl,rfl,hi1,hi2,o4,hv,ob4,hp,x4⟩
 have hsz:=hp.1
 unfold fK kC
 by_cases hlt:i<=a+K*2+1
 rotate_left
 .have d2:decide (((i:Nat):Int)<=((a+K*2+1:Nat):Int))=false:=decide_eq_false (by omega)
  simp(disch:=omega)only[seval,q1,q2,q3,q5,n4,d2]
  rw[hRR]
  exact⟨rfl,⟨d',ob4,hp⟩,x02.trans x4 λy hy h=>by omega⟩
 have d2:decide (((i:Nat):Int)<=((a+K*2+1:Nat):Int))=true:=decide_eq_true (by omega)
 simp(disch:=omega)only[seval,q1,q2,q3,q5,n4,d2]
 unfold fJ fI kB
 refine(TK o4 hv).mono ?_
 rintro r w5 ⟨v',rfl,hv',o5,x5⟩
 have ob5:=ob4.ext x5 hbr
 have q6:((M:Nat):Int)-1=((M-1:Nat):Int):=by omega
 obtain⟨t,ht,htM⟩:=SY (a:=v') (b:=M-1)
 have go:∀u:Nat,u<n->dA (cZ λ_ _ _ _ _ kJ w=>∃m,m<a+K*2+2-i/\∃(i v:Nat) (d':Array ByteArray),m=a+K*2+2-i/\kJ= .int .i64 (i:Nat)/\a+K*2-1<=i/\i<=a+K*2+2/\bD w rp [.int .u64 (v:Nat)]/\v<2^64/\bD w b (hU d'++rest)/\PermIn a e d d'/\aJ w2 w (λy=>y=b∨y=rp)) (qT b d.size c) (.int .i64 (a:Nat)) (.int .i64 (n:Nat)) (.pointer (some ⟨rp,0,none⟩)) (.int .u64 (M:Nat)) (.int .i64 (i:Nat)) (.int .i64 (u:Nat)) w5:=by
  intro u hu
  unfold dA
  have q7:((a:Nat):Int)+((u:Nat):Int)=((a+u:Nat):Int):=by omega
  have ci:=dF (aP ob5) (i:=i) (by omega)
  have cu:=dF (aP ob5) (i:=a+u) (by omega)
  simp(disch:=omega)only[seval,q7,ci,cu]
  refine eD (aP ob5) rfl (by rw[Uu,gP];omega) λw6 o6 x6 s6=> ?_
  try simp(disch:=omega)only[seval,q7]
  refine eD o6 rfl (by rw[UU,Uu,gP];omega) λw7 o7 x7 s7=> ?_
  rw[vN (by omega) (by omega)]at o7
  unfold cZ
  have q8:((i:Nat):Int)+1=((i+1:Nat):Int):=by omega
  simp(disch:=omega)only[seval,q8]
  exact⟨a+K*2+2-(i+1),by omega,i+1,v',swp d' i (a+u),rfl,rfl,by omega,by omega,((o5.ext (aJ.dr _ bQ) (λh=>h)).ext x6 (Ne.symm hbr)).ext x7 (Ne.symm hbr),hv',o7,permIn_trans _ _ _ _ _ hp (swp_permIn _ _ _ _ _ (by omega) (by omega) (by omega) (by omega) (by omega)),(((x4.seq (x5.mono λ_ _ h=> .inr h)).seq (aJ.dr _ _)).seq (x6.mono λ_ _ h=> .inl h)).seq (x7.mono λ_ _ h=> .inl h)⟩
 by_cases hge:n<=t
 .have d3:decide (((n:Nat):Int)<=((t:Nat):Int))=true:=decide_eq_true (by omega)
  have q9:((t:Nat):Int)-((n:Nat):Int)=((t-n:Nat):Int):=by omega
  simp(disch:=omega)only[seval,q6,ht,d3,q9]
  exact go (t-n) (by omega)
 .have d3:decide (((n:Nat):Int)<=((t:Nat):Int))=false:=decide_eq_false (by omega)
  simp(disch:=omega)only[seval,q6,ht,d3]
  exact go t (by omega)
theorem Pz{b c a e:Nat}{d:Array ByteArray}{rest:List V3}{w:V2}(o:bD w b (hU d++rest))(hae:a<e)(h50:e-a<50)(he:e<=d.size)(hd:d.size<=1000000):
 aH pg dZ #[qT b d.size c,.int .i64 (a:Nat),.int .i64 (e:Nat)] w (λr w'=>(∃m h:Nat,r= .tuple #[.int .i64 (m:Nat),.int .i64 (h:Nat)]/\a<=m/\m<e/\h<=2)/\aJ w w' bQ):=by
 refine qZ ?_
 obtain⟨RR,hRR⟩:∃RR:V3->V2->Prop,RR=λr w'=>(∃m h:Nat,r= .tuple #[.int .i64 (m:Nat),.int .i64 (h:Nat)]/\a<=m/\m<e/\h<=2)/\aJ w w' bQ:=⟨_,rfl⟩
 rw[<-hRR]
 unfold mX kU kT
 have e1:((e:Nat):Int)-((a:Nat):Int)=((e-a:Nat):Int):=by omega
 obtain⟨n,hn⟩:∃n,n=e-a:=⟨_,rfl⟩
 rw[<-hn]at e1
 simp(disch:=omega)only[seval,e1]
 refine R7 λw1 o1 x1 s1=> ?_
 obtain⟨sp,hsp⟩:∃sp,sp=w.heap.size:=⟨_,rfl⟩
 rw[<-hsp]at o1⊢
 have o1:bD w1 sp [.int .i64 ((0:Nat):Int)]:=o1
 have hb:=o.lt
 have ob1:=o.ext x1 (λh=>h)
 have q1:((n:Nat):Int).tdiv 4=((n/4:Nat):Int):=rfl
 obtain⟨K,hK⟩:∃K,K=n/4:=⟨_,rfl⟩
 rw[<-hK]at q1
 have q0:((K:Nat):Int)*1=((K:Nat):Int):=by omega
 have q2:((K:Nat):Int)*2=((K*2:Nat):Int):=by omega
 have q3:((K:Nat):Int)*3=((K*3:Nat):Int):=by omega
 have q4:((a:Nat):Int)+((K:Nat):Int)=((a+K:Nat):Int):=by omega
 have q5:((a:Nat):Int)+((K*2:Nat):Int)=((a+K*2:Nat):Int):=by omega
 have q6:((a:Nat):Int)+((K*3:Nat):Int)=((a+K*3:Nat):Int):=by omega
 have n4:((4:Int)==0)=false:=rfl
 simp(disch:=omega)only[seval,q1,q0,q2,q3,q4,q5,q6,n4]
 unfold gC gB lC
 have fin:∀(m s:Nat) (W:V2),a<=m->m<e->bD W sp [.int .i64 (s:Nat)]->aJ w W bQ->dX RR (.pointer (some ⟨sp,0,none⟩)) (.int .i64 (m:Nat)) W:=by
  intro m s W h1 h2 oW xW
  unfold dX
  have cs:=oW.cell (off:=0)
  simp only[Uv]at cs
  cases hs0:(((s:Nat):Int)==0)with
  |true=>
   simp(disch:=omega)only[seval,cs,hs0]
   rw[hRR];exact⟨⟨m,1,rfl,h1,h2,by omega⟩,xW⟩
  |false=>
   cases hs2:(((s:Nat):Int)==12)with
   |true=>
    simp(disch:=omega)only[seval,cs,hs0,hs2]
    rw[hRR];exact⟨⟨m,2,rfl,h1,h2,by omega⟩,xW⟩
   |false=>
    simp(disch:=omega)only[seval,cs,hs0,hs2]
    rw[hRR];exact⟨⟨m,0,rfl,h1,h2,by omega⟩,xW⟩
 by_cases h8:8<=n
 .have d1:decide ((8:Int)<=((n:Nat):Int))=true:=decide_eq_true (by omega)
  have d2:decide ((50:Int)<=((n:Nat):Int))=false:=decide_eq_false (by omega)
  simp(disch:=omega)only[seval,d1]
  unfold dY lA kZ
  simp(disch:=omega)only[seval,d2]
  unfold gA
  refine(Qb ob1 (x:=a+K) (y:=a+K*2) (z:=a+K*3) (by omega) (by omega) (by omega) hd o1 (by omega) (by omega)).mono ?_
  rintro r w2 ⟨m,s',rfl,hm,o2,hs',x2⟩
  try simp(disch:=omega)only[seval]
  exact fin m s' w2 (by omega) (by omega) o2 (x1.trans x2 λy hy h=>by omega)
 .have d1:decide ((8:Int)<=((n:Nat):Int))=false:=decide_eq_false (by omega)
  simp(disch:=omega)only[seval,d1]
  unfold dY lB
  try simp(disch:=omega)only[seval]
  exact fin (a+K*2) 0 w1 (by omega) (by omega) o1 x1
theorem No{a e:Nat}{d:Array ByteArray}(h:∀k,a+1<=k->k<e->fU d[k]! d[k-1]! =false):SortedIn fU a e d:=by
 intro i j hi hij hj
 induction j with
 |zero=>omega
 |succ j ih=>
  have h1:=h (j+1) (by omega) hj
  by_cases he:i=j
  .rw [he];exact h1
  .exact DY.ntrans _ _ _ h1 (ih (by omega) (by omega))
theorem ON{b c a e:Nat}{d:Array ByteArray}{rest:List V3}{w:V2}(o:bD w b (hU d++rest))(hae:a<e)(h50:e-a<50)(he:e<=d.size)(hd:d.size<=1000000):
 aH pg bZ #[qT b d.size c,.int .i64 (a:Nat),.int .i64 (e:Nat)] w (λr w'=>(∃k:Bool,r= .bool k/\(k=true->SortedIn fU a e d))/\aJ w w' bQ):=by
 refine nC ?_
 obtain⟨RR,hRR⟩:∃RR:V3->V2->Prop,RR=λr w'=>(∃k:Bool,r= .bool k/\(k=true->SortedIn fU a e d))/\aJ w w' bQ:=⟨_,rfl⟩
 rw[<-hRR]
 unfold iV gL gK
 have e1:((a:Nat):Int)+1=((a+1:Nat):Int):=by omega
 simp(disch:=omega)only[seval,e1]
 unfold dN dM gJ bT
 refine bG.rule (λm (t:V3×V3) w'=>m=0/\t=(.int .i64 ((a+1:Nat):Int),.int .i64 0)/\w'=w) 0 ⟨rfl,rfl,rfl⟩ ?_
 rintro m t w1 ⟨rfl,rfl,rfl⟩
 unfold dL gI
 have d0:decide ((0:Int)<5)=true:=rfl
 simp(disch:=omega)only[seval,d0,decide_true]
 unfold dK dJ bS
 refine bG.rule (λm (t:V3) w'=>∃i:Nat,m=e-i/\t= .int .i64 (i:Nat)/\a+1<=i/\i<=e/\(∀k,a+1<=k->k<i->fU d[k]! d[k-1]! =false)/\aJ w1 w' bQ) _ ⟨_,rfl,rfl,by omega,by omega,λk h1 h2=>by omega,aJ.refl _ _⟩ ?_
 rintro m t w2 ⟨i,rfl,rfl,hi1,hi2,hk,x2⟩
 have o2:=(o.ext x2 (λh=>h)).ext (aJ.dr _ bQ) (λh=>h)
 have xd:=x2.seq (aJ.dr _ bQ)
 unfold dI
 have q2:((e:Nat):Int)-((a:Nat):Int)=((e-a:Nat):Int):=by omega
 have d50:decide (((e-a:Nat):Int)<50)=true:=decide_eq_true (by omega)
 by_cases hlt:i<e
 .have d1:decide (((i:Nat):Int)<((e:Nat):Int))=true:=decide_eq_true (by omega)
  have q1:((i:Nat):Int)-1=((i-1:Nat):Int):=by omega
  have ci:=dF o2 (i:=i) (by omega)
  have cj:=dF o2 (i:=i-1) (by omega)
  have q3:((i:Nat):Int)+1=((i+1:Nat):Int):=by omega
  simp(disch:=omega)only[seval,d1,q1,ci,cj]
  refine(oN _ _ _).mono ?_
  rintro r w3 ⟨rfl,rfl⟩
  cases hl:fU d[i]! d[i-1]! with
  |false=>
   simp(disch:=omega)only[seval,hl,q3]
   exact⟨e-(i+1),by omega,i+1,rfl,rfl,by omega,by omega,λk h1 h2=>by
    by_cases hki:k=i
    .rw [hki];exact hl
    .exact hk k h1 (by omega),xd⟩
  |true=>
   have k1:(((i:Nat):Int)==((e:Nat):Int))=false:=beq_eq_false_iff_ne.2 (by omega)
   simp(disch:=omega)only[seval,hl]
   unfold bR dH
   simp(disch:=omega)only[seval,k1,q2,d50]
   rw[hRR]
   exact⟨⟨false,rfl,λh=>by cases h⟩,xd⟩
 .have d1:decide (((i:Nat):Int)<((e:Nat):Int))=false:=decide_eq_false (by omega)
  obtain rfl:i=e:=by omega
  have k1:(((i:Nat):Int)==((i:Nat):Int))=true:=beq_self_eq_true _
  simp(disch:=omega)only[seval,d1]
  unfold bR dH
  simp(disch:=omega)only[seval,k1]
  rw[hRR]
  exact⟨⟨true,rfl,λ_=>No hk⟩,xd⟩
theorem PX{b c a e:Nat}{d:Array ByteArray}{rest:List V3}{w:V2}(o:bD w b (hU d++rest))(hae:a<=e)(he:e<=d.size)(hd:d.size<=1000000):
 aH pg aZ #[qT b d.size c,.int .i64 (a:Nat),.int .i64 (e:Nat)] w (λr w'=>r= .tuple #[]/\(∃d',bD w' b (hU d'++rest)/\PermIn a e d d'/\SortedIn fU a e d')/\aJ w w' (λy=>y=b)):=by
 refine jD ?_
 obtain⟨RR,hRR⟩:∃RR:V3->V2->Prop,RR=λr w'=>r= .tuple #[]/\(∃d',bD w' b (hU d'++rest)/\PermIn a e d d'/\SortedIn fU a e d')/\aJ w w' (λy=>y=b):=⟨_,rfl⟩
 rw[<-hRR]
 unfold gR fA eZ
 have e1:((a:Nat):Int)+1=((a+1:Nat):Int):=by omega
 simp(disch:=omega)only[seval,e1]
 unfold bV
 obtain⟨hP,hS⟩:=insertionSort_holds DY d a e hae he
 refine bG.rule (λm (t:V3) w'=>∃(i:Nat) (d':Array ByteArray),m=e-i/\t= .int .i64 (i:Nat)/\a+1<=i/\d'.size=d.size/\insOuter fU a e i d'=insertionSort fU d a e/\bD w' b (hU d'++rest)/\aJ w w' (λy=>y=b)/\i<=2000000) _ ⟨_,d,rfl,rfl,by omega,rfl,rfl,o,aJ.refl _ _,by omega⟩ ?_
 rintro m t w1 ⟨i,d1,rfl,rfl,hi,hsz,hO,o1,x1,hi2⟩
 unfold cW fO
 by_cases hlt:i<e
 rotate_left
 .have dd:decide (((i:Nat):Int)<((e:Nat):Int))=false:=decide_eq_false (by omega)
  rw[insOuter,if_neg hlt]at hO
  simp(disch:=omega)only[seval,dd]
  rw[hRR]
  exact⟨rfl,⟨d1,o1,hO▸hP,hO▸hS⟩,x1⟩
 have dd:decide (((i:Nat):Int)<((e:Nat):Int))=true:=decide_eq_true (by omega)
 rw[insOuter,if_pos hlt]at hO
 simp(disch:=omega)only[seval,dd]
 unfold fN fM kD dD
 refine bG.rule (λm (t:V3) w'=>∃(j:Nat) (d':Array ByteArray),m=j/\t= .int .i64 (j:Nat)/\a<=j/\j<=i/\d'.size=d.size/\insInner fU a j d'=insInner fU a i d1/\bD w' b (hU d'++rest)/\aJ w w' (λy=>y=b)) _ ⟨i,d1,rfl,rfl,by omega,by omega,hsz,rfl,o1,x1⟩ ?_
 rintro m t w2 ⟨j,d2,rfl,rfl,hj1,hj2,hsz2,hI,o2,x2⟩
 unfold fL
 have xd2:aJ w (dr w2) (λy=>y=b):=x2.seq (aJ.dr _ _)
 have next:∀W,insInner fU a m d2=d2->bD W b (hU d2++rest)->aJ w W (λy=>y=b)->dC (λ_ _ _ qR w'=>∃m,m<e-i/\∃(i:Nat) (d':Array ByteArray),m=e-i/\qR= .int .i64 (i:Nat)/\a+1<=i/\d'.size=d.size/\insOuter fU a e i d'=insertionSort fU d a e/\bD w' b (hU d'++rest)/\aJ w w' (λy=>y=b)/\i<=2000000) (qT b d.size c) (.int .i64 (a:Nat)) (.int .i64 (e:Nat)) (.int .i64 (i:Nat)) W:=by
  intro W h1 oW xW
  unfold dC
  have q3:((i:Nat):Int)+1=((i+1:Nat):Int):=by omega
  simp(disch:=omega)only[seval,q3]
  exact⟨e-(i+1),by omega,i+1,d2,rfl,rfl,by omega,hsz2,by rw[<-hO,<-hI,h1],oW,xW,by omega⟩
 by_cases hja:a<m
 rotate_left
 .have d3:decide (((a:Nat):Int)<((m:Nat):Int))=false:=decide_eq_false (by omega)
  simp(disch:=omega)only[seval,d3]
  refine next _ ?_ (aP o2) xd2
  cases m with
  |zero=>rfl
  |succ m=>rw[insInner,if_neg (by simp;omega)]
 have d3:decide (((a:Nat):Int)<((m:Nat):Int))=true:=decide_eq_true (by omega)
 have cj:=dF (aP o2) (i:=m) (by omega)
 have ck:=dF (aP o2) (i:=m-1) (by omega)
 have q1:((m:Nat):Int)-1=((m-1:Nat):Int):=by omega
 obtain⟨m',rfl⟩:∃m',m=m'+1:=⟨m-1,by omega⟩
 rw[show m'+1-1=m' from rfl]at*
 simp(disch:=omega)only[seval,d3,q1,cj,ck]
 refine(oN _ _ _).mono ?_
 rintro r w3 ⟨rfl,rfl⟩
 cases hl:fU d2[m'+1]! d2[m']! with
 |false=>
  simp(disch:=omega)only[seval,hl]
  exact next _ (by rw[insInner,hl,Bool.and_false,if_neg (by decide)]) (aP o2) xd2
 |true=>
  have cj:=dF (aP (aP o2)) (i:=m'+1) (by omega)
  have ck:=dF (aP (aP o2)) (i:=m') (by omega)
  simp(disch:=omega)only[seval,hl,q1,cj,ck]
  refine eD (aP (aP o2)) rfl (by rw[Uu,gP];omega) λw6 o6 x6 s6=> ?_
  try simp(disch:=omega)only[seval,q1]
  refine eD o6 rfl (by rw[UU,Uu,gP];omega) λw7 o7 x7 s7=> ?_
  rw[vN (by omega) (by omega)]at o7
  try simp(disch:=omega)only[seval,q1]
  exact⟨m',by omega,m',swp d2 (m'+1) m',rfl,rfl,by omega,by omega,by rw[size_swp];exact hsz2,by rw[<-hI,insInner,hl,if_pos (by simp;omega)],o7,((xd2.seq (aJ.dr _ _)).seq x6).seq x7⟩
theorem Kn(hi first:Nat):∀(n root:Nat) (d:Array ByteArray),hi-root<=n->(siftDown fU hi first root d).size=d.size:=by
 intro n
 induction n with
 |zero=>intro root d h;rw[siftDown,dif_pos (by omega)]
 |succ n ih=>
  intro root d h
  rw[siftDown]
  split
  .rfl
  .split
   .split
    .rfl
    .split
     .rw [ih _ _ (by omega),size_swp]
     .rfl
   .split
    .rfl
    .rw [ih _ _ (by omega),size_swp]
theorem QD{b c lo hi first:Nat}{d:Array ByteArray}{rest:List V3}{w:V2}(o:bD w b (hU d++rest))(hf:first+hi<=d.size)(hd:d.size<=1000000)(hlo:lo<=1000000):
 aH pg dO #[qT b d.size c,.int .i64 (lo:Nat),.int .i64 (hi:Nat),.int .i64 (first:Nat)] w (λr w'=>r= .tuple #[]/\bD w' b (hU (siftDown fU hi first lo d)++rest)/\aJ w w' (λy=>y=b)):=by
 refine tN ?_
 obtain⟨RR,hRR⟩:∃RR:V3->V2->Prop,RR=λr w'=>r= .tuple #[]/\bD w' b (hU (siftDown fU hi first lo d)++rest)/\aJ w w' (λy=>y=b):=⟨_,rfl⟩
 rw[<-hRR]
 unfold pC nF nE eS
 obtain⟨Inv,hInv⟩:∃Inv:Nat->V3->V2->Prop,Inv=λm t w'=>∃(root:Nat) (d':Array ByteArray),m=hi-root/\t= .int .i64 (root:Nat)/\root<=1000000/\d'.size=d.size/\siftDown fU hi first root d'=siftDown fU hi first lo d/\bD w' b (hU d'++rest)/\aJ w w' (λy=>y=b):=⟨_,rfl⟩
 refine bG.rule Inv (hi-lo) (by rw[hInv];exact⟨lo,d,rfl,rfl,hlo,rfl,rfl,o,aJ.refl _ _⟩) ?_
 intro m t w1 hm
 rw[hInv]at hm
 obtain⟨root,d1,rfl,rfl,hr,hsz,hS,o1,x1⟩:=hm
 unfold iT nD
 have q1:(2:Int)*((root:Nat):Int)=((2*root:Nat):Int):=by omega
 have q2:((2*root:Nat):Int)+1=((2*root+1:Nat):Int):=by omega
 have q3:((2*root+1:Nat):Int)+1=((2*root+2:Nat):Int):=by omega
 rw[siftDown]at hS
 by_cases hge:hi<=2*root+1
 .have d1':decide (((hi:Nat):Int)<=((2*root+1:Nat):Int))=true:=decide_eq_true (by omega)
  rw[dif_pos hge]at hS
  simp(disch:=omega)only[seval,q1,q2,d1']
  rw[hRR]
  exact⟨rfl,hS▸o1,x1⟩
 have d1':decide (((hi:Nat):Int)<=((2*root+1:Nat):Int))=false:=decide_eq_false (by omega)
 rw[dif_neg hge]at hS
 have go:∀(W:V2) (ch:Nat),root<ch->ch<hi->(if(!fU d1[first+root]! d1[first+ch]!)=true then d1 else siftDown fU hi first ch (swp d1 (first+root) (first+ch)))=siftDown fU hi first lo d->bD W b (hU d1++rest)->aJ w W (λy=>y=b)→
     eQ (λ_ _ _ lU w=>∃m,m<hi-root/\Inv m lU w) RR (qT b d.size c) (.int .i64 (hi:Nat)) (.int .i64 (first:Nat)) (.int .i64 (root:Nat)) (.int .i64 (ch:Nat)) W:=by
  intro W ch h1 h2 hE oW xW
  unfold eQ
  have p1:((first:Nat):Int)+((root:Nat):Int)=((first+root:Nat):Int):=by omega
  have p2:((first:Nat):Int)+((ch:Nat):Int)=((first+ch:Nat):Int):=by omega
  have ci:=dF (aP oW) (i:=first+root) (by omega)
  have cj:=dF (aP oW) (i:=first+ch) (by omega)
  simp(disch:=omega)only[seval,p1,p2,ci,cj]
  refine(oN _ _ _).mono ?_
  rintro r w3 ⟨rfl,rfl⟩
  cases hl:fU d1[first+root]! d1[first+ch]! with
  |false=>
   rw[hl,if_pos (by decide)]at hE
   simp(disch:=omega)only[seval,hl]
   rw[hRR]
   exact⟨rfl,hE▸aP oW,xW.seq (aJ.dr _ _)⟩
  |true=>
   rw[hl,if_neg (by decide)]at hE
   have ci:=dF (aP (aP oW)) (i:=first+root) (by omega)
   have cj:=dF (aP (aP oW)) (i:=first+ch) (by omega)
   simp(disch:=omega)only[seval,hl,p1,p2,ci,cj]
   refine eD (aP (aP oW)) rfl (by rw[Uu,gP];omega) λw6 o6 x6 s6=> ?_
   try simp(disch:=omega)only[seval,p1,p2]
   refine eD o6 rfl (by rw[UU,Uu,gP];omega) λw7 o7 x7 s7=> ?_
   rw[vN (by omega) (by omega)]at o7
   try simp(disch:=omega)only[seval]
   refine⟨hi-ch,by omega, ?_⟩
   rw[hInv]
   exact⟨ch,_,rfl,rfl,by omega,by rw[size_swp];exact hsz,hE,o7,(((xW.seq (aJ.dr _ _)).seq (aJ.dr _ _)).seq x6).seq x7⟩
 have xd:=x1.seq (aJ.dr w1 _)
 by_cases h2:2*root+2<hi
 .have d2:decide (((2*root+2:Nat):Int)<((hi:Nat):Int))=true:=decide_eq_true (by omega)
  have p1:((first:Nat):Int)+((2*root+1:Nat):Int)=((first+(2*root+1):Nat):Int):=by omega
  have p2:((first+(2*root+1):Nat):Int)+1=((first+(2*root+1)+1:Nat):Int):=by omega
  have ci:=dF (aP o1) (i:=first+(2*root+1)) (by omega)
  have cj:=dF (aP o1) (i:=first+(2*root+1)+1) (by omega)
  simp(disch:=omega)only[seval,q1,q2,q3,d1',d2,p1,p2,ci,cj]
  refine(oN _ _ _).mono ?_
  rintro r w3 ⟨rfl,rfl⟩
  cases hl:fU d1[first+(2*root+1)]! d1[first+(2*root+1)+1]! with
  |true=>
   rw[hl,if_pos (by simp;omega)]at hS
   simp(disch:=omega)only[seval,hl,q3]
   refine go _ (2*root+2) (by omega) h2 ?_ (aP o1) xd
   rw[<-hS,dif_pos h2]
  |false=>
   rw[hl,if_neg (by simp)]at hS
   simp(disch:=omega)only[seval,hl]
   exact go _ (2*root+1) (by omega) (by omega) hS (aP o1) xd
 .have d2:decide (((2*root+2:Nat):Int)<((hi:Nat):Int))=false:=decide_eq_false (by omega)
  rw[if_neg (by simp;omega)]at hS
  simp(disch:=omega)only[seval,q1,q2,q3,d1',d2]
  exact go _ (2*root+1) (by omega) (by omega) hS (aP o1) xd
theorem Sh{b c a e:Nat}{d:Array ByteArray}{rest:List V3}{w:V2}(o:bD w b (hU d++rest))(hae:a<e)(he:e<=d.size)(hd:d.size<=1000000):
 aH pg fC #[qT b d.size c,.int .i64 (a:Nat),.int .i64 (e:Nat)] w (λr w'=>r= .tuple #[]/\(∃d',bD w' b (hU d'++rest)/\PermIn a e d d'/\SortedIn fU a e d')/\aJ w w' (λy=>y=b)):=by
 refine tK ?_
 obtain⟨RR,hRR⟩:∃RR:V3->V2->Prop,RR=λr w'=>r= .tuple #[]/\(∃d',bD w' b (hU d'++rest)/\PermIn a e d d'/\SortedIn fU a e d')/\aJ w w' (λy=>y=b):=⟨_,rfl⟩
 rw[<-hRR]
 unfold pB mH mG
 obtain⟨hP,hS⟩:=heapSort_holds (lt:=fU) DY d a e (by omega) he
 have e1:((e:Nat):Int)-((a:Nat):Int)=((e-a:Nat):Int):=by omega
 unfold heapSort at hP hS
 obtain⟨n,hn⟩:∃n,n=e-a:=⟨_,rfl⟩
 rw[<-hn]at e1 hP hS
 simp(disch:=omega)only[seval,e1]
 unfold iE iD mZ
 have e2:((n:Nat):Int)-1=((n-1:Nat):Int):=by omega
 have e3:((n-1:Nat):Int).tdiv 2=(((n-1)/2:Nat):Int):=rfl
 have n2:((2:Int)==0)=false:=rfl
 simp(disch:=omega)only[seval,e2,e3,n2]
 unfold eK
 obtain⟨D1,hD1⟩:∃D1,D1=heapBuild fU n a ((n-1)/2+1) d:=⟨_,rfl⟩
 rw[<-hD1]at hP hS
 refine bG.rule (λm (t:V3) w'=>∃(k:Nat) (d':Array ByteArray),m=k/\t= .int .i64 ((k:Nat)-1:Int)/\k<=n/\d'.size=d.size/\heapBuild fU n a k d'=D1/\bD w' b (hU d'++rest)/\aJ w w' (λy=>y=b)) ((n-1)/2+1) ⟨_,d,rfl,by congr 1;omega,by omega,rfl,hD1.symm,o,aJ.refl _ _⟩ ?_
 rintro m t w1 ⟨k,d1,rfl,rfl,hk,hsz,hB,o1,x1⟩
 unfold iS
 cases m with
 |succ k=>
  have q1:((k+1:Nat):Int)-1=((k:Nat):Int):=by omega
  have d1':decide ((0:Int)<=((k:Nat):Int))=true:=decide_eq_true (by omega)
  rw[q1]
  simp(disch:=omega)only[seval,d1']
  rw[<-hsz]
  refine(QD o1 (lo:=k) (hi:=n) (first:=a) (by omega) (by omega) (by omega)).mono ?_
  rintro r w2 ⟨rfl,o2,x2⟩
  try simp(disch:=omega)only[seval]
  refine⟨k,by omega,k,_,rfl, ?_,by omega, ?_, ?_,o2,x1.seq x2⟩
  .first
    |rfl
    |(rw[Cp (by omega) (by omega)])
  .rw [Kn n a _ _ _ (UF _)]
  .rw [<-hB]<;>rfl
 |zero=>
  have hB:d1=D1:=hB
  subst hB
  have d1':decide ((0:Int)<=((0:Nat):Int)-1)=false:=rfl
  simp(disch:=omega)only[seval,d1',decide_false]
  unfold iR mY
  simp(disch:=omega)only[seval,e2]
  unfold eJ
  refine bG.rule (λm (t:V3) w'=>∃(k:Nat) (d':Array ByteArray),m=k/\t= .int .i64 ((k:Nat)-1:Int)/\k<=n/\d'.size=d.size/\heapPop fU a k d'=heapPop fU a n d1/\bD w' b (hU d'++rest)/\aJ w w' (λy=>y=b)) n ⟨n,d1,rfl,by congr 1;omega,by omega,hsz,rfl,o1,x1⟩ ?_
  rintro m t w2 ⟨k,d2,rfl,rfl,hk2,hsz2,hB2,o2,x2⟩
  unfold iQ
  cases m with
  |zero=>
   have hB2:d2=heapPop fU a n d1:=hB2
   simp(disch:=omega)only[seval,d1',decide_false]
   rw[hRR]
   exact⟨rfl,⟨d2,o2,hB2▸hP,hB2▸hS⟩,x2⟩
  |succ k=>
   have q1:((k+1:Nat):Int)-1=((k:Nat):Int):=by omega
   have d2':decide ((0:Int)<=((k:Nat):Int))=true:=decide_eq_true (by omega)
   rw[q1]
   have p1:((a:Nat):Int)+((k:Nat):Int)=((a+k:Nat):Int):=by omega
   have ci:=dF (aP o2) (i:=a) (by omega)
   have cj:=dF (aP o2) (i:=a+k) (by omega)
   simp(disch:=omega)only[seval,d2',p1,ci,cj]
   refine eD (aP o2) rfl (by rw[Uu,gP];omega) λw6 o6 x6 s6=> ?_
   try simp(disch:=omega)only[seval,p1]
   refine eD o6 rfl (by rw[UU,Uu,gP];omega) λw7 o7 x7 s7=> ?_
   rw[vN (by omega) (by omega)]at o7
   try simp(disch:=omega)only[seval]
   have hsw:(swp d2 a (a+k)).size=d.size:=by rw[size_swp];exact hsz2
   rw[<-hsw]
   refine(QD o7 (lo:=0) (hi:=k) (first:=a) (by omega) (by omega) (by omega)).mono ?_
   rintro r w8 ⟨rfl,o8,x8⟩
   try simp(disch:=omega)only[seval]
   refine⟨k,by omega,k,_,rfl, ?_,by omega, ?_, ?_,o8,(((x2.seq (aJ.dr _ _)).seq x6).seq x7).seq x8⟩
   .first
     |rfl
     |(rw[Cp (by omega) (by omega)])
   .rw [Kn k a _ _ _ (UF _)]
   .rw [<-hB2]<;>rfl
theorem Tt{k0:K4}{b c a i j:Nat}{d:Array ByteArray}{rest:List V3}{W:V2}(o:bD W b (hU d++rest))(hi:1<=i)(hib:i<=1000001)(hj:j<d.size)(ha:a<d.size)(hd:d.size<=1000000)
 (hk:∀W',bD W' b (hU d++rest)->aJ W W' bQ->k0 (qT b d.size c) (.int .i64 (a:Nat)) (.int .i64 ((scanUp (λx=>fU x d[a]!) d j i:Nat):Int)) (.int .i64 (j:Nat)) W'):
 cM k0 (qT b d.size c) (.int .i64 (a:Nat)) (.int .i64 (i:Nat)) (.int .i64 (j:Nat)) W:=by
 unfold cM
 obtain⟨Q,hQ⟩:∃Q,Q=scanUp (λx=>fU x d[a]!) d j i:=⟨_,rfl⟩
 rw[<-hQ]at hk
 refine bG.rule (λm (t:V3) w'=>∃i':Nat,m=j+1-i'/\t= .int .i64 (i':Nat)/\i'<=1000001/\scanUp (λx=>fU x d[a]!) d j i'=Q/\bD w' b (hU d++rest)/\aJ W w' bQ) _ ⟨i,rfl,rfl,hib,hQ.symm,o,aJ.refl _ _⟩ ?_
 rintro m t w1 ⟨i',rfl,rfl,hi',hS,o1,x1⟩
 have xd:=x1.seq (aJ.dr w1 bQ)
 rw[scanUp]at hS
 unfold hG
 by_cases hlt:i'<=j
 .have d1:decide (((i':Nat):Int)<=((j:Nat):Int))=true:=decide_eq_true (by omega)
  have ci:=dF (aP o1) (i:=i') (by omega)
  have ca:=dF (aP o1) (i:=a) (by omega)
  have q1:((i':Nat):Int)+1=((i'+1:Nat):Int):=by omega
  simp(disch:=omega)only[seval,d1,ci,ca]
  refine(oN _ _ _).mono ?_
  rintro r w3 ⟨rfl,rfl⟩
  cases hl:fU d[i']! d[a]! with
  |true=>
   rw[if_pos (by simp[hl,hlt])]at hS
   simp(disch:=omega)only[seval,hl,q1]
   exact⟨j+1-(i'+1),by omega,i'+1,rfl,rfl,by omega,hS,aP o1,xd⟩
  |false=>
   rw[if_neg (by simp[hl])]at hS
   simp(disch:=omega)only[seval,hl]
   rw[hS]
   exact hk _ (aP o1) xd
 .have d1:decide (((i':Nat):Int)<=((j:Nat):Int))=false:=decide_eq_false (by omega)
  rw[if_neg (by simp[hlt])]at hS
  simp(disch:=omega)only[seval,d1]
  rw[hS]
  exact hk _ (aP o1) xd
theorem S0 {k0:K4}{b c a i j:Nat}{d:Array ByteArray}{rest:List V3}{W:V2}(o:bD W b (hU d++rest))(hi:1<=i)(hib:i<=1000001)(hj:j<d.size)(ha:a<d.size)(hd:d.size<=1000000)
 (hk:∀W',bD W' b (hU d++rest)->aJ W W' bQ->k0 (qT b d.size c) (.int .i64 (a:Nat)) (.int .i64 (i:Nat)) (.int .i64 ((scanDown (λx=> !fU x d[a]!) d i j:Nat):Int)) W'):
 cL k0 (qT b d.size c) (.int .i64 (a:Nat)) (.int .i64 (i:Nat)) (.int .i64 (j:Nat)) W:=by
 unfold cL
 obtain⟨Q,hQ⟩:∃Q,Q=scanDown (λx=> !fU x d[a]!) d i j:=⟨_,rfl⟩
 rw[<-hQ]at hk
 refine bG.rule (λm (t:V3) w'=>∃j':Nat,m=j'/\t= .int .i64 (j':Nat)/\j'<d.size/\scanDown (λx=> !fU x d[a]!) d i j'=Q/\bD w' b (hU d++rest)/\aJ W w' bQ) _ ⟨j,rfl,rfl,hj,hQ.symm,o,aJ.refl _ _⟩ ?_
 rintro m t w1 ⟨j',rfl,rfl,hj',hS,o1,x1⟩
 have xd:=x1.seq (aJ.dr w1 bQ)
 unfold gZ
 by_cases hlt:i<=m
 .have d1:decide (((i:Nat):Int)<=((m:Nat):Int))=true:=decide_eq_true (by omega)
  have ci:=dF (aP o1) (i:=m) (by omega)
  have ca:=dF (aP o1) (i:=a) (by omega)
  obtain⟨n,rfl⟩:∃n,m=n+1:=⟨m-1,by omega⟩
  rw[scanDown]at hS
  have q1:((n+1:Nat):Int)-1=((n:Nat):Int):=by omega
  simp(disch:=omega)only[seval,d1,ci,ca]
  refine(oN _ _ _).mono ?_
  rintro r w3 ⟨rfl,rfl⟩
  cases hl:fU d[n+1]! d[a]! with
  |false=>
   rw[if_pos (by simp[hl,hlt])]at hS
   simp(disch:=omega)only[seval,hl,q1]
   exact⟨n,by omega,n,rfl,rfl,by omega,hS,aP o1,xd⟩
  |true=>
   rw[if_neg (by simp[hl])]at hS
   simp(disch:=omega)only[seval,hl]
   rw[hS]
   exact hk _ (aP o1) xd
 .have d1:decide (((i:Nat):Int)<=((m:Nat):Int))=false:=decide_eq_false (by omega)
  have hS:m=Q:=by
   cases m with
   |zero=>exact hS
   |succ n=>rw[scanDown,if_neg (by simp;omega)]at hS;exact hS
  simp(disch:=omega)only[seval,d1]
  rw[hS]
  exact hk _ (aP o1) xd
theorem Tu{k0:K4}{b c a i j:Nat}{d:Array ByteArray}{rest:List V3}{W:V2}(o:bD W b (hU d++rest))(hi:1<=i)(hib:i<=1000001)(hj:j<d.size)(ha:a<d.size)(hd:d.size<=1000000)
 (hk:∀W',bD W' b (hU d++rest)->aJ W W' bQ->k0 (qT b d.size c) (.int .i64 (a:Nat)) (.int .i64 ((scanUp (λx=>fU x d[a]!) d j i:Nat):Int)) (.int .i64 (j:Nat)) W'):
 cR k0 (qT b d.size c) (.int .i64 (a:Nat)) (.int .i64 (i:Nat)) (.int .i64 (j:Nat)) W:=by
 unfold cR
 obtain⟨Q,hQ⟩:∃Q,Q=scanUp (λx=>fU x d[a]!) d j i:=⟨_,rfl⟩
 rw[<-hQ]at hk
 refine bG.rule (λm (t:V3) w'=>∃i':Nat,m=j+1-i'/\t= .int .i64 (i':Nat)/\i'<=1000001/\scanUp (λx=>fU x d[a]!) d j i'=Q/\bD w' b (hU d++rest)/\aJ W w' bQ) _ ⟨i,rfl,rfl,hib,hQ.symm,o,aJ.refl _ _⟩ ?_
 rintro m t w1 ⟨i',rfl,rfl,hi',hS,o1,x1⟩
 have xd:=x1.seq (aJ.dr w1 bQ)
 rw[scanUp]at hS
 unfold iJ
 by_cases hlt:i'<=j
 .have d1:decide (((i':Nat):Int)<=((j:Nat):Int))=true:=decide_eq_true (by omega)
  have ci:=dF (aP o1) (i:=i') (by omega)
  have ca:=dF (aP o1) (i:=a) (by omega)
  have q1:((i':Nat):Int)+1=((i'+1:Nat):Int):=by omega
  simp(disch:=omega)only[seval,d1,ci,ca]
  refine(oN _ _ _).mono ?_
  rintro r w3 ⟨rfl,rfl⟩
  cases hl:fU d[i']! d[a]! with
  |true=>
   rw[if_pos (by simp[hl,hlt])]at hS
   simp(disch:=omega)only[seval,hl,q1]
   exact⟨j+1-(i'+1),by omega,i'+1,rfl,rfl,by omega,hS,aP o1,xd⟩
  |false=>
   rw[if_neg (by simp[hl])]at hS
   simp(disch:=omega)only[seval,hl]
   rw[hS]
   exact hk _ (aP o1) xd
 .have d1:decide (((i':Nat):Int)<=((j:Nat):Int))=false:=decide_eq_false (by omega)
  rw[if_neg (by simp[hlt])]at hS
  simp(disch:=omega)only[seval,d1]
  rw[hS]
  exact hk _ (aP o1) xd
theorem S1 {k0:K4}{b c a i j:Nat}{d:Array ByteArray}{rest:List V3}{W:V2}(o:bD W b (hU d++rest))(hi:1<=i)(hib:i<=1000001)(hj:j<d.size)(ha:a<d.size)(hd:d.size<=1000000)
 (hk:∀W',bD W' b (hU d++rest)->aJ W W' bQ->k0 (qT b d.size c) (.int .i64 (a:Nat)) (.int .i64 (i:Nat)) (.int .i64 ((scanDown (λx=> !fU x d[a]!) d i j:Nat):Int)) W'):
 cQ k0 (qT b d.size c) (.int .i64 (a:Nat)) (.int .i64 (i:Nat)) (.int .i64 (j:Nat)) W:=by
 unfold cQ
 obtain⟨Q,hQ⟩:∃Q,Q=scanDown (λx=> !fU x d[a]!) d i j:=⟨_,rfl⟩
 rw[<-hQ]at hk
 refine bG.rule (λm (t:V3) w'=>∃j':Nat,m=j'/\t= .int .i64 (j':Nat)/\j'<d.size/\scanDown (λx=> !fU x d[a]!) d i j'=Q/\bD w' b (hU d++rest)/\aJ W w' bQ) _ ⟨j,rfl,rfl,hj,hQ.symm,o,aJ.refl _ _⟩ ?_
 rintro m t w1 ⟨j',rfl,rfl,hj',hS,o1,x1⟩
 have xd:=x1.seq (aJ.dr w1 bQ)
 unfold iH
 by_cases hlt:i<=m
 .have d1:decide (((i:Nat):Int)<=((m:Nat):Int))=true:=decide_eq_true (by omega)
  have ci:=dF (aP o1) (i:=m) (by omega)
  have ca:=dF (aP o1) (i:=a) (by omega)
  obtain⟨n,rfl⟩:∃n,m=n+1:=⟨m-1,by omega⟩
  rw[scanDown]at hS
  have q1:((n+1:Nat):Int)-1=((n:Nat):Int):=by omega
  simp(disch:=omega)only[seval,d1,ci,ca]
  refine(oN _ _ _).mono ?_
  rintro r w3 ⟨rfl,rfl⟩
  cases hl:fU d[n+1]! d[a]! with
  |false=>
   rw[if_pos (by simp[hl,hlt])]at hS
   simp(disch:=omega)only[seval,hl,q1]
   exact⟨n,by omega,n,rfl,rfl,by omega,hS,aP o1,xd⟩
  |true=>
   rw[if_neg (by simp[hl])]at hS
   simp(disch:=omega)only[seval,hl]
   rw[hS]
   exact hk _ (aP o1) xd
 .have d1:decide (((i:Nat):Int)<=((m:Nat):Int))=false:=decide_eq_false (by omega)
  have hS:m=Q:=by
   cases m with
   |zero=>exact hS
   |succ n=>rw[scanDown,if_neg (by simp;omega)]at hS;exact hS
  simp(disch:=omega)only[seval,d1]
  rw[hS]
  exact hk _ (aP o1) xd
theorem L2 {b c a e pv:Nat}{d:Array ByteArray}{rest:List V3}{w:V2}(o:bD w b (hU d++rest))(hp1:a<=pv)(hp2:pv<e)(hae:a+2<=e)(he:e<=d.size)(hd:d.size<=1000000):
 aH pg cX #[qT b d.size c,.int .i64 (a:Nat),.int .i64 (e:Nat),.int .i64 (pv:Nat)] w (λr w'=>(∃(m:Nat) (k:Bool) (d':Array ByteArray),r= .tuple #[.int .i64 (m:Nat),.bool k]/\a<=m/\m<e/\bD w' b (hU d'++rest)/\PermIn a e d d'/\(∀i,a<=i->i<m->fU d'[i]! d'[m]! =true)/\(∀i,m<i->i<e->fU d'[i]! d'[m]! =false))/\aJ w w' (λy=>y=b)):=by
 refine sS ?_
 obtain⟨g1,g2,g3,g4,g5⟩:=partition_holds fU DY d a e pv hp1 hp2 he
 rw[partition_fst]at g1 g2 g4 g5
 rw[partition_arr]at g3 g4 g5
 obtain⟨d0,hd0⟩:∃d0,d0=swp d a pv:=⟨_,rfl⟩
 rw[<-hd0]at g1 g2 g3 g4 g5
 obtain⟨P,hP⟩:∃P,P=partLoop fU a (a+1) (e-1) d0:=⟨_,rfl⟩
 rw[<-hP]at g1 g2 g3 g4 g5
 have hs0:d0.size=d.size:=by rw[hd0,size_swp]
 obtain⟨RR,hRR⟩:∃RR:V3->V2->Prop,RR=λr w'=>(∃(m:Nat) (k:Bool) (d':Array ByteArray),r= .tuple #[.int .i64 (m:Nat),.bool k]/\a<=m/\m<e/\bD w' b (hU d'++rest)/\PermIn a e d d'/\(∀i,a<=i->i<m->fU d'[i]! d'[m]! =true)/\(∀i,m<i->i<e->fU d'[i]! d'[m]! =false))/\aJ w w' (λy=>y=b):=⟨_,rfl⟩
 rw[<-hRR]
 have told:∀(W:V2) (k:Bool),bD W b (hU (swp P.2 P.1 a)++rest)->aJ w W (λy=>y=b)->RR (.tuple #[.int .i64 (P.1:Nat),.bool k]) W:=λW k oW xW=>by
  rw[hRR]
  exact⟨⟨P.1,k,_,rfl,g1,g2,oW,g3,g4,g5⟩,xW⟩
 unfold oM lS lR
 have ci:=dF (aP o) (i:=a) (by omega)
 have cj:=dF (aP o) (i:=pv) (by omega)
 simp(disch:=omega)only[seval,ci,cj]
 refine eD (aP o) rfl (by rw[Uu,gP];omega) λw1 o1 x1 s1=> ?_
 try simp(disch:=omega)only[seval]
 refine eD o1 rfl (by rw[UU,Uu,gP];omega) λw2 o2 x2 s2=> ?_
 rw[vN (by omega) (by omega),<-hd0]at o2
 have x02:aJ w w2 (λy=>y=b):=((aJ.dr _ _).seq x1).seq x2
 have q1:((a:Nat):Int)+1=((a+1:Nat):Int):=by omega
 have q2:((e:Nat):Int)-1=((e-1:Nat):Int):=by omega
 simp(disch:=omega)only[seval,q1,q2]
 unfold hH
 rw[<-hs0]at hd he⊢
 refine Tt o2 (by omega) (by omega) (by omega) (by omega) hd λw3 o3 x3=> ?_
 have hge:=scanUp_ge (λx=>fU x d0[a]!) d0 (e-1) (a+1)
 have hP2:=partLoop_eq fU a (a+1) (e-1) d0
 rw[<-hP]at hP2
 obtain⟨i2,hi2⟩:∃i2,i2=scanUp (λx=>fU x d0[a]!) d0 (e-1) (a+1):=⟨_,rfl⟩
 have hup:=(scanUp_spec (λx=>fU x d0[a]!) d0 (e-1) _ (a+1) rfl)
 rw[<-hi2]at hge hP2 hup⊢
 have hi2b:i2<=e:=by omega
 unfold hC
 refine S0 o3 (by omega) (by omega) (by omega) (by omega) hd λw4 o4 x4=> ?_
 have hle:=scanDown_le (λx=> !fU x d0[a]!) d0 i2 (e-1)
 obtain⟨j2,hj2⟩:∃j2,j2=scanDown (λx=> !fU x d0[a]!) d0 i2 (e-1):=⟨_,rfl⟩
 rw[<-hj2]at hle hP2⊢
 have x24:=x3.seq x4
 have x04:aJ w w4 (λy=>y=b):=x02.seq (x24.mono λ_ _ h=>h.elim)
 unfold gY lQ
 by_cases hgt:i2>j2
 .have d1:decide (((j2:Nat):Int)<((i2:Nat):Int))=true:=decide_eq_true (by omega)
  rw[if_pos hgt]at hP2
  have ca:=dF (aP o4) (i:=a) (by omega)
  have cb:=dF (aP o4) (i:=j2) (by omega)
  simp(disch:=omega)only[seval,d1,ca,cb]
  refine eD (aP o4) rfl (by rw[Uu,gP];omega) λw5 o5 x5 s5=> ?_
  try simp(disch:=omega)only[seval]
  refine eD o5 rfl (by rw[UU,Uu,gP];omega) λw6 o6 x6 s6=> ?_
  rw[vN (by omega) (by omega)]at o6
  have:=told w6 true (by rw[hP2];exact o6) (((x04.seq (aJ.dr _ _)).seq x5).seq x6)
  rw[hP2]at this
  exact this
 have d1:decide (((j2:Nat):Int)<((i2:Nat):Int))=false:=decide_eq_false (by omega)
 rw[if_neg hgt]at hP2
 have ci:=dF (aP o4) (i:=i2) (by omega)
 have cj:=dF (aP o4) (i:=j2) (by omega)
 simp(disch:=omega)only[seval,d1,ci,cj]
 refine eD (aP o4) rfl (by rw[Uu,gP];omega) λw5 o5 x5 s5=> ?_
 try simp(disch:=omega)only[seval]
 refine eD o5 rfl (by rw[UU,Uu,gP];omega) λw6 o6 x6 s6=> ?_
 rw[vN (by omega) (by omega)]at o6
 have x06:aJ w w6 (λy=>y=b):=((x04.seq (aJ.dr _ _)).seq x5).seq x6
 have q3:((i2:Nat):Int)+1=((i2+1:Nat):Int):=by omega
 have q4:((j2:Nat):Int)-1=((j2-1:Nat):Int):=by omega
 simp(disch:=omega)only[seval,q3,q4]
 unfold gX eC
 obtain⟨n0,hn0⟩:∃n0,n0=d0.size:=⟨_,rfl⟩
 rw[<-hn0]at hd he⊢
 obtain⟨Inv,hInv⟩:∃Inv:Nat->V3×V3->V2->Prop,Inv=λm t w'=>∃(i j:Nat) (d':Array ByteArray),m=j+1-i/\t=(.int .i64 (i:Nat),.int .i64 (j:Nat))/\a+1<=i/\i<=e/\j<e/\d'.size=n0/\partLoop fU a i j d'=P/\bD w' b (hU d'++rest)/\aJ w w' (λy=>y=b):=⟨_,rfl⟩
 refine bG.rule Inv (j2-1+1-(i2+1)) (by rw[hInv];exact⟨_,_,_,rfl,rfl,by omega,by omega,by omega,by rw[size_swp];exact hn0.symm,hP2.symm,o6,x06⟩) ?_
 intro m t w7 hm
 rw[hInv]at hm
 obtain⟨i,j,d1,rfl,rfl,hi,hie,hj,hsz,hL,o7,x7⟩:=hm
 unfold gW
 rw[<-hsz]at hd he⊢
 refine Tu o7 (by omega) (by omega) (by omega) (by omega) hd λw8 o8 x8=> ?_
 have hge:=scanUp_ge (λx=>fU x d1[a]!) d1 j i
 have hup:=(scanUp_spec (λx=>fU x d1[a]!) d1 j _ i rfl)
 rw[partLoop_eq]at hL
 obtain⟨i3,hi3⟩:∃i3,i3=scanUp (λx=>fU x d1[a]!) d1 j i:=⟨_,rfl⟩
 rw[<-hi3]at hge hL hup⊢
 have hi3b:i3<=e:=by
  by_cases h:i<=j+1
  .have:=hup.2.1 h
   omega
  .have h2:i3=i:=by rw[hi3,scanUp,if_neg (by simp;omega)]
   omega
 unfold iI
 refine S1 o8 (by omega) (by omega) (by omega) (by omega) hd λw9 o9 x9=> ?_
 have hle:=scanDown_le (λx=> !fU x d1[a]!) d1 i3 j
 obtain⟨j3,hj3⟩:∃j3,j3=scanDown (λx=> !fU x d1[a]!) d1 i3 j:=⟨_,rfl⟩
 rw[<-hj3]at hle hL⊢
 have x09:aJ w w9 (λy=>y=b):=x7.seq ((x8.seq x9).mono λ_ _ h=>h.elim)
 unfold iG
 by_cases hgt:i3>j3
 .have d1':decide (((j3:Nat):Int)<((i3:Nat):Int))=true:=decide_eq_true (by omega)
  rw[if_pos hgt]at hL
  simp(disch:=omega)only[seval,d1']
  unfold iF
  have ca:=dF (aP o9) (i:=a) (by omega)
  have cb:=dF (aP o9) (i:=j3) (by omega)
  simp(disch:=omega)only[seval,ca,cb]
  refine eD (aP o9) rfl (by rw[Uu,gP];omega) λwa oa xa sa=> ?_
  try simp(disch:=omega)only[seval]
  refine eD oa rfl (by rw[UU,Uu,gP];omega) λwb ob xb sb=> ?_
  rw[vN (by omega) (by omega)]at ob
  have:=told wb false (by rw[<-hL];exact ob) (((x09.seq (aJ.dr _ _)).seq xa).seq xb)
  rw[<-hL]at this
  exact this
 have d1':decide (((j3:Nat):Int)<((i3:Nat):Int))=false:=decide_eq_false (by omega)
 rw[if_neg hgt]at hL
 have ci:=dF (aP o9) (i:=i3) (by omega)
 have cj:=dF (aP o9) (i:=j3) (by omega)
 simp(disch:=omega)only[seval,d1',ci,cj]
 refine eD (aP o9) rfl (by rw[Uu,gP];omega) λwa oa xa sa=> ?_
 try simp(disch:=omega)only[seval]
 refine eD oa rfl (by rw[UU,Uu,gP];omega) λwb ob xb sb=> ?_
 rw[vN (by omega) (by omega)]at ob
 have q5:((i3:Nat):Int)+1=((i3+1:Nat):Int):=by omega
 have q6:((j3:Nat):Int)-1=((j3-1:Nat):Int):=by omega
 simp(disch:=omega)only[seval,q5,q6]
 refine⟨j3-1+1-(i3+1),by omega, ?_⟩
 rw[hInv]
 exact⟨i3+1,j3-1,_,rfl,rfl,by omega,by omega,by omega,by rw[size_swp];exact hsz,hL,ob,((x09.seq (aJ.dr _ _)).seq xa).seq xb⟩
end Go.Proofs.Ytmhokapokchneaa
namespace Go.Proofs.Ytmhokapokchneaa
open Go Go.En Go.Pu Go.Sort
def Pn(a e s t:Nat)(d:Array ByteArray):Prop:=∀i j,a<=i->i<j->j<e->(i<s∨t<=j)->fU d[j]! d[i]! =false
theorem Br{a e s t:Nat}{d d':Array ByteArray}(h:Pn a e s t d)(ht:t<=e)(he:e<=d.size)(hs:a<=s)(hp:PermIn s t d d'):Pn a e s t d':=by
 intro i j h1 h2 h3 h4
 have keep:=hp.2.1
 by_cases hi:i<s
 .rw [keep i (.inl hi)]
  by_cases hj:j<s
  .rw [keep j (.inl hj)];exact h i j h1 h2 h3 h4
  .by_cases hj2:t<=j
   .rw [keep j (.inr hj2)];exact h i j h1 h2 h3 h4
   .exact permIn_all d d' s t (λx=>fU x d[i]! =false) (by omega) hp (λk k1 k2=>h i k h1 (by omega) (by omega) (.inl hi)) j (by omega) (by omega)
 .have hj:t<=j:=by omega
  rw[keep j (.inr hj)]
  by_cases hi2:t<=i
  .rw [keep i (.inr hi2)];exact h i j h1 h2 h3 h4
  .exact permIn_all d d' s t (λx=>fU d[j]! x=false) (by omega) hp (λk k1 k2=>h k j (by omega) (by omega) h3 (.inr hj)) i (by omega) (by omega)
theorem Rr{a e s t:Nat}{d d':Array ByteArray}(h:Pn a e s t d)(ht:t<=e)(he:e<=d.size)(hs:a<=s)(hp:PermIn s t d d')(hS:SortedIn fU s t d'):SortedIn fU a e d':=by
 have h':=Br h ht he hs hp
 intro i j h1 h2 h3
 by_cases hc:i<s∨t<=j
 .exact h' i j h1 h2 h3 hc
 .exact hS i j (by omega) h2 (by omega)
theorem LS{x y:ByteArray}(h:fU x y=true):fU y x=false:=by
 cases h2:fU y x with
 |false=>rfl
 |true=>have:=xR h h2;rw[An]at this;cases this
theorem P9 {a e s t m:Nat}{d d2 d3:Array ByteArray}(h:Pn a e s t d)(ht:t<=e)(he:e<=d.size)(hs:a<=s)(hp:PermIn s t d d2)(hm1:s<=m)(hm2:m<t)
 (hl:∀i,s<=i->i<m->fU d2[i]! d2[m]! =true) (hr:∀i,m<i->i<t->fU d2[i]! d2[m]! =false) (hq:PermIn s m d2 d3) (hS:SortedIn fU s m d3):Pn a e (m+1) t d3:=by
 have hz:d2.size=d.size:=hp.1
 have h2:=Br h ht he hs hp
 have h3:Pn a e s t d3:=Br h2 ht (by omega) hs (permIn_mono d2 d3 s m s t (UF _) (by omega) (by omega) hq)
 have keep:=hq.2.1
 have hl3:∀i,s<=i->i<m->fU d3[i]! d2[m]! =true:=permIn_all d2 d3 s m (λx=>fU x d2[m]! =true) (by omega) hq hl
 intro i j k1 k2 k3 k4
 by_cases hi:i<s∨t<=j
 .exact h3 i j k1 k2 k3 hi
 have him:i<m+1:=by omega
 by_cases hie:i=m
 .rw [hie,keep m (.inr (UF _)),keep j (.inr (by omega))]
  exact hr j (by omega) (by omega)
 .by_cases hj:j<m
  .exact hS i j (by omega) k2 hj
  .have h5:=LS (hl3 i (by omega) (by omega))
   rw[keep j (.inr (by omega))]
   by_cases hjm:j=m
   .rw [hjm];exact h5
   .exact DY.ntrans _ _ _ (hr j (by omega) (by omega)) h5
theorem OI{a e s t m:Nat}{d d2 d3:Array ByteArray}(h:Pn a e s t d)(ht:t<=e)(he:e<=d.size)(hs:a<=s)(hp:PermIn s t d d2)(hm1:s<=m)(hm2:m<t)
 (hl:∀i,s<=i->i<m->fU d2[i]! d2[m]! =true) (hr:∀i,m<i->i<t->fU d2[i]! d2[m]! =false) (hq:PermIn (m+1) t d2 d3) (hS:SortedIn fU (m+1) t d3):Pn a e s m d3:=by
 have hz:d2.size=d.size:=hp.1
 have h2:=Br h ht he hs hp
 have h3:Pn a e s t d3:=Br h2 ht (by omega) hs (permIn_mono d2 d3 (m+1) t s t (by omega) (UF _) (by omega) hq)
 have keep:=hq.2.1
 have hr3:∀i,m+1<=i->i<t->fU d3[i]! d2[m]! =false:=permIn_all d2 d3 (m+1) t (λx=>fU x d2[m]! =false) (by omega) hq (λi i1 i2=>hr i (by omega) i2)
 intro i j k1 k2 k3 k4
 by_cases hi:i<s∨t<=j
 .exact h3 i j k1 k2 k3 hi
 have hjm:m<=j:=by omega
 by_cases hie:i<m
 .rw [keep i (.inl (by omega))]
  have h5:=LS (hl i (by omega) hie)
  by_cases hj:j=m
  .rw [hj,keep m (.inl (by omega))];exact h5
  .exact DY.ntrans _ _ _ (hr3 j (by omega) (by omega)) h5
 .by_cases him:i=m
  .rw [him,keep m (.inl (by omega))]
   exact hr3 j (by omega) (by omega)
  .exact hS i j (by omega) k2 (by omega)
theorem KK{a e:Nat}{d d':Array ByteArray}(h:PermIn a e d d')(he:e<=d.size):d'.toList.Perm d.toList:=by
 have h2:=(permIn_mono d d' a e 0 d.size (Nat.zero_le _) he (UF _) h).2.2
 have hz:d'.size=d.size:=h.1
 rw[<-hz,Array.extract_size]at h2
 rw[hz,Array.extract_size]at h2
 exact h2
theorem Qg{d:Array ByteArray}(h:d.toList.Nodup){i j:Nat}(hi:i<d.size)(hj:j<d.size)(hij:i≠j):d[i]!≠d[j]! :=by
 rw[getElem!_pos d i hi,getElem!_pos d j hj]
 have hp:=List.pairwise_iff_getElem.1 h
 rcases Nat.lt_or_gt_of_ne hij with hlt|hlt
 .have:=hp i j (by simpa using hi) (by simpa using hj) hlt
  simpa using this
 .have:=hp j i (by simpa using hj) (by simpa using hi) hlt
  simpa using this.symm
def RQ(a e:Nat)(d:Array ByteArray):Prop:=a=0∨∀i,a<=i->i<e->fU d[a-1]! d[i]! =true
theorem Lm{a e:Nat}{d d':Array ByteArray}(h:RQ a e d)(he:e<=d.size)(hp:PermIn a e d d'):RQ a e d':=by
 rcases h with h|h
 .exact .inl h
 .by_cases h0:a=0
  .exact .inl h0
  .refine .inr λi h1 h2=> ?_
   rw[hp.2.1 (a-1) (.inl (by omega))]
   exact permIn_all d d' a e (λx=>fU d[a-1]! x=true) he hp h i h1 h2
theorem R5 {a e s t:Nat}{d:Array ByteArray}(h:RQ a e d)(hL:Pn a e s t d)(hn:d.toList.Nodup)(hs:a<=s)(ht:t<=e)(he:e<=d.size):RQ s t d:=by
 by_cases h0:s=a
 .subst h0
  rcases h with h|h
  .exact .inl h
  .exact .inr λi h1 h2=>h i h1 (by omega)
 .refine .inr λi h1 h2=> ?_
  have h3:=hL (s-1) i (by omega) (by omega) (by omega) (.inl (by omega))
  exact DQ (Qg hn (by omega) (by omega) (by omega)) h3
end Go.Proofs.Ytmhokapokchneaa

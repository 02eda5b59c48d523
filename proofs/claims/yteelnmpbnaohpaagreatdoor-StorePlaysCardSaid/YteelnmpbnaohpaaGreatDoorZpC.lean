/- Parts of the proof of StorePlays: merged and given short names by a program of ours. -/
import Derived.WalkKit
import Derived.ProofKit
import Derived.OpenShut
import Derived.Laws.Strings
import Derived.Deep.Grids
import Derived.Laws.StructEq
import Derived.Shelf.SlMaps.Clone
import Derived.Test.YteelnmpbnaohpaaGreatDoorZpB
set_option linter.unusedVariables false
set_option linter.unusedSimpArgs false
open Array renaming getElem?_eq_getElem → aJ6, getElem?_setIfInBounds_self_of_lt → aJ8, getD_eq_getD_getElem? → aJR, getElem?_setIfInBounds_ne → aKa, getElem?_eq_none → aKn
open Bool renaming false_eq_true → aJM, and_eq_true → aJQ, not_false → aKC, not_true → aKS, or_eq_true → aKu, or_false → aLB, and_eq_false_iff → aLR, false_or → aLi, or_eq_false_iff → aLm
open Int renaming toNat_natCast → aJI, tdiv_eq_ediv_of_nonneg → aLC
open List renaming getElem?_append_left → aJ0, nil_append → aJ1, getElem?_append_right → aJ2, take_succ_eq_append_getElem → aJ3, getElem?_map → aJ4, mem_cons_self → aJ7, length_replicate → aJ9, length_map → aJC, getElem?_cons_zero → aJD, getElem?_eq_getElem → aJE, length_append → aJF, take_of_length_le → aJH, getElem?_cons_succ → aJJ, mem_cons → aJK, getD_eq_getElem?_getD → aJL, length_take → aJP, length_drop → aJS, mem_cons_of_mem → aJT, map_cons → aJU, set_cons_zero → aJV, append_assoc → aJW, length_cons → aJX, drop_zero → aJY, toList_toArray → aJZ, pairwise_append → aK0, nodup_cons → aK3, getElem?_drop → aK7, mem_append_left → aK9, length_nil → aKD, getElem?_take_of_lt → aKE, map_congr_left → aKK, size_toArray → aKL, take_append_drop → aKN, eraseIdx_cons_succ → aKQ, mem_of_getElem? → aKR, getElem?_toArray → aKU, map_set → aKW, pairwise_cons → aKX, map_append → aKb, length_eq_zero_iff → aKd, append_nil → aKf, mem_append → aKg, take_append_of_le_length → aKh, set_cons_succ → aKi, set_append_right → aKj, drop_append_of_le_length → aKo, getElem_mem → aKp, mem_map → aKq, length_set → aKr, getElem?_eq_none → aKt, drop_of_length_le → aKw, flatMap_cons → aKz, map_take → aLD, replicate_succ → aLH, length_erase_of_mem → aLJ, map_replicate → aLK, take_add_one → aLO, map_nil → aLU, mem_filter → aLV, replicate_succ' → aLW, cons_append → aLe, drop_drop → aLf, range_succ → aLh, map_drop → aLj, sum_cons → aLk, ext_getElem? → aLl, mem_of_mem_take → aLn, getElem_map → aLq, replicate_zero → aLt, mem_append_right → aLx, ext_getElem → aLz
open Nat renaming min_eq_left → aJ5, zero_add → aJG, le_refl → aJO, le_trans → aK5, lt_or_ge → aKA, add_sub_cancel_left → aKG, sub_self → aKT, lt_of_lt_of_le → aKe, mod_eq_of_lt → aKl, add_assoc → aKy, div_le_self → aLI, mul_comm → aLL, add_zero → aLX, mul_le_mul_right → aLY, zero_mul → aLZ, pow_le_pow_right → aLb, mul_le_mul_left → aLd, mod_lt → aLo, pow_succ → aLr
open Option renaming getD_some → aKF, isNone_some → aKI, isNone_none → aKY, map_some → aKs
open Option.some renaming injEq → aKc
open UInt8 renaming toNat_ofNat' → aKZ, lt_iff_toNat_lt → aLT
namespace Go.Proofs.YteelnmpbnaohpaaGreatDoor
open Go Go.En
set_option maxRecDepth 4000
theorem mK{ty:TypeId}(x:Option Addr)(n c:Nat)(w:aL0):(eK .len #[22] ty [.slice x n c]).run pg w= .ok (.value (.int .i64 n)) w:=IY Tryz.underlying22 x n c
theorem CZ{k:IntKind}(a:Int)(w:aL0):(cP 5 3 (.int k a)).run pg w= .ok (.value (.int .i64 (IntKind.i64.wrap a))) w:=Es Tryz.underlying5 Tryz.underlying3
theorem atL:(pg).info? 30=some Tryz.t30:=by kernel_rfl
theorem uB{w:aL0}{K:aL1->aL0->Prop}(hk:∀w',bD w' w.heap.size [(.int .u64 0),(.int .u32 0),(.slice none 0 0)]->aL w w' aT->w'.heap.size=w.heap.size+1->K (.pointer (some ⟨w.heap.size,0,none⟩)) w'):aA pg (bE 30) w K:=iZ (i:=Tryz.t30) atL rfl hk
theorem sG{b off:Nat}{cs:List aL1}{w:aL0}{xs:Array aL1}{K:aL1->aL0->Prop}(ho:bD w b cs)(hs:xs.size=3)(hv:∀x∈xs.toList,one x=true)(h:off+3<=cs.length)(hk:∀w',bD w' b (eI cs off xs.toList)->aL w w' (λx=>x=b)->w'.heap.size=w.heap.size->K undef w'):aA pg (aF 30 (.pointer (some ⟨b,off,none⟩)) (.agg xs)) w K:=lL (v:= .agg xs) atL ho hs hv h hk
theorem EW{k:IntKind}(a:Int)(w:aL0):(cP 23 3 (.int k a)).run pg w= .ok (.value (.int .i64 (IntKind.i64.wrap a))) w:=Es Tryz.underlying23 Tryz.underlying3
theorem atN:(pg).info? 40=some Tryz.t40:=by kernel_rfl
theorem aV{w:aL0}{K:aL1->aL0->Prop}(hk:∀w',bD w' w.heap.size [(.int .i64 0),(.slice none 0 0),(.slice none 0 0),(.int .i64 0),(.bool false)]->aL w w' aT->w'.heap.size=w.heap.size+1->K (.pointer (some ⟨w.heap.size,0,none⟩)) w'):aA pg (bE 40) w K:=iZ (i:=Tryz.t40) atN rfl hk
theorem dJ{b off:Nat}{cs:List aL1}{w:aL0}{xs:Array aL1}{K:aL1->aL0->Prop}(ho:bD w b cs)(hs:xs.size=5)(hv:∀x∈xs.toList,one x=true)(h:off+5<=cs.length)(hk:∀w',bD w' b (eI cs off xs.toList)->aL w w' (λx=>x=b)->w'.heap.size=w.heap.size->K undef w'):aA pg (aF 40 (.pointer (some ⟨b,off,none⟩)) (.agg xs)) w K:=lL (v:= .agg xs) atN ho hs hv h hk
theorem bW{b off:Nat}{cs:List aL1}{w:aL0}(ho:bD w b cs)(h:off+5<=cs.length):(aB 40 (.pointer (some ⟨b,off,none⟩))).run pg w= .ok (.value (.agg ((cs.drop off).take 5).toArray)) w:=rA Tryz.underlying40 rfl atN ho h
theorem iH(p0:Option Addr)(aEM aEN aEO aID aIE:aL1)(w:aL0):(bV 49 [(0,(.pointer p0)),(2,(.agg #[aEM,aEN,aEO,aID,aIE]))]).run pg w= .ok (.value (.agg #[(.pointer p0),(.pointer none),aEM,aEN,aEO,aID,aIE,(.string ⟨#[]⟩),(.int .u64 0),(.int .u32 0),(.slice none 0 0),(.int .u64 0),(.slice none 0 0),(.int .i64 0),(.bool false),(.int .i64 0)])) w:=by kernel_rfl
theorem gA{b off:Nat}{cs:List aL1}{w:aL0}(ho:bD w b cs)(h:off+3<=cs.length):(aB 30 (.pointer (some ⟨b,off,none⟩))).run pg w= .ok (.value (.agg ((cs.drop off).take 3).toArray)) w:=rA Tryz.underlying30 rfl atL ho h
theorem aAy:(pg).info? 49=some Tryz.t49:=by kernel_rfl
theorem yC{w:aL0}{K:aL1->aL0->Prop}(hk:∀w',bD w' w.heap.size [(.pointer none),(.pointer none),(.int .i64 0),(.slice none 0 0),(.slice none 0 0),(.int .i64 0),(.bool false),(.string ⟨#[]⟩),(.int .u64 0),(.int .u32 0),(.slice none 0 0),(.int .u64 0),(.slice none 0 0),(.int .i64 0),(.bool false),(.int .i64 0)]->aL w w' aT->w'.heap.size=w.heap.size+1->K (.pointer (some ⟨w.heap.size,0,none⟩)) w'):aA pg (bE 49) w K:=iZ (i:=Tryz.t49) aAy rfl hk
theorem Qn{b off:Nat}{cs:List aL1}{w:aL0}{xs:Array aL1}{K:aL1->aL0->Prop}(ho:bD w b cs)(hs:xs.size=16)(hv:∀x∈xs.toList,one x=true)(h:off+16<=cs.length)(hk:∀w',bD w' b (eI cs off xs.toList)->aL w w' (λx=>x=b)->w'.heap.size=w.heap.size->K undef w'):aA pg (aF 49 (.pointer (some ⟨b,off,none⟩)) (.agg xs)) w K:=lL (v:= .agg xs) aAy ho hs hv h hk
theorem PY{b off:Nat}{cs:List aL1}{w:aL0}(ho:bD w b cs)(h:off+16<=cs.length):(aB 49 (.pointer (some ⟨b,off,none⟩))).run pg w= .ok (.value (.agg ((cs.drop off).take 16).toArray)) w:=rA Tryz.underlying49 rfl aAy ho h
theorem lC{ty:TypeId}(x:Option Addr)(n c:Nat)(w:aL0):(eK .len #[24] ty [.slice x n c]).run pg w= .ok (.value (.int .i64 n)) w:=IY Tryz.underlying24 x n c
theorem aDk:(pg).info? 54=some Tryz.t54:=by kernel_rfl
theorem lB{k:IntKind}{a:Int}(b o n c:Nat)(w:aL0)(h0:0<=a)(h1:a<n):(aR 24 (.slice (some ⟨b,o,none⟩) n c) (.int k a)).run pg w= .ok (.value (.pointer (some ⟨b,o+a.toNat*8,none⟩))) w:=Et rfl Tryz.underlying24 aDk b o n c h0 h1
theorem ahK:(pg).info? 22=some Tryz.t22:=by kernel_rfl
theorem iR(b o:Nat)(w:aL0):(aD 54 (.pointer (some ⟨b,o,none⟩)) 2).run pg w= .ok (.value (.pointer (some ⟨b,o+2,none⟩))) w:=bR (i:=2) Tryz.underlying54 rfl ahK (by decide) _
theorem Co(x:Addr)(w:aL0):(aB 22 (.pointer (some x))).run pg w=ldC (w.cell? x) w (far pg 22 x w):=NJ Tryz.underlying22 rfl x w
theorem Rg:(pg).info? 3=some Tryz.t3:=by kernel_rfl
theorem kQ(b o:Nat)(w:aL0):(aD 54 (.pointer (some ⟨b,o,none⟩)) 7).run pg w= .ok (.value (.pointer (some ⟨b,o+7,none⟩))) w:=bR (i:=7) Tryz.underlying54 rfl Rg (by decide) _
theorem uS(x:Addr)(w:aL0):(aB 3 (.pointer (some x))).run pg w=ldC (w.cell? x) w (far pg 3 x w):=NJ Tryz.underlying3 rfl x w
theorem Ml{b off:Nat}{l:List aL1}{w:aL0}(hl:l.length=8)(h:∀j,j<l.length->w.cell? ⟨b,off+j,none⟩=l[j]?):(aB 54 (.pointer (some ⟨b,off,none⟩))).run pg w= .ok (.value (.agg l.toArray)) w:=Xj Tryz.underlying54 rfl aDk hl.symm h
theorem Mk{b off:Nat}{cs:List aL1}{w:aL0}(ho:bD w b cs)(h:off+8<=cs.length):(aB 54 (.pointer (some ⟨b,off,none⟩))).run pg w= .ok (.value (.agg ((cs.drop off).take 8).toArray)) w:=rA Tryz.underlying54 rfl aDk ho h
theorem Mh:(pg).info? 5=some Tryz.t5:=by kernel_rfl
theorem mH{n:Nat}{ps:List (Nat×aL1)}{cells:Array aL1}{w:aL0}(h1:¬n*1>2^24)(h0:¬n*1=0)(hf:Go.Instr.fill (λj=>some (j*1,1)) ((Array.range (n*1)).map ((Tryz.t5.zero.get!).cells[·%(Tryz.t5.zero.get!).cells.size]!)) ps=some cells){K:aL1->aL0->Prop}(hk:∀w',bD w' w.heap.size cells.toList->aL w w' aT->w'.heap.size=w.heap.size+1->K (.slice (some ⟨w.heap.size,0,none⟩) n n) w'):aA pg (bB 22 n ps) w K:=rM (i:=Tryz.t5) Tryz.underlying22 Mh rfl h1 h0 hf hk
theorem apV{b off n c:Nat}{cs:List aL1}{w:aL0}(ho:bD w b cs){K:aL1->aL0->Prop}(hk:∀w',bD w' b cs->aL w w' (λy=>y=b)->w'.heap.size=w.heap.size->K (.slice (some ⟨b,off,none⟩) n c) w'):aA pg (cP 22 22 (.slice (some ⟨b,off,none⟩) n c)) w K:=aF0 Tryz.underlying22 Tryz.underlying5 ho hk
theorem uW{ox oy:Operand}(x:Option Addr)(w:aL0):(aE .eql 43 ox oy (.pointer x) (.pointer none)).run pg w= .ok (.value (.bool x.isNone)) w:=ZB Tryz.underlying43 x
theorem eP{l:List UInt8}{v:aL1}{w:aL0}(h:Bs w v l):(cP 22 9 v).run pg w= .ok (.value (.string ⟨l.toArray⟩)) w:=aDY Tryz.underlying22 Tryz.underlying9 Tryz.underlying5 h
theorem IM{ty:TypeId}(x:Option Addr)(n c:Nat)(w:aL0):(eK .len #[45] ty [.slice x n c]).run pg w= .ok (.value (.int .i64 n)) w:=IY Tryz.underlying45 x n c
theorem TU{b off:Nat}{cs:List aL1}{w:aL0}(ho:bD w b cs)(h:off+3<=cs.length){K:aL1->Prop}(hk:K (.agg ((cs.drop off).take 3).toArray)):lO pg 30 (.pointer (some ⟨b,off,none⟩)) w K:=Fh Tryz.underlying30 rfl atL ho h hk
theorem iI{k:IntKind}(a:Int)(w:aL0):(cP 3 26 (.int k a)).run pg w= .ok (.value (.int .u64 (IntKind.u64.wrap a))) w:=Es Tryz.underlying3 Tryz.underlying26
theorem gZ(w:aL0):(bV 30 []).run pg w= .ok (.value (.agg #[(.int .u64 0),(.int .u32 0),(.slice none 0 0)])) w:=by kernel_rfl
theorem A8 {k:IntKind}(a:Int)(w:aL0):(cP 3 27 (.int k a)).run pg w= .ok (.value (.int .u32 (IntKind.u32.wrap a))) w:=Es Tryz.underlying3 Tryz.underlying27
theorem jV(n0:Int)(n1:Int)(w:aL0):(bV 30 [(0,(.int .u64 n0)),(1,(.int .u32 n1))]).run pg w= .ok (.value (.agg #[(.int .u64 n0),(.int .u32 n1),(.slice none 0 0)])) w:=by kernel_rfl
theorem WD:(pg).info? 26=some Tryz.t26:=by kernel_rfl
theorem gG(b o:Nat)(w:aL0):(aD 30 (.pointer (some ⟨b,o,none⟩)) 0).run pg w= .ok (.value (.pointer (some ⟨b,o,none⟩))) w:=bR (i:=0) Tryz.underlying30 rfl WD (by decide) _
theorem Ap(x:Addr)(w:aL0):(aB 26 (.pointer (some x))).run pg w=ldC (w.cell? x) w (far pg 26 x w):=NJ Tryz.underlying26 rfl x w
theorem aDj:(pg).info? 28=some Tryz.t28:=by kernel_rfl
theorem fJ(b o:Nat)(w:aL0):(aD 30 (.pointer (some ⟨b,o,none⟩)) 2).run pg w= .ok (.value (.pointer (some ⟨b,o+2,none⟩))) w:=bR (i:=2) Tryz.underlying30 rfl aDj (by decide) _
theorem vY(x:Addr)(w:aL0):(aB 28 (.pointer (some x))).run pg w=ldC (w.cell? x) w (far pg 28 x w):=NJ Tryz.underlying28 rfl x w
theorem pB{k k':IntKind}{lo hi:Int}(a:Option Addr)(n c:Nat)(w:aL0)(h0:0<=lo)(h1:lo<=hi)(h2:hi<=c):(dH 22 (.slice a n c) (some (.int k lo)) (some (.int k' hi)) none).run pg w= .ok (.value (.slice (dD a c (lo.toNat) 1) (hi.toNat-lo.toNat) (c-lo.toNat))) w:=aqO Tryz.underlying22 Mh _ n c h0 h1 h2
theorem WE:(pg).info? 70=some Tryz.t70:=by kernel_rfl
theorem alL{n:Nat}{ps:List (Nat×aL1)}{cells:Array aL1}{w:aL0}(h1:¬n*32>2^24)(h0:¬n*32=0)(hf:Go.Instr.fill (λj=>some (j*32,32)) ((Array.range (n*32)).map ((Tryz.t70.zero.get!).cells[·%(Tryz.t70.zero.get!).cells.size]!)) ps=some cells){K:aL1->aL0->Prop}(hk:∀w',bD w' w.heap.size cells.toList->aL w w' aT->w'.heap.size=w.heap.size+1->K (.slice (some ⟨w.heap.size,0,none⟩) n n) w'):aA pg (bB 28 n ps) w K:=rM (i:=Tryz.t70) Tryz.underlying28 WE rfl h1 h0 hf hk
theorem A5 {base n m:Nat}{ty:TypeId}{w:aL0}{v x:aL1}{l news:List aL1}(h:mP w base 32 v n l)(hx:Cl w 32 x m news)(hone:∀y∈news,one y=true)(hb:base<=w.heap.size)(hbytes:(n+m)*32<=140737488355328){K:aL1->aL0->Prop}(hk:∀v' w',mP w' base 32 v' (n+m) (l++news)->aL w w' (λy=>base<=y)->K v' w'):aA pg (eK .append #[28,28] ty [v,x]) w K:=JH (i:=Tryz.t70) Tryz.underlying28 Tryz.underlying28 WE rfl rfl rfl h hx hone hb (by omega) hbytes (by decide) hk
theorem U9 {b off:Nat}{cs:List aL1}{w:aL0}{v:aL1}{K:aL1->aL0->Prop}(ho:bD w b cs)(hv:one v=true)(h:off<cs.length)(hk:∀w',bD w' b (cs.set off v)->aL w w' (λx=>x=b)->w'.heap.size=w.heap.size->K undef w'):aA pg (aF 28 (.pointer (some ⟨b,off,none⟩)) v) w K:=gO aDj rfl ho hv h hk
theorem UA{w:aL0}{K:aL1->aL0->Prop}(hk:∀w',Mp w' w.heap.size (λs:ByteArray=>Value.string s) ([]:List (ByteArray×aL1))->aL w w' aT->w'.heap.size=w.heap.size+1->K (.map (some w.heap.size)) w'):aA pg (Z7 73 none) w K:=aCk _ hk
theorem qQ(n0:Int)(m1:Option Nat)(m2:Option Nat)(n3:Int)(w:aL0):(bV 76 [(0,(.int .i64 n0)),(1,(.map m1)),(2,(.map m2)),(4,(.int .i64 n3))]).run pg w= .ok (.value (.agg #[(.int .i64 n0),(.map m1),(.map m2),(.slice none 0 0),(.int .i64 n3),(.bool false)])) w:=by kernel_rfl
theorem dW{b off:Nat}{cs:List aL1}{w:aL0}(ho:bD w b cs)(h:off+5<=cs.length){K:aL1->Prop}(hk:K (.agg ((cs.drop off).take 5).toArray)):lO pg 40 (.pointer (some ⟨b,off,none⟩)) w K:=Fh Tryz.underlying40 rfl atN ho h hk
theorem pM(w:aL0):(bV 40 []).run pg w= .ok (.value (.agg #[(.int .i64 0),(.slice none 0 0),(.slice none 0 0),(.int .i64 0),(.bool false)])) w:=by kernel_rfl
theorem lP(n0:Int)(n1:Int)(w:aL0):(bV 40 [(0,(.int .i64 n0)),(3,(.int .i64 n1))]).run pg w= .ok (.value (.agg #[(.int .i64 n0),(.slice none 0 0),(.slice none 0 0),(.int .i64 n1),(.bool false)])) w:=by kernel_rfl
theorem eU{b off:Nat}{cs:List aL1}{w:aL0}(ho:bD w b cs)(h:off+16<=cs.length){K:aL1->Prop}(hk:K (.agg ((cs.drop off).take 16).toArray)):lO pg 49 (.pointer (some ⟨b,off,none⟩)) w K:=Fh Tryz.underlying49 rfl aAy ho h hk
theorem aGh:(pg).info? 34=some Tryz.t34:=by kernel_rfl
theorem oA(b o:Nat)(w:aL0):(aD 49 (.pointer (some ⟨b,o,none⟩)) 0).run pg w= .ok (.value (.pointer (some ⟨b,o,none⟩))) w:=bR (i:=0) Tryz.underlying49 rfl aGh (by decide) _
theorem C6 (x:Addr)(w:aL0):(aB 34 (.pointer (some x))).run pg w=ldC (w.cell? x) w (far pg 34 x w):=NJ Tryz.underlying34 rfl x w
theorem oE(b o:Nat)(w:aL0):(aD 49 (.pointer (some ⟨b,o,none⟩)) 2).run pg w= .ok (.value (.pointer (some ⟨b,o+2,none⟩))) w:=bR (i:=2) Tryz.underlying49 rfl atN (by decide) _
theorem atP:(pg).info? 47=some Tryz.t47:=by kernel_rfl
theorem bP{w:aL0}{K:aL1->aL0->Prop}(hk:∀w',bD w' w.heap.size [(.string ⟨#[]⟩),(.int .u64 0),(.int .u32 0),(.slice none 0 0),(.int .u64 0),(.slice none 0 0),(.int .i64 0),(.bool false),(.int .i64 0)]->aL w w' aT->w'.heap.size=w.heap.size+1->K (.pointer (some ⟨w.heap.size,0,none⟩)) w'):aA pg (bE 47) w K:=iZ (i:=Tryz.t47) atP rfl hk
theorem pU{b off:Nat}{cs:List aL1}{w:aL0}{xs:Array aL1}{K:aL1->aL0->Prop}(ho:bD w b cs)(hs:xs.size=9)(hv:∀x∈xs.toList,one x=true)(h:off+9<=cs.length)(hk:∀w',bD w' b (eI cs off xs.toList)->aL w w' (λx=>x=b)->w'.heap.size=w.heap.size->K undef w'):aA pg (aF 47 (.pointer (some ⟨b,off,none⟩)) (.agg xs)) w K:=lL (v:= .agg xs) atP ho hs hv h hk
theorem Ti{ox oy:Operand}(c d:Bool)(w:aL0):(aE .neq 4 ox oy (.bool c) (.bool d)).run pg w= .ok (.value (.bool (!(c==d)))) w:=aG4 c d Tryz.underlying4
theorem aGk:(pg).info? 43=some Tryz.t43:=by kernel_rfl
theorem oC(b o:Nat)(w:aL0):(aD 49 (.pointer (some ⟨b,o,none⟩)) 1).run pg w= .ok (.value (.pointer (some ⟨b,o+1,none⟩))) w:=bR (i:=1) Tryz.underlying49 rfl aGk (by decide) _
theorem aaA{b off:Nat}{cs:List aL1}{w:aL0}{v:aL1}{K:aL1->aL0->Prop}(ho:bD w b cs)(hv:one v=true)(h:off<cs.length)(hk:∀w',bD w' b (cs.set off v)->aL w w' (λx=>x=b)->w'.heap.size=w.heap.size->K undef w'):aA pg (aF 43 (.pointer (some ⟨b,off,none⟩)) v) w K:=gO aGk rfl ho hv h hk
theorem wL{b off:Nat}{cs:List aL1}{w:aL0}(ho:bD w b cs)(h:off+9<=cs.length):(aB 47 (.pointer (some ⟨b,off,none⟩))).run pg w= .ok (.value (.agg ((cs.drop off).take 9).toArray)) w:=rA Tryz.underlying47 rfl atP ho h
theorem oB(b o:Nat)(w:aL0):(aD 49 (.pointer (some ⟨b,o,none⟩)) 3).run pg w= .ok (.value (.pointer (some ⟨b,o+7,none⟩))) w:=bR (i:=3) Tryz.underlying49 rfl atP (by decide) _
theorem Db{ty:TypeId}(x:Option Addr)(n c:Nat)(w:aL0):(eK .len #[80] ty [.slice x n c]).run pg w= .ok (.value (.int .i64 n)) w:=IY Tryz.underlying80 x n c
theorem nA{ty:TypeId}(x:Option Addr)(n c:Nat)(w:aL0):(eK .len #[37] ty [.slice x n c]).run pg w= .ok (.value (.int .i64 n)) w:=IY Tryz.underlying37 x n c
theorem aGj:(pg).info? 38=some Tryz.t38:=by kernel_rfl
theorem lV(b o:Nat)(w:aL0):(aD 40 (.pointer (some ⟨b,o,none⟩)) 2).run pg w= .ok (.value (.pointer (some ⟨b,o+2,none⟩))) w:=bR (i:=2) Tryz.underlying40 rfl aGj (by decide) _
theorem mZ(x:Addr)(w:aL0):(aB 38 (.pointer (some x))).run pg w=ldC (w.cell? x) w (far pg 38 x w):=NJ Tryz.underlying38 rfl x w
theorem nB{ty:TypeId}(x:Option Addr)(n c:Nat)(w:aL0):(eK .len #[38] ty [.slice x n c]).run pg w= .ok (.value (.int .i64 n)) w:=IY Tryz.underlying38 x n c
theorem ahL:(pg).info? 4=some Tryz.t4:=by kernel_rfl
theorem cI(b o:Nat)(w:aL0):(aD 40 (.pointer (some ⟨b,o,none⟩)) 4).run pg w= .ok (.value (.pointer (some ⟨b,o+4,none⟩))) w:=bR (i:=4) Tryz.underlying40 rfl ahL (by decide) _
theorem An(x:Addr)(w:aL0):(aB 4 (.pointer (some x))).run pg w=ldC (w.cell? x) w (far pg 4 x w):=NJ Tryz.underlying4 rfl x w
theorem WG:(pg).info? 9=some Tryz.t9:=by kernel_rfl
theorem Al{k:IntKind}{a:Int}(b o n c:Nat)(w:aL0)(h0:0<=a)(h1:a<n):(aR 80 (.slice (some ⟨b,o,none⟩) n c) (.int k a)).run pg w= .ok (.value (.pointer (some ⟨b,o+a.toNat,none⟩))) w:=Tr rfl Tryz.underlying80 WG b o n c h0 h1
theorem lK(x:Addr)(w:aL0):(aB 9 (.pointer (some x))).run pg w=ldC (w.cell? x) w (far pg 9 x w):=NJ Tryz.underlying9 rfl x w
theorem ahM:(pg).info? 85=some Tryz.t85:=by kernel_rfl
theorem gH{k:IntKind}{a:Int}(b o n c:Nat)(w:aL0)(h0:0<=a)(h1:a<n):(aR 37 (.slice (some ⟨b,o,none⟩) n c) (.int k a)).run pg w= .ok (.value (.pointer (some ⟨b,o+a.toNat*2,none⟩))) w:=Et rfl Tryz.underlying37 ahM b o n c h0 h1
theorem kW(b o:Nat)(w:aL0):(aD 85 (.pointer (some ⟨b,o,none⟩)) 0).run pg w= .ok (.value (.pointer (some ⟨b,o,none⟩))) w:=bR (i:=0) Tryz.underlying85 rfl WG (by decide) _
theorem fE(b o:Nat)(w:aL0):(aD 85 (.pointer (some ⟨b,o,none⟩)) 1).run pg w= .ok (.value (.pointer (some ⟨b,o+1,none⟩))) w:=bR (i:=1) Tryz.underlying85 rfl WG (by decide) _
theorem Ao(x:Addr)(w:aL0):(aB 43 (.pointer (some x))).run pg w=ldC (w.cell? x) w (far pg 43 x w):=NJ Tryz.underlying43 rfl x w
theorem aAx:(pg).info? 45=some Tryz.t45:=by kernel_rfl
theorem kY(b o:Nat)(w:aL0):(aD 47 (.pointer (some ⟨b,o,none⟩)) 3).run pg w= .ok (.value (.pointer (some ⟨b,o+5,none⟩))) w:=bR (i:=3) Tryz.underlying47 rfl aAx (by decide) _
theorem Nz(x:Addr)(w:aL0):(aB 45 (.pointer (some x))).run pg w=ldC (w.cell? x) w (far pg 45 x w):=NJ Tryz.underlying45 rfl x w
theorem kB(b o:Nat)(w:aL0):(aD 47 (.pointer (some ⟨b,o,none⟩)) 2).run pg w= .ok (.value (.pointer (some ⟨b,o+4,none⟩))) w:=bR (i:=2) Tryz.underlying47 rfl WD (by decide) _
theorem kX(b o:Nat)(w:aL0):(aD 47 (.pointer (some ⟨b,o,none⟩)) 5).run pg w= .ok (.value (.pointer (some ⟨b,o+7,none⟩))) w:=bR (i:=5) Tryz.underlying47 rfl ahL (by decide) _
theorem atM:(pg).info? 31=some Tryz.t31:=by kernel_rfl
theorem oI(b o:Nat)(w:aL0):(aD 47 (.pointer (some ⟨b,o,none⟩)) 6).run pg w= .ok (.value (.pointer (some ⟨b,o+8,none⟩))) w:=bR (i:=6) Tryz.underlying47 rfl atM (by decide) _
theorem C4 (x:Addr)(w:aL0):(aB 31 (.pointer (some x))).run pg w=ldC (w.cell? x) w (far pg 31 x w):=NJ Tryz.underlying31 rfl x w
theorem Em{k:IntKind}{a:Int}(b o n c:Nat)(w:aL0)(h0:0<=a)(h1:a<n):(aR 45 (.slice (some ⟨b,o,none⟩) n c) (.int k a)).run pg w= .ok (.value (.pointer (some ⟨b,o+a.toNat,none⟩))) w:=Tr rfl Tryz.underlying45 ahL b o n c h0 h1
theorem jB(b o:Nat)(w:aL0):(aD 54 (.pointer (some ⟨b,o,none⟩)) 0).run pg w= .ok (.value (.pointer (some ⟨b,o,none⟩))) w:=bR (i:=0) Tryz.underlying54 rfl Rg (by decide) _
theorem Rf:(pg).info? 27=some Tryz.t27:=by kernel_rfl
theorem mV(b o:Nat)(w:aL0):(aD 30 (.pointer (some ⟨b,o,none⟩)) 1).run pg w= .ok (.value (.pointer (some ⟨b,o+1,none⟩))) w:=bR (i:=1) Tryz.underlying30 rfl Rf (by decide) _
theorem gW(x:Addr)(w:aL0):(aB 27 (.pointer (some x))).run pg w=ldC (w.cell? x) w (far pg 27 x w):=NJ Tryz.underlying27 rfl x w
theorem EX{k:IntKind}(a:Int)(w:aL0):(cP 27 3 (.int k a)).run pg w= .ok (.value (.int .i64 (IntKind.i64.wrap a))) w:=Es Tryz.underlying27 Tryz.underlying3
theorem jD(b o:Nat)(w:aL0):(aD 54 (.pointer (some ⟨b,o,none⟩)) 1).run pg w= .ok (.value (.pointer (some ⟨b,o+1,none⟩))) w:=bR (i:=1) Tryz.underlying54 rfl Rg (by decide) _
theorem jE(b o:Nat)(w:aL0):(aD 54 (.pointer (some ⟨b,o,none⟩)) 5).run pg w= .ok (.value (.pointer (some ⟨b,o+5,none⟩))) w:=bR (i:=5) Tryz.underlying54 rfl Rg (by decide) _
theorem kT(b o:Nat)(w:aL0):(aD 40 (.pointer (some ⟨b,o,none⟩)) 3).run pg w= .ok (.value (.pointer (some ⟨b,o+3,none⟩))) w:=bR (i:=3) Tryz.underlying40 rfl Rg (by decide) _
theorem DD{b off:Nat}{cs:List aL1}{w:aL0}{v:aL1}{K:aL1->aL0->Prop}(ho:bD w b cs)(hv:one v=true)(h:off<cs.length)(hk:∀w',bD w' b (cs.set off v)->aL w w' (λx=>x=b)->w'.heap.size=w.heap.size->K undef w'):aA pg (aF 3 (.pointer (some ⟨b,off,none⟩)) v) w K:=gO Rg rfl ho hv h hk
theorem jA(b o:Nat)(w:aL0):(aD 54 (.pointer (some ⟨b,o,none⟩)) 4).run pg w= .ok (.value (.pointer (some ⟨b,o+4,none⟩))) w:=bR (i:=4) Tryz.underlying54 rfl aAx (by decide) _
theorem jC(b o:Nat)(w:aL0):(aD 54 (.pointer (some ⟨b,o,none⟩)) 6).run pg w= .ok (.value (.pointer (some ⟨b,o+6,none⟩))) w:=bR (i:=6) Tryz.underlying54 rfl Mh (by decide) _
theorem yN(x:Addr)(w:aL0):(aB 5 (.pointer (some x))).run pg w=ldC (w.cell? x) w (far pg 5 x w):=NJ Tryz.underlying5 rfl x w
theorem jU(s0:ByteArray)(n1:Int)(s2:ByteArray)(w:aL0):(bV 96 [(1,(.string s0)),(3,(.int .i64 n1)),(4,(.string s2))]).run pg w= .ok (.value (.agg #[(.int .i64 0),(.string s0),(.string ⟨#[]⟩),(.int .i64 n1),(.string s2)])) w:=by kernel_rfl
theorem Ar{ox oy:Operand}(x:Option Addr)(w:aL0):(aE .eql 34 ox oy (.pointer x) (.pointer none)).run pg w= .ok (.value (.bool x.isNone)) w:=ZB Tryz.underlying34 x
theorem nD{ty:TypeId}(x:ByteArray)(w:aL0):(eK .len #[9] ty [.string x]).run pg w= .ok (.value (.int .i64 x.size)) w:=aG8 Tryz.underlying9 x
theorem Fk{ty:TypeId}(x:Option Addr)(n c:Nat)(w:aL0):(eK .len #[28] ty [.slice x n c]).run pg w= .ok (.value (.int .i64 n)) w:=IY Tryz.underlying28 x n c
theorem mG(p0:Option Addr)(s1:ByteArray)(aIF aIG aIH:aL1)(w:aL0):(bV 99 [(0,(.pointer p0)),(1,(.string s1)),(2,(.agg #[aIF,aIG,aIH]))]).run pg w= .ok (.value (.agg #[(.pointer p0),(.string s1),aIF,aIG,aIH,(.int .u64 0),(.slice none 0 0),(.int .i64 0),(.bool false),(.int .i64 0)])) w:=by kernel_rfl
theorem rT(b o:Nat)(w:aL0):(aD 99 (.pointer (some ⟨b,o,none⟩)) 4).run pg w= .ok (.value (.pointer (some ⟨b,o+6,none⟩))) w:=bR (i:=4) Tryz.underlying99 rfl aAx (by decide) _
theorem EL{b off:Nat}{cs:List aL1}{w:aL0}{v:aL1}{K:aL1->aL0->Prop}(ho:bD w b cs)(hv:one v=true)(h:off<cs.length)(hk:∀w',bD w' b (cs.set off v)->aL w w' (λx=>x=b)->w'.heap.size=w.heap.size->K undef w'):aA pg (aF 45 (.pointer (some ⟨b,off,none⟩)) v) w K:=gO aAx rfl ho hv h hk
theorem rS(b o:Nat)(w:aL0):(aD 99 (.pointer (some ⟨b,o,none⟩)) 6).run pg w= .ok (.value (.pointer (some ⟨b,o+8,none⟩))) w:=bR (i:=6) Tryz.underlying99 rfl ahL (by decide) _
theorem vD{b off:Nat}{cs:List aL1}{w:aL0}{v:aL1}{K:aL1->aL0->Prop}(ho:bD w b cs)(hv:one v=true)(h:off<cs.length)(hk:∀w',bD w' b (cs.set off v)->aL w w' (λx=>x=b)->w'.heap.size=w.heap.size->K undef w'):aA pg (aF 4 (.pointer (some ⟨b,off,none⟩)) v) w K:=gO ahL rfl ho hv h hk
theorem ahZ{k:IntKind}{n:Int}{w:aL0}{K:aL1->aL0->Prop}(h0:0<=n)(hn:1*n<=2^48)(hk:∀w',bD w' w.heap.size (List.replicate n.toNat (.bool false))->aL w w' aT->w'.heap.size=w.heap.size+1->K (.slice (some ⟨w.heap.size,0,none⟩) n.toNat n.toNat) w'):aA pg (yX 45 (.int k n) (.int k n)) w K:=awK (i:=Tryz.t4) Tryz.underlying45 ahL rfl rfl rfl h0 hn (by omega) hk
theorem sC{ty:TypeId}(x:Option Addr)(n c:Nat)(w:aL0):(eK .len #[104] ty [.slice x n c]).run pg w= .ok (.value (.int .i64 n)) w:=IY Tryz.underlying104 x n c
theorem Vv:(pg).info? 109=some Tryz.t109:=by kernel_rfl
theorem rV{k:IntKind}{a:Int}(b o n c:Nat)(w:aL0)(h0:0<=a)(h1:a<n):(aR 104 (.slice (some ⟨b,o,none⟩) n c) (.int k a)).run pg w= .ok (.value (.pointer (some ⟨b,o+a.toNat*2,none⟩))) w:=Et rfl Tryz.underlying104 Vv b o n c h0 h1
theorem WM{b off:Nat}{l:List aL1}{w:aL0}(hl:l.length=2)(h:∀j,j<l.length->w.cell? ⟨b,off+j,none⟩=l[j]?):(aB 109 (.pointer (some ⟨b,off,none⟩))).run pg w= .ok (.value (.agg l.toArray)) w:=Xj Tryz.underlying109 rfl Vv hl.symm h
theorem xM{b off:Nat}{cs:List aL1}{w:aL0}(ho:bD w b cs)(h:off+2<=cs.length):(aB 109 (.pointer (some ⟨b,off,none⟩))).run pg w= .ok (.value (.agg ((cs.drop off).take 2).toArray)) w:=rA Tryz.underlying109 rfl Vv ho h
theorem Ed{w:aL0}{K:aL1->aL0->Prop}(hk:∀w',bD w' w.heap.size [(.int .u8 0),(.int .u64 0)]->aL w w' aT->w'.heap.size=w.heap.size+1->K (.pointer (some ⟨w.heap.size,0,none⟩)) w'):aA pg (bE 109) w K:=iZ (i:=Tryz.t109) Vv rfl hk
theorem DF{b off:Nat}{cs:List aL1}{w:aL0}{xs:Array aL1}{K:aL1->aL0->Prop}(ho:bD w b cs)(hs:xs.size=2)(hv:∀x∈xs.toList,one x=true)(h:off+2<=cs.length)(hk:∀w',bD w' b (eI cs off xs.toList)->aL w w' (λx=>x=b)->w'.heap.size=w.heap.size->K undef w'):aA pg (aF 109 (.pointer (some ⟨b,off,none⟩)) (.agg xs)) w K:=lL (v:= .agg xs) Vv ho hs hv h hk
theorem pO(b o:Nat)(w:aL0):(aD 109 (.pointer (some ⟨b,o,none⟩)) 0).run pg w= .ok (.value (.pointer (some ⟨b,o,none⟩))) w:=bR (i:=0) Tryz.underlying109 rfl Mh (by decide) _
theorem nZ(b o:Nat)(w:aL0):(aD 109 (.pointer (some ⟨b,o,none⟩)) 1).run pg w= .ok (.value (.pointer (some ⟨b,o+1,none⟩))) w:=bR (i:=1) Tryz.underlying109 rfl WD (by decide) _
theorem Ak(b o:Nat)(w:aL0):(aD 99 (.pointer (some ⟨b,o,none⟩)) 2).run pg w= .ok (.value (.pointer (some ⟨b,o+2,none⟩))) w:=bR (i:=2) Tryz.underlying99 rfl atL (by decide) _
theorem anC{w:aL0}{K:aL1->aL0->Prop}(hk:∀w',bD w' w.heap.size [(.int .u64 0)]->aL w w' aT->w'.heap.size=w.heap.size+1->K (.pointer (some ⟨w.heap.size,0,none⟩)) w'):aA pg (bE 26) w K:=iZ (i:=Tryz.t26) WD rfl hk
theorem MU{b off:Nat}{cs:List aL1}{w:aL0}{v:aL1}{K:aL1->aL0->Prop}(ho:bD w b cs)(hv:one v=true)(h:off<cs.length)(hk:∀w',bD w' b (cs.set off v)->aL w w' (λx=>x=b)->w'.heap.size=w.heap.size->K undef w'):aA pg (aF 26 (.pointer (some ⟨b,off,none⟩)) v) w K:=gO WD rfl ho hv h hk
theorem Ai(b o:Nat)(w:aL0):(aD 99 (.pointer (some ⟨b,o,none⟩)) 0).run pg w= .ok (.value (.pointer (some ⟨b,o,none⟩))) w:=bR (i:=0) Tryz.underlying99 rfl aGh (by decide) _
theorem aGl:(pg).info? 60=some Tryz.t60:=by kernel_rfl
theorem CU{n:Nat}{ps:List (Nat×aL1)}{cells:Array aL1}{w:aL0}(h1:¬n*1>2^24)(h0:¬n*1=0)(hf:Go.Instr.fill (λj=>some (j*1,1)) ((Array.range (n*1)).map ((Tryz.t60.zero.get!).cells[·%(Tryz.t60.zero.get!).cells.size]!)) ps=some cells){K:aL1->aL0->Prop}(hk:∀w',bD w' w.heap.size cells.toList->aL w w' aT->w'.heap.size=w.heap.size+1->K (.slice (some ⟨w.heap.size,0,none⟩) n n) w'):aA pg (bB 151 n ps) w K:=rM (i:=Tryz.t60) Tryz.underlying151 aGl rfl h1 h0 hf hk
theorem Aj(b o:Nat)(w:aL0):(aD 99 (.pointer (some ⟨b,o,none⟩)) 7).run pg w= .ok (.value (.pointer (some ⟨b,o+9,none⟩))) w:=bR (i:=7) Tryz.underlying99 rfl atM (by decide) _
theorem vC{b off:Nat}{cs:List aL1}{w:aL0}{v:aL1}{K:aL1->aL0->Prop}(ho:bD w b cs)(hv:one v=true)(h:off<cs.length)(hk:∀w',bD w' b (cs.set off v)->aL w w' (λx=>x=b)->w'.heap.size=w.heap.size->K undef w'):aA pg (aF 31 (.pointer (some ⟨b,off,none⟩)) v) w K:=gO atM rfl ho hv h hk
theorem rU(b o:Nat)(w:aL0):(aD 99 (.pointer (some ⟨b,o,none⟩)) 1).run pg w= .ok (.value (.pointer (some ⟨b,o+1,none⟩))) w:=bR (i:=1) Tryz.underlying99 rfl WG (by decide) _
theorem aDl:(pg).info? 73=some Tryz.t73:=by kernel_rfl
theorem xJ(b o:Nat)(w:aL0):(aD 76 (.pointer (some ⟨b,o,none⟩)) 2).run pg w= .ok (.value (.pointer (some ⟨b,o+2,none⟩))) w:=bR (i:=2) Tryz.underlying76 rfl aDl (by decide) _
theorem Fi(x:Addr)(w:aL0):(aB 73 (.pointer (some x))).run pg w=ldC (w.cell? x) w (far pg 73 x w):=NJ Tryz.underlying73 rfl x w
theorem Fj{w:aL0}{m:Nat}{l:List (ByteArray×aL1)}(hm:Mp w m (λs:ByteArray=>Value.string s) l)(k:ByteArray):(Dp 73 (.map (some m)) ((λs:ByteArray=>Value.string s) k) true).run pg w= .ok (.value (.tuple #[(OP k l).getD (.slice none 0 0),.bool (OP k l).isSome])) w:=aG9 Tryz.underlying73 ahK rfl (Tl Tryz.underlying9) hm k
theorem ahU{w:aL0}{m:Nat}{l:List (ByteArray×aL1)}(hm:Mp w m (λs:ByteArray=>Value.string s) l)(k:ByteArray):(Dp 73 (.map (some m)) ((λs:ByteArray=>Value.string s) k) false).run pg w= .ok (.value ((OP k l).getD (.slice none 0 0))) w:=aFL Tryz.underlying73 ahK rfl (Tl Tryz.underlying9) hm k
theorem qT(b o:Nat)(w:aL0):(aD 99 (.pointer (some ⟨b,o,none⟩)) 3).run pg w= .ok (.value (.pointer (some ⟨b,o+5,none⟩))) w:=bR (i:=3) Tryz.underlying99 rfl WD (by decide) _
theorem uX{ox oy:Operand}(x:Option Addr)(w:aL0):(aE .neq 43 ox oy (.pointer x) (.pointer none)).run pg w= .ok (.value (.bool (!x.isNone))) w:=aD0 Tryz.underlying43 x
theorem lU{k:IntKind}(a:Int)(w:aL0):(cP 26 3 (.int k a)).run pg w= .ok (.value (.int .i64 (IntKind.i64.wrap a))) w:=Es Tryz.underlying26 Tryz.underlying3
theorem FM{b off:Nat}{cs:List aL1}{w:aL0}(ho:bD w b cs)(h:off+32<=cs.length){K:aL1->Prop}(hk:K (.agg ((cs.drop off).take 32).toArray)):lO pg 70 (.pointer (some ⟨b,off,none⟩)) w K:=Fh Tryz.underlying70 rfl WE ho h hk
theorem BI{w:aL0}{K:aL1->aL0->Prop}(hk:∀w',bD w' w.heap.size [(.int .u8 0),(.int .u8 0),(.int .u8 0),(.int .u8 0),(.int .u8 0),(.int .u8 0),(.int .u8 0),(.int .u8 0),(.int .u8 0),(.int .u8 0),(.int .u8 0),(.int .u8 0),(.int .u8 0),(.int .u8 0),(.int .u8 0),(.int .u8 0),(.int .u8 0),(.int .u8 0),(.int .u8 0),(.int .u8 0),(.int .u8 0),(.int .u8 0),(.int .u8 0),(.int .u8 0),(.int .u8 0),(.int .u8 0),(.int .u8 0),(.int .u8 0),(.int .u8 0),(.int .u8 0),(.int .u8 0),(.int .u8 0)]->aL w w' aT->w'.heap.size=w.heap.size+1->K (.pointer (some ⟨w.heap.size,0,none⟩)) w'):aA pg (bE 70) w K:=iZ (i:=Tryz.t70) WE rfl hk
theorem iY{base n m:Nat}{ty:TypeId}{w:aL0}{v x:aL1}{l news:List aL1}(h:mP w base 1 v n l)(hx:Cl w 1 x m news)(hone:∀y∈news,one y=true)(hb:base<=w.heap.size)(hbytes:(n+m)*1<=140737488355328){K:aL1->aL0->Prop}(hk:∀v' w',mP w' base 1 v' (n+m) (l++news)->aL w w' (λy=>base<=y)->K v' w'):aA pg (eK .append #[22,22] ty [v,x]) w K:=JH (i:=Tryz.t5) Tryz.underlying22 Tryz.underlying22 Mh rfl rfl rfl h hx hone hb (by omega) hbytes (by decide) hk
theorem F9 {b off:Nat}{cs:List aL1}{w:aL0}{xs:Array aL1}{K:aL1->aL0->Prop}(ho:bD w b cs)(hs:xs.size=32)(hv:∀x∈xs.toList,one x=true)(h:off+32<=cs.length)(hk:∀w',bD w' b (eI cs off xs.toList)->aL w w' (λx=>x=b)->w'.heap.size=w.heap.size->K undef w'):aA pg (aF 70 (.pointer (some ⟨b,off,none⟩)) (.agg xs)) w K:=lL (v:= .agg xs) WE ho hs hv h hk
theorem lE{b off:Nat}{cs:List aL1}{w:aL0}(ho:bD w b cs)(h:off+9<=cs.length){K:aL1->Prop}(hk:K (.agg ((cs.drop off).take 9).toArray)):lO pg 47 (.pointer (some ⟨b,off,none⟩)) w K:=Fh Tryz.underlying47 rfl atP ho h hk
theorem pN(w:aL0):(bV 47 []).run pg w= .ok (.value (.agg #[(.string ⟨#[]⟩),(.int .u64 0),(.int .u32 0),(.slice none 0 0),(.int .u64 0),(.slice none 0 0),(.int .i64 0),(.bool false),(.int .i64 0)])) w:=by kernel_rfl
theorem kS(b o:Nat)(w:aL0):(aD 44 (.pointer (some ⟨b,o,none⟩)) 0).run pg w= .ok (.value (.pointer (some ⟨b,o,none⟩))) w:=bR (i:=0) Tryz.underlying44 rfl WD (by decide) _
theorem kR(b o:Nat)(w:aL0):(aD 44 (.pointer (some ⟨b,o,none⟩)) 1).run pg w= .ok (.value (.pointer (some ⟨b,o+1,none⟩))) w:=bR (i:=1) Tryz.underlying44 rfl Rf (by decide) _
theorem jF(b o:Nat)(w:aL0):(aD 44 (.pointer (some ⟨b,o,none⟩)) 2).run pg w= .ok (.value (.pointer (some ⟨b,o+2,none⟩))) w:=bR (i:=2) Tryz.underlying44 rfl aDj (by decide) _
theorem atO:(pg).info? 44=some Tryz.t44:=by kernel_rfl
theorem iF{b off:Nat}{cs:List aL1}{w:aL0}(ho:bD w b cs)(h:off+3<=cs.length):(aB 44 (.pointer (some ⟨b,off,none⟩))).run pg w= .ok (.value (.agg ((cs.drop off).take 3).toArray)) w:=rA Tryz.underlying44 rfl atO ho h
theorem lT(s0:ByteArray)(aEM aEN aEO:aL1)(w:aL0):(bV 47 [(0,(.string s0)),(1,(.agg #[aEM,aEN,aEO]))]).run pg w= .ok (.value (.agg #[(.string s0),aEM,aEN,aEO,(.int .u64 0),(.slice none 0 0),(.int .i64 0),(.bool false),(.int .i64 0)])) w:=by kernel_rfl
theorem lW(b o:Nat)(w:aL0):(aD 47 (.pointer (some ⟨b,o,none⟩)) 4).run pg w= .ok (.value (.pointer (some ⟨b,o+6,none⟩))) w:=bR (i:=4) Tryz.underlying47 rfl Rg (by decide) _
theorem nC{ty:TypeId}(x:Option Addr)(n c:Nat)(w:aL0):(eK .len #[120] ty [.slice x n c]).run pg w= .ok (.value (.int .i64 n)) w:=IY Tryz.underlying120 x n c
theorem Zi:(pg).info? 123=some Tryz.t123:=by kernel_rfl
theorem mX{k:IntKind}{a:Int}(b o n c:Nat)(w:aL0)(h0:0<=a)(h1:a<n):(aR 120 (.slice (some ⟨b,o,none⟩) n c) (.int k a)).run pg w= .ok (.value (.pointer (some ⟨b,o+a.toNat*2,none⟩))) w:=Et rfl Tryz.underlying120 Zi b o n c h0 h1
theorem eA(b o:Nat)(w:aL0):(aD 123 (.pointer (some ⟨b,o,none⟩)) 0).run pg w= .ok (.value (.pointer (some ⟨b,o,none⟩))) w:=bR (i:=0) Tryz.underlying123 rfl Mh (by decide) _
theorem dT(b o:Nat)(w:aL0):(aD 123 (.pointer (some ⟨b,o,none⟩)) 1).run pg w= .ok (.value (.pointer (some ⟨b,o+1,none⟩))) w:=bR (i:=1) Tryz.underlying123 rfl WD (by decide) _
theorem lS(n0:Int)(n1:Int)(w:aL0):(bV 123 [(0,(.int .u8 n0)),(1,(.int .u64 n1))]).run pg w= .ok (.value (.agg #[(.int .u8 n0),(.int .u64 n1)])) w:=by kernel_rfl
theorem P5 {b off:Nat}{cs:List aL1}{w:aL0}(ho:bD w b cs)(h:off+3<=cs.length){K:aL1->Prop}(hk:K (.agg ((cs.drop off).take 3).toArray)):lO pg 44 (.pointer (some ⟨b,off,none⟩)) w K:=Fh Tryz.underlying44 rfl atO ho h hk
theorem Qz{w:aL0}{K:aL1->aL0->Prop}(hk:∀w',bD w' w.heap.size [(.int .u64 0),(.int .u32 0),(.slice none 0 0)]->aL w w' aT->w'.heap.size=w.heap.size+1->K (.pointer (some ⟨w.heap.size,0,none⟩)) w'):aA pg (bE 44) w K:=iZ (i:=Tryz.t44) atO rfl hk
theorem jS(n0:Int)(n1:Int)(a2:Option Addr)(l2 c2:Nat)(w:aL0):(bV 44 [(0,(.int .u64 n0)),(1,(.int .u32 n1)),(2,(.slice a2 l2 c2))]).run pg w= .ok (.value (.agg #[(.int .u64 n0),(.int .u32 n1),(.slice a2 l2 c2)])) w:=by kernel_rfl
theorem Qo{b off:Nat}{cs:List aL1}{w:aL0}{xs:Array aL1}{K:aL1->aL0->Prop}(ho:bD w b cs)(hs:xs.size=3)(hv:∀x∈xs.toList,one x=true)(h:off+3<=cs.length)(hk:∀w',bD w' b (eI cs off xs.toList)->aL w w' (λx=>x=b)->w'.heap.size=w.heap.size->K undef w'):aA pg (aF 44 (.pointer (some ⟨b,off,none⟩)) (.agg xs)) w K:=lL (v:= .agg xs) atO ho hs hv h hk
theorem aGi:(pg).info? 37=some Tryz.t37:=by kernel_rfl
theorem kV(b o:Nat)(w:aL0):(aD 40 (.pointer (some ⟨b,o,none⟩)) 1).run pg w= .ok (.value (.pointer (some ⟨b,o+1,none⟩))) w:=bR (i:=1) Tryz.underlying40 rfl aGi (by decide) _
theorem mY(x:Addr)(w:aL0):(aB 37 (.pointer (some x))).run pg w=ldC (w.cell? x) w (far pg 37 x w):=NJ Tryz.underlying37 rfl x w
theorem atQ:(pg).info? 96=some Tryz.t96:=by kernel_rfl
theorem mW{k:IntKind}{a:Int}(b o n c:Nat)(w:aL0)(h0:0<=a)(h1:a<n):(aR 38 (.slice (some ⟨b,o,none⟩) n c) (.int k a)).run pg w= .ok (.value (.pointer (some ⟨b,o+a.toNat*5,none⟩))) w:=Et rfl Tryz.underlying38 atQ b o n c h0 h1
theorem P2 {b off:Nat}{l:List aL1}{w:aL0}(hl:l.length=5)(h:∀j,j<l.length->w.cell? ⟨b,off+j,none⟩=l[j]?):(aB 96 (.pointer (some ⟨b,off,none⟩))).run pg w= .ok (.value (.agg l.toArray)) w:=Xj Tryz.underlying96 rfl atQ hl.symm h
theorem wJ{b off:Nat}{cs:List aL1}{w:aL0}(ho:bD w b cs)(h:off+5<=cs.length):(aB 96 (.pointer (some ⟨b,off,none⟩))).run pg w= .ok (.value (.agg ((cs.drop off).take 5).toArray)) w:=rA Tryz.underlying96 rfl atQ ho h
theorem aGm:(pg).info? 74=some Tryz.t74:=by kernel_rfl
theorem uL(b o:Nat)(w:aL0):(aD 76 (.pointer (some ⟨b,o,none⟩)) 3).run pg w= .ok (.value (.pointer (some ⟨b,o+3,none⟩))) w:=bR (i:=3) Tryz.underlying76 rfl aGm (by decide) _
theorem qV(x:Addr)(w:aL0):(aB 74 (.pointer (some x))).run pg w=ldC (w.cell? x) w (far pg 74 x w):=NJ Tryz.underlying74 rfl x w
theorem qW{ty:TypeId}(x:Option Addr)(n c:Nat)(w:aL0):(eK .len #[74] ty [.slice x n c]).run pg w= .ok (.value (.int .i64 n)) w:=IY Tryz.underlying74 x n c
theorem jY(b o:Nat)(w:aL0):(aD 54 (.pointer (some ⟨b,o,none⟩)) 3).run pg w= .ok (.value (.pointer (some ⟨b,o+3,none⟩))) w:=bR (i:=3) Tryz.underlying54 rfl ahL (by decide) _
theorem oJ(b o:Nat)(w:aL0):(aD 47 (.pointer (some ⟨b,o,none⟩)) 1).run pg w= .ok (.value (.pointer (some ⟨b,o+1,none⟩))) w:=bR (i:=1) Tryz.underlying47 rfl atO (by decide) _
theorem kZ(b o:Nat)(w:aL0):(aD 47 (.pointer (some ⟨b,o,none⟩)) 0).run pg w= .ok (.value (.pointer (some ⟨b,o,none⟩))) w:=bR (i:=0) Tryz.underlying47 rfl WG (by decide) _
theorem BJ{base n m:Nat}{ty:TypeId}{w:aL0}{v x:aL1}{l news:List aL1}(h:mP w base 1 v n l)(hx:Cl w 1 x m news)(hone:∀y∈news,one y=true)(hb:base<=w.heap.size)(hbytes:(n+m)*1<=140737488355328){K:aL1->aL0->Prop}(hk:∀v' w',mP w' base 1 v' (n+m) (l++news)->aL w w' (λy=>base<=y)->K v' w'):aA pg (eK .append #[45,45] ty [v,x]) w K:=JH (i:=Tryz.t4) Tryz.underlying45 Tryz.underlying45 ahL rfl rfl rfl h hx hone hb (by omega) hbytes (by decide) hk
theorem jT(n0:Int)(s1:ByteArray)(s2:ByteArray)(w:aL0):(bV 96 [(0,(.int .i64 n0)),(1,(.string s1)),(2,(.string s2))]).run pg w= .ok (.value (.agg #[(.int .i64 n0),(.string s1),(.string s2),(.int .i64 0),(.string ⟨#[]⟩)])) w:=by kernel_rfl
theorem As{ox oy:Operand}(x:Option Addr)(w:aL0):(aE .neq 34 ox oy (.pointer x) (.pointer none)).run pg w= .ok (.value (.bool (!x.isNone))) w:=aD0 Tryz.underlying34 x
theorem xH(b o:Nat)(w:aL0):(aD 76 (.pointer (some ⟨b,o,none⟩)) 4).run pg w= .ok (.value (.pointer (some ⟨b,o+4,none⟩))) w:=bR (i:=4) Tryz.underlying76 rfl Rg (by decide) _
theorem Zj:(pg).info? 137=some Tryz.t137:=by kernel_rfl
theorem qU{k:IntKind}{a:Int}(b o n c:Nat)(w:aL0)(h0:0<=a)(h1:a<n):(aR 74 (.slice (some ⟨b,o,none⟩) n c) (.int k a)).run pg w= .ok (.value (.pointer (some ⟨b,o+a.toNat*5,none⟩))) w:=Et rfl Tryz.underlying74 Zj b o n c h0 h1
theorem pG{b off:Nat}{cs:List aL1}{w:aL0}(ho:bD w b cs)(h:off+5<=cs.length):(aB 137 (.pointer (some ⟨b,off,none⟩))).run pg w= .ok (.value (.agg ((cs.drop off).take 5).toArray)) w:=rA Tryz.underlying137 rfl Zj ho h
theorem We{w:aL0}{K:aL1->aL0->Prop}(hk:∀w',bD w' w.heap.size [(.int .i64 0),(.string ⟨#[]⟩),(.string ⟨#[]⟩),(.int .i64 0),(.slice none 0 0)]->aL w w' aT->w'.heap.size=w.heap.size+1->K (.pointer (some ⟨w.heap.size,0,none⟩)) w'):aA pg (bE 137) w K:=iZ (i:=Tryz.t137) Zj rfl hk
theorem V0 {b off:Nat}{cs:List aL1}{w:aL0}{xs:Array aL1}{K:aL1->aL0->Prop}(ho:bD w b cs)(hs:xs.size=5)(hv:∀x∈xs.toList,one x=true)(h:off+5<=cs.length)(hk:∀w',bD w' b (eI cs off xs.toList)->aL w w' (λx=>x=b)->w'.heap.size=w.heap.size->K undef w'):aA pg (aF 137 (.pointer (some ⟨b,off,none⟩)) (.agg xs)) w K:=lL (v:= .agg xs) Zj ho hs hv h hk
theorem xK(b o:Nat)(w:aL0):(aD 76 (.pointer (some ⟨b,o,none⟩)) 1).run pg w= .ok (.value (.pointer (some ⟨b,o+1,none⟩))) w:=bR (i:=1) Tryz.underlying76 rfl aDl (by decide) _
theorem U8 {b off:Nat}{cs:List aL1}{w:aL0}{v:aL1}{K:aL1->aL0->Prop}(ho:bD w b cs)(hv:one v=true)(h:off<cs.length)(hk:∀w',bD w' b (cs.set off v)->aL w w' (λx=>x=b)->w'.heap.size=w.heap.size->K undef w'):aA pg (aF 73 (.pointer (some ⟨b,off,none⟩)) v) w K:=gO aDl rfl ho hv h hk
theorem zM{b off:Nat}{cs:List aL1}{w:aL0}{v:aL1}{K:aL1->aL0->Prop}(ho:bD w b cs)(hv:one v=true)(h:off<cs.length)(hk:∀w',bD w' b (cs.set off v)->aL w w' (λx=>x=b)->w'.heap.size=w.heap.size->K undef w'):aA pg (aF 74 (.pointer (some ⟨b,off,none⟩)) v) w K:=gO aGm rfl ho hv h hk
theorem xG(b o:Nat)(w:aL0):(aD 76 (.pointer (some ⟨b,o,none⟩)) 5).run pg w= .ok (.value (.pointer (some ⟨b,o+5,none⟩))) w:=bR (i:=5) Tryz.underlying76 rfl ahL (by decide) _
theorem Cu{b off:Nat}{cs:List aL1}{w:aL0}{v:aL1}{K:aL1->aL0->Prop}(ho:bD w b cs)(hv:one v=true)(h:off<cs.length)(hk:∀w',bD w' b (cs.set off v)->aL w w' (λx=>x=b)->w'.heap.size=w.heap.size->K undef w'):aA pg (aF 37 (.pointer (some ⟨b,off,none⟩)) v) w K:=gO aGi rfl ho hv h hk
theorem tD{b off:Nat}{cs:List aL1}{w:aL0}{v:aL1}{K:aL1->aL0->Prop}(ho:bD w b cs)(hv:one v=true)(h:off<cs.length)(hk:∀w',bD w' b (cs.set off v)->aL w w' (λx=>x=b)->w'.heap.size=w.heap.size->K undef w'):aA pg (aF 38 (.pointer (some ⟨b,off,none⟩)) v) w K:=gO aGj rfl ho hv h hk
theorem xI(b o:Nat)(w:aL0):(aD 76 (.pointer (some ⟨b,o,none⟩)) 0).run pg w= .ok (.value (.pointer (some ⟨b,o,none⟩))) w:=bR (i:=0) Tryz.underlying76 rfl Rg (by decide) _
theorem kP(n0:Int)(s1:ByteArray)(n2:Int)(a3:Option Addr)(l3 c3:Nat)(w:aL0):(bV 137 [(0,(.int .i64 n0)),(1,(.string s1)),(3,(.int .i64 n2)),(4,(.slice a3 l3 c3))]).run pg w= .ok (.value (.agg #[(.int .i64 n0),(.string s1),(.string ⟨#[]⟩),(.int .i64 n2),(.slice a3 l3 c3)])) w:=by kernel_rfl
theorem Wm{n:Nat}{ps:List (Nat×aL1)}{cells:Array aL1}{w:aL0}(h1:¬n*1>2^24)(h0:¬n*1=0)(hf:Go.Instr.fill (λj=>some (j*1,1)) ((Array.range (n*1)).map ((Tryz.t9.zero.get!).cells[·%(Tryz.t9.zero.get!).cells.size]!)) ps=some cells){K:aL1->aL0->Prop}(hk:∀w',bD w' w.heap.size cells.toList->aL w w' aT->w'.heap.size=w.heap.size+1->K (.slice (some ⟨w.heap.size,0,none⟩) n n) w'):aA pg (bB 80 n ps) w K:=rM (i:=Tryz.t9) Tryz.underlying80 WG rfl h1 h0 hf hk
theorem iX{base n m:Nat}{ty:TypeId}{w:aL0}{v x:aL1}{l news:List aL1}(h:mP w base 5 v n l)(hx:Cl w 5 x m news)(hone:∀y∈news,one y=true)(hb:base<=w.heap.size)(hbytes:(n+m)*64<=140737488355328){K:aL1->aL0->Prop}(hk:∀v' w',mP w' base 5 v' (n+m) (l++news)->aL w w' (λy=>base<=y)->K v' w'):aA pg (eK .append #[38,38] ty [v,x]) w K:=JH (i:=Tryz.t96) Tryz.underlying38 Tryz.underlying38 atQ rfl rfl rfl h hx hone hb (by omega) hbytes (by decide) hk
theorem LV{n:Nat}{ps:List (Nat×aL1)}{cells:Array aL1}{w:aL0}(h1:¬n*5>2^24)(h0:¬n*5=0)(hf:Go.Instr.fill (λj=>some (j*5,5)) ((Array.range (n*5)).map ((Tryz.t96.zero.get!).cells[·%(Tryz.t96.zero.get!).cells.size]!)) ps=some cells){K:aL1->aL0->Prop}(hk:∀w',bD w' w.heap.size cells.toList->aL w w' aT->w'.heap.size=w.heap.size+1->K (.slice (some ⟨w.heap.size,0,none⟩) n n) w'):aA pg (bB 38 n ps) w K:=rM (i:=Tryz.t96) Tryz.underlying38 atQ rfl h1 h0 hf hk
theorem BD{ox oy:Operand}(x:Option Addr)(n c:Nat)(w:aL0):(aE .eql 28 ox oy (.slice x n c) (.slice none 0 0)).run pg w= .ok (.value (.bool x.isNone)) w:=aqN Tryz.underlying28 x n c
theorem uM(b o:Nat)(w:aL0):(aD 99 (.pointer (some ⟨b,o,none⟩)) 5).run pg w= .ok (.value (.pointer (some ⟨b,o+7,none⟩))) w:=bR (i:=5) Tryz.underlying99 rfl Rg (by decide) _
theorem qR(n0:Int)(n1:Int)(w:aL0):(bV 109 [(0,(.int .u8 n0)),(1,(.int .u64 n1))]).run pg w= .ok (.value (.agg #[(.int .u8 n0),(.int .u64 n1)])) w:=by kernel_rfl
theorem RQ{k:IntKind}{n:Int}{w:aL0}{K:aL1->aL0->Prop}(h0:0<=n)(hn:1*n<=2^48)(hk:∀w',bD w' w.heap.size (List.replicate n.toNat (.int .u8 0))->aL w w' aT->w'.heap.size=w.heap.size+1->K (.slice (some ⟨w.heap.size,0,none⟩) n.toNat n.toNat) w'):aA pg (yX 22 (.int k n) (.int k n)) w K:=awK (i:=Tryz.t5) Tryz.underlying22 Mh rfl rfl rfl h0 hn (by omega) hk
theorem Fb{k:IntKind}{a:Int}(b o n c:Nat)(w:aL0)(h0:0<=a)(h1:a<n):(aR 28 (.slice (some ⟨b,o,none⟩) n c) (.int k a)).run pg w= .ok (.value (.pointer (some ⟨b,o+a.toNat*32,none⟩))) w:=Et rfl Tryz.underlying28 WE b o n c h0 h1
theorem aaX{b off:Nat}{l:List aL1}{w:aL0}(hl:l.length=32)(h:∀j,j<l.length->w.cell? ⟨b,off+j,none⟩=l[j]?):(aB 70 (.pointer (some ⟨b,off,none⟩))).run pg w= .ok (.value (.agg l.toArray)) w:=Xj Tryz.underlying70 rfl WE hl.symm h
theorem aaW{b off:Nat}{cs:List aL1}{w:aL0}(ho:bD w b cs)(h:off+32<=cs.length):(aB 70 (.pointer (some ⟨b,off,none⟩))).run pg w= .ok (.value (.agg ((cs.drop off).take 32).toArray)) w:=rA Tryz.underlying70 rfl WE ho h
theorem oM{ty:TypeId}(x:Option Addr)(n c:Nat)(w:aL0):(eK .len #[151] ty [.slice x n c]).run pg w= .ok (.value (.int .i64 n)) w:=IY Tryz.underlying151 x n c
theorem oL{k:IntKind}{a:Int}(b o n c:Nat)(w:aL0)(h0:0<=a)(h1:a<n):(aR 151 (.slice (some ⟨b,o,none⟩) n c) (.int k a)).run pg w= .ok (.value (.pointer (some ⟨b,o+a.toNat,none⟩))) w:=Tr rfl Tryz.underlying151 aGl b o n c h0 h1
theorem rZ(x:Addr)(w:aL0):(aB 60 (.pointer (some x))).run pg w=ldC (w.cell? x) w (far pg 60 x w):=NJ Tryz.underlying60 rfl x w
theorem mQ(n0:Int)(s1:ByteArray)(s2:ByteArray)(w:aL0):(bV 137 [(0,(.int .i64 n0)),(1,(.string s1)),(2,(.string s2))]).run pg w= .ok (.value (.agg #[(.int .i64 n0),(.string s1),(.string s2),(.int .i64 0),(.slice none 0 0)])) w:=by kernel_rfl
theorem wA{ox oy:Operand}(x:Option Addr)(n c:Nat)(w:aL0):(aE .eql 22 ox oy (.slice x n c) (.slice none 0 0)).run pg w= .ok (.value (.bool x.isNone)) w:=aqN Tryz.underlying22 x n c
theorem HE{ox oy:Operand}(x:Option Addr)(n c:Nat)(w:aL0):(aE .eql 45 ox oy (.slice x n c) (.slice none 0 0)).run pg w= .ok (.value (.bool x.isNone)) w:=aqN Tryz.underlying45 x n c
theorem axL{n:Nat}{ps:List (Nat×aL1)}{cells:Array aL1}{w:aL0}(h1:¬n*1>2^24)(h0:¬n*1=0)(hf:Go.Instr.fill (λj=>some (j*1,1)) ((Array.range (n*1)).map ((Tryz.t4.zero.get!).cells[·%(Tryz.t4.zero.get!).cells.size]!)) ps=some cells){K:aL1->aL0->Prop}(hk:∀w',bD w' w.heap.size cells.toList->aL w w' aT->w'.heap.size=w.heap.size+1->K (.slice (some ⟨w.heap.size,0,none⟩) n n) w'):aA pg (bB 45 n ps) w K:=rM (i:=Tryz.t4) Tryz.underlying45 ahL rfl h1 h0 hf hk
theorem tA{k k':IntKind}{lo hi:Int}(x:ByteArray)(w:aL0)(h0:0<=lo)(h1:lo<=hi)(h2:hi<=x.size):(dH 9 (.string x) (some (.int k lo)) (some (.int k' hi)) none).run pg w= .ok (.value (.string (x.extract lo.toNat hi.toNat))) w:=amA Tryz.underlying9 x h0 h1 h2
theorem Az{k:IntKind}{lo:Int}(x:ByteArray)(w:aL0)(h0:0<=lo)(h1:lo<=x.size):(dH 9 (.string x) (some (.int k lo)) none none).run pg w= .ok (.value (.string (x.extract lo.toNat x.size))) w:=auW Tryz.underlying9 x h0 h1
theorem jR(s0:ByteArray)(w:aL0):(bV 158 [(0,(.string s0))]).run pg w= .ok (.value (.agg #[(.string s0),(.int .i64 0)])) w:=by kernel_rfl
theorem aqD:(pg).info? 158=some Tryz.t158:=by kernel_rfl
theorem yD{w:aL0}{K:aL1->aL0->Prop}(hk:∀w',bD w' w.heap.size [(.string ⟨#[]⟩),(.int .i64 0)]->aL w w' aT->w'.heap.size=w.heap.size+1->K (.pointer (some ⟨w.heap.size,0,none⟩)) w'):aA pg (bE 158) w K:=iZ (i:=Tryz.t158) aqD rfl hk
theorem pT{b off:Nat}{cs:List aL1}{w:aL0}{xs:Array aL1}{K:aL1->aL0->Prop}(ho:bD w b cs)(hs:xs.size=2)(hv:∀x∈xs.toList,one x=true)(h:off+2<=cs.length)(hk:∀w',bD w' b (eI cs off xs.toList)->aL w w' (λx=>x=b)->w'.heap.size=w.heap.size->K undef w'):aA pg (aF 158 (.pointer (some ⟨b,off,none⟩)) (.agg xs)) w K:=lL (v:= .agg xs) aqD ho hs hv h hk
theorem Am{k:IntKind}{a:Int}(x:ByteArray)(w:aL0)(h0:0<=a)(h1:a.toNat<x.size):(VS 9 (.string x) (.int k a)).run pg w= .ok (.value (.int .u8 (x[a.toNat]'h1).toNat)) w:=aG7 Tryz.underlying9 x h0 h1
theorem QB{w:aL0}{K:aL1->aL0->Prop}(hk:∀w',bD w' w.heap.size [(.int .u8 0),(.int .u64 0)]->aL w w' aT->w'.heap.size=w.heap.size+1->K (.pointer (some ⟨w.heap.size,0,none⟩)) w'):aA pg (bE 123) w K:=iZ (i:=Tryz.t123) Zi rfl hk
theorem Qp{b off:Nat}{cs:List aL1}{w:aL0}{xs:Array aL1}{K:aL1->aL0->Prop}(ho:bD w b cs)(hs:xs.size=2)(hv:∀x∈xs.toList,one x=true)(h:off+2<=cs.length)(hk:∀w',bD w' b (eI cs off xs.toList)->aL w w' (λx=>x=b)->w'.heap.size=w.heap.size->K undef w'):aA pg (aF 123 (.pointer (some ⟨b,off,none⟩)) (.agg xs)) w K:=lL (v:= .agg xs) Zi ho hs hv h hk
theorem wK{b off:Nat}{cs:List aL1}{w:aL0}(ho:bD w b cs)(h:off+2<=cs.length):(aB 123 (.pointer (some ⟨b,off,none⟩))).run pg w= .ok (.value (.agg ((cs.drop off).take 2).toArray)) w:=rA Tryz.underlying123 rfl Zi ho h
theorem LW{n:Nat}{ps:List (Nat×aL1)}{cells:Array aL1}{w:aL0}(h1:¬n*2>2^24)(h0:¬n*2=0)(hf:Go.Instr.fill (λj=>some (j*2,2)) ((Array.range (n*2)).map ((Tryz.t123.zero.get!).cells[·%(Tryz.t123.zero.get!).cells.size]!)) ps=some cells){K:aL1->aL0->Prop}(hk:∀w',bD w' w.heap.size cells.toList->aL w w' aT->w'.heap.size=w.heap.size+1->K (.slice (some ⟨w.heap.size,0,none⟩) n n) w'):aA pg (bB 120 n ps) w K:=rM (i:=Tryz.t123) Tryz.underlying120 Zi rfl h1 h0 hf hk
theorem lR(n0:Int)(s1:ByteArray)(w:aL0):(bV 96 [(0,(.int .i64 n0)),(1,(.string s1))]).run pg w= .ok (.value (.agg #[(.int .i64 n0),(.string s1),(.string ⟨#[]⟩),(.int .i64 0),(.string ⟨#[]⟩)])) w:=by kernel_rfl
theorem cL(b o:Nat)(w:aL0):(aD 96 (.pointer (some ⟨b,o,none⟩)) 1).run pg w= .ok (.value (.pointer (some ⟨b,o+1,none⟩))) w:=bR (i:=1) Tryz.underlying96 rfl WG (by decide) _
theorem cJ(b o:Nat)(w:aL0):(aD 96 (.pointer (some ⟨b,o,none⟩)) 0).run pg w= .ok (.value (.pointer (some ⟨b,o,none⟩))) w:=bR (i:=0) Tryz.underlying96 rfl Rg (by decide) _
theorem Ig{x:ByteArray}{w:aL0}{K:aL1->aL0->Prop}(hk:∀w' c,Sl w' (.slice (some ⟨w.heap.size,0,none⟩) x.size c) (x.data.toList.map gT)->aL w w' aT->w'.heap.size=w.heap.size+1->(∃r,bD w' w.heap.size (x.data.toList.map gT++List.replicate r (.int .u8 0))/\c=x.size+r)->K (.slice (some ⟨w.heap.size,0,none⟩) x.size c) w'):aA pg (cP 9 22 (.string x)) w K:=azO Tryz.underlying9 Tryz.underlying22 Tryz.underlying5 hk
theorem cY(b o:Nat)(w:aL0):(aD 96 (.pointer (some ⟨b,o,none⟩)) 3).run pg w= .ok (.value (.pointer (some ⟨b,o+3,none⟩))) w:=bR (i:=3) Tryz.underlying96 rfl Rg (by decide) _
theorem kA(b o:Nat)(w:aL0):(aD 96 (.pointer (some ⟨b,o,none⟩)) 4).run pg w= .ok (.value (.pointer (some ⟨b,o+4,none⟩))) w:=bR (i:=4) Tryz.underlying96 rfl WG (by decide) _
theorem tM{k:IntKind}{a:Int}(b o n c:Nat)(w:aL0)(h0:0<=a)(h1:a<n):(aR 22 (.slice (some ⟨b,o,none⟩) n c) (.int k a)).run pg w= .ok (.value (.pointer (some ⟨b,o+a.toNat,none⟩))) w:=Tr rfl Tryz.underlying22 Mh b o n c h0 h1
theorem akQ{b off:Nat}{cs:List aL1}{w:aL0}{v:aL1}{K:aL1->aL0->Prop}(ho:bD w b cs)(hv:one v=true)(h:off<cs.length)(hk:∀w',bD w' b (cs.set off v)->aL w w' (λx=>x=b)->w'.heap.size=w.heap.size->K undef w'):aA pg (aF 5 (.pointer (some ⟨b,off,none⟩)) v) w K:=gO Mh rfl ho hv h hk
theorem lQ(s0:ByteArray)(s1:ByteArray)(w:aL0):(bV 85 [(0,(.string s0)),(1,(.string s1))]).run pg w= .ok (.value (.agg #[(.string s0),(.string s1)])) w:=by kernel_rfl
theorem cD(b o:Nat)(w:aL0):(aD 96 (.pointer (some ⟨b,o,none⟩)) 2).run pg w= .ok (.value (.pointer (some ⟨b,o+2,none⟩))) w:=bR (i:=2) Tryz.underlying96 rfl WG (by decide) _
theorem nY(b o:Nat)(w:aL0):(aD 137 (.pointer (some ⟨b,o,none⟩)) 1).run pg w= .ok (.value (.pointer (some ⟨b,o+1,none⟩))) w:=bR (i:=1) Tryz.underlying137 rfl WG (by decide) _
theorem nX(b o:Nat)(w:aL0):(aD 137 (.pointer (some ⟨b,o,none⟩)) 0).run pg w= .ok (.value (.pointer (some ⟨b,o,none⟩))) w:=bR (i:=0) Tryz.underlying137 rfl Rg (by decide) _
theorem qS(b o:Nat)(w:aL0):(aD 137 (.pointer (some ⟨b,o,none⟩)) 3).run pg w= .ok (.value (.pointer (some ⟨b,o+3,none⟩))) w:=bR (i:=3) Tryz.underlying137 rfl Rg (by decide) _
theorem mT(b o:Nat)(w:aL0):(aD 137 (.pointer (some ⟨b,o,none⟩)) 4).run pg w= .ok (.value (.pointer (some ⟨b,o+4,none⟩))) w:=bR (i:=4) Tryz.underlying137 rfl ahK (by decide) _
theorem J6 {ty:TypeId}{w:aL0}{b off dl c:Nat}{cs:List aL1}(ho:bD w b cs)(hl:off+dl<=cs.length){v:aL1}{l:List aL1}(h:Sl w v l)(hv:∀x∈l,one x=true){K:aL1->aL0->Prop}(hk:∀w',bD w' b (eI cs off (l.take (min l.length dl)))->aL w w' (λx=>x=b)->w'.heap.size=w.heap.size->K (.int .i64 (min l.length dl:Nat)) w'):aA pg (eK .copy #[22,22] ty [.slice (some ⟨b,off,none⟩) dl c,v]) w K:=awJ Tryz.underlying22 Mh rfl ho hl h hv hk
theorem yY{k:IntKind}{lo:Int}(a:Option Addr)(n c:Nat)(w:aL0)(h0:0<=lo)(h1:lo<=n):(dH 22 (.slice a n c) (some (.int k lo)) none none).run pg w= .ok (.value (.slice (dD a c (lo.toNat) 1) (n-lo.toNat) (c-lo.toNat))) w:=aiH Tryz.underlying22 Mh _ n c h0 h1
theorem UB{w:aL0}{m:Nat}{l:List (ByteArray×aL1)}(hm:Mp w m (λs:ByteArray=>Value.string s) l)(k:ByteArray)(v:aL1){K:aL1->aL0->Prop}(hk:∀w',Mp w' m (λs:ByteArray=>Value.string s) (upd k v l)->aL w w' (λy=>y=m)->w'.heap.size=w.heap.size->K undef w'):aA pg (VT 73 (.map (some m)) ((λs:ByteArray=>Value.string s) k) v) w K:=aCj Tryz.underlying73 (Tl Tryz.underlying9) hm k v hk
theorem Uo{ty:TypeId}{w:aL0}{m:Nat}{l:List (ByteArray×aL1)}(hm:Mp w m (λs:ByteArray=>Value.string s) l)(k:ByteArray){K:aL1->aL0->Prop}(hk:∀w',Mp w' m (λs:ByteArray=>Value.string s) (del k l)->aL w w' (λy=>y=m)->w'.heap.size=w.heap.size->K (.tuple #[]) w'):aA pg (eK .delete #[73,9] ty [.map (some m),.string k]) w K:=azN Tryz.underlying73 (Tl Tryz.underlying9) hm k hk
theorem mU(b o:Nat)(w:aL0):(aD 137 (.pointer (some ⟨b,o,none⟩)) 2).run pg w= .ok (.value (.pointer (some ⟨b,o+2,none⟩))) w:=bR (i:=2) Tryz.underlying137 rfl WG (by decide) _
theorem U2 {w:aL0}{m:Nat}{l:List (ByteArray×aL1)}(hm:Mp w m (λs:ByteArray=>Value.string s) l){K:aL1->aL0->Prop}(hk:∀w',Itr w' w.heap.size m (λs:ByteArray=>Value.string s) l->aL w w' aT->w'.heap.size=w.heap.size+1->K (.pointer (some ⟨w.heap.size,0,none⟩)) w'):aA pg (Z8 73 (.map (some m))) w K:=aCl Tryz.underlying73 hm hk
theorem QM{n:Nat}{ps:List (Nat×aL1)}{cells:Array aL1}{w:aL0}(h1:¬n*5>2^24)(h0:¬n*5=0)(hf:Go.Instr.fill (λj=>some (j*5,5)) ((Array.range (n*5)).map ((Tryz.t137.zero.get!).cells[·%(Tryz.t137.zero.get!).cells.size]!)) ps=some cells){K:aL1->aL0->Prop}(hk:∀w',bD w' w.heap.size cells.toList->aL w w' aT->w'.heap.size=w.heap.size+1->K (.slice (some ⟨w.heap.size,0,none⟩) n n) w'):aA pg (bB 74 n ps) w K:=rM (i:=Tryz.t137) Tryz.underlying74 Zj rfl h1 h0 hf hk
theorem kU(b o:Nat)(w:aL0):(aD 40 (.pointer (some ⟨b,o,none⟩)) 0).run pg w= .ok (.value (.pointer (some ⟨b,o,none⟩))) w:=bR (i:=0) Tryz.underlying40 rfl Rg (by decide) _
theorem aDh:(pg).info? 104=some Tryz.t104:=by kernel_rfl
theorem Tx{w:aL0}{K:aL1->aL0->Prop}(hk:∀w',bD w' w.heap.size [(.slice none 0 0)]->aL w w' aT->w'.heap.size=w.heap.size+1->K (.pointer (some ⟨w.heap.size,0,none⟩)) w'):aA pg (bE 104) w K:=iZ (i:=Tryz.t104) aDh rfl hk
theorem aGE{w:aL0}{K:aL1->aL0->Prop}(hk:∀w',bD w' w.heap.size [(.int .i64 0)]->aL w w' aT->w'.heap.size=w.heap.size+1->K (.pointer (some ⟨w.heap.size,0,none⟩)) w'):aA pg (bE 3) w K:=iZ (i:=Tryz.t3) Rg rfl hk
theorem vL{k:IntKind}(a:Int)(w:aL0):(cP 26 5 (.int k a)).run pg w= .ok (.value (.int .u8 (IntKind.u8.wrap a))) w:=Es Tryz.underlying26 Tryz.underlying5
theorem xA(w:aL0):(bV 109 []).run pg w= .ok (.value (.agg #[(.int .u8 0),(.int .u64 0)])) w:=by kernel_rfl
theorem sB(x:Addr)(w:aL0):(aB 104 (.pointer (some x))).run pg w=ldC (w.cell? x) w (far pg 104 x w):=NJ Tryz.underlying104 rfl x w
theorem TE{n:Nat}{ps:List (Nat×aL1)}{cells:Array aL1}{w:aL0}(h1:¬n*2>2^24)(h0:¬n*2=0)(hf:Go.Instr.fill (λj=>some (j*2,2)) ((Array.range (n*2)).map ((Tryz.t109.zero.get!).cells[·%(Tryz.t109.zero.get!).cells.size]!)) ps=some cells){K:aL1->aL0->Prop}(hk:∀w',bD w' w.heap.size cells.toList->aL w w' aT->w'.heap.size=w.heap.size+1->K (.slice (some ⟨w.heap.size,0,none⟩) n n) w'):aA pg (bB 104 n ps) w K:=rM (i:=Tryz.t109) Tryz.underlying104 Vv rfl h1 h0 hf hk
theorem Ui{b off:Nat}{cs:List aL1}{w:aL0}{v:aL1}{K:aL1->aL0->Prop}(ho:bD w b cs)(hv:one v=true)(h:off<cs.length)(hk:∀w',bD w' b (cs.set off v)->aL w w' (λx=>x=b)->w'.heap.size=w.heap.size->K undef w'):aA pg (aF 104 (.pointer (some ⟨b,off,none⟩)) v) w K:=gO aDh rfl ho hv h hk
theorem pL(n0:Int)(s1:ByteArray)(w:aL0):(bV 137 [(0,(.int .i64 n0)),(1,(.string s1))]).run pg w= .ok (.value (.agg #[(.int .i64 n0),(.string s1),(.string ⟨#[]⟩),(.int .i64 0),(.slice none 0 0)])) w:=by kernel_rfl
theorem vM{k:IntKind}(a:Int)(w:aL0):(cP 5 26 (.int k a)).run pg w= .ok (.value (.int .u64 (IntKind.u64.wrap a))) w:=Es Tryz.underlying5 Tryz.underlying26
theorem sQ{k:IntKind}(a:Int)(w:aL0):(cP 27 26 (.int k a)).run pg w= .ok (.value (.int .u64 (IntKind.u64.wrap a))) w:=Es Tryz.underlying27 Tryz.underlying26
theorem iQ(n0:Int)(n1:Int)(n2:Int)(n3:Int)(n4:Int)(n5:Int)(n6:Int)(n7:Int)(w:aL0):(bV 182 [(0,(.int .u32 n0)),(1,(.int .u32 n1)),(2,(.int .u32 n2)),(3,(.int .u32 n3)),(4,(.int .u32 n4)),(5,(.int .u32 n5)),(6,(.int .u32 n6)),(7,(.int .u32 n7))]).run pg w= .ok (.value (.agg #[(.int .u32 n0),(.int .u32 n1),(.int .u32 n2),(.int .u32 n3),(.int .u32 n4),(.int .u32 n5),(.int .u32 n6),(.int .u32 n7)])) w:=by kernel_rfl
theorem EV(aIv aIw aIx aIy aIz aIA aIB aIC:aL1)(w:aL0):(bV 185 [(0,(.agg #[aIv,aIw,aIx,aIy,aIz,aIA,aIB,aIC]))]).run pg w= .ok (.value (.agg #[aIv,aIw,aIx,aIy,aIz,aIA,aIB,aIC,(.int .u8 0),(.int .u8 0),(.int .u8 0),(.int .u8 0),(.int .u8 0),(.int .u8 0),(.int .u8 0),(.int .u8 0),(.int .u8 0),(.int .u8 0),(.int .u8 0),(.int .u8 0),(.int .u8 0),(.int .u8 0),(.int .u8 0),(.int .u8 0),(.int .u8 0),(.int .u8 0),(.int .u8 0),(.int .u8 0),(.int .u8 0),(.int .u8 0),(.int .u8 0),(.int .u8 0),(.int .u8 0),(.int .u8 0),(.int .u8 0),(.int .u8 0),(.int .u8 0),(.int .u8 0),(.int .u8 0),(.int .u8 0),(.int .u8 0),(.int .u8 0),(.int .u8 0),(.int .u8 0),(.int .u8 0),(.int .u8 0),(.int .u8 0),(.int .u8 0),(.int .u8 0),(.int .u8 0),(.int .u8 0),(.int .u8 0),(.int .u8 0),(.int .u8 0),(.int .u8 0),(.int .u8 0),(.int .u8 0),(.int .u8 0),(.int .u8 0),(.int .u8 0),(.int .u8 0),(.int .u8 0),(.int .u8 0),(.int .u8 0),(.int .u8 0),(.int .u8 0),(.int .u8 0),(.int .u8 0),(.int .u8 0),(.int .u8 0),(.int .u8 0),(.int .u8 0),(.int .i64 0),(.int .u64 0)])) w:=by kernel_rfl
theorem Bw{ox oy:Operand}(x:Option Addr)(w:aL0):(aE .eql 153 ox oy (.pointer x) (.pointer none)).run pg w= .ok (.value (.bool x.isNone)) w:=ZB Tryz.underlying153 x
theorem Bq(b o:Nat)(w:aL0):(aD 185 (.pointer (some ⟨b,o,none⟩)) 3).run pg w= .ok (.value (.pointer (some ⟨b,o+73,none⟩))) w:=bR (i:=3) Tryz.underlying185 rfl WD (by decide) _
theorem aDi:(pg).info? 183=some Tryz.t183:=by kernel_rfl
theorem Ah(b o:Nat)(w:aL0):(aD 185 (.pointer (some ⟨b,o,none⟩)) 1).run pg w= .ok (.value (.pointer (some ⟨b,o+8,none⟩))) w:=bR (i:=1) Tryz.underlying185 rfl aDi (by decide) _
theorem EY(b o:Nat)(w:aL0):(aD 185 (.pointer (some ⟨b,o,none⟩)) 2).run pg w= .ok (.value (.pointer (some ⟨b,o+72,none⟩))) w:=bR (i:=2) Tryz.underlying185 rfl Rg (by decide) _
theorem Ay{k:IntKind}{lo:Int}(b o:Nat)(w:aL0)(h0:0<=lo)(h1:lo<=64):(dH 183 (.pointer (some ⟨b,o,none⟩)) (some (.int k lo)) none none).run pg w= .ok (.value (.slice (some (GK ⟨b,o,none⟩ 64 (lo.toNat) 1)) (64-lo.toNat) (64-lo.toNat))) w:=abD Tryz.underlying183 Mh _ h0 (by simpa using h1)
theorem ahJ:(pg).info? 182=some Tryz.t182:=by kernel_rfl
theorem EZ(b o:Nat)(w:aL0):(aD 185 (.pointer (some ⟨b,o,none⟩)) 0).run pg w= .ok (.value (.pointer (some ⟨b,o,none⟩))) w:=bR (i:=0) Tryz.underlying185 rfl ahJ (by decide) _
theorem Ld{b off:Nat}{cs:List aL1}{w:aL0}(ho:bD w b cs)(h:off+8<=cs.length):(aB 182 (.pointer (some ⟨b,off,none⟩))).run pg w= .ok (.value (.agg ((cs.drop off).take 8).toArray)) w:=rA Tryz.underlying182 rfl ahJ ho h
theorem RB{b off:Nat}{cs:List aL1}{w:aL0}(ho:bD w b cs)(h:off+64<=cs.length):(aB 183 (.pointer (some ⟨b,off,none⟩))).run pg w= .ok (.value (.agg ((cs.drop off).take 64).toArray)) w:=rA Tryz.underlying183 rfl aDi ho h
theorem LI{b off:Nat}{cs:List aL1}{w:aL0}{xs:Array aL1}{K:aL1->aL0->Prop}(ho:bD w b cs)(hs:xs.size=8)(hv:∀x∈xs.toList,one x=true)(h:off+8<=cs.length)(hk:∀w',bD w' b (eI cs off xs.toList)->aL w w' (λx=>x=b)->w'.heap.size=w.heap.size->K undef w'):aA pg (aF 182 (.pointer (some ⟨b,off,none⟩)) (.agg xs)) w K:=lL (v:= .agg xs) ahJ ho hs hv h hk
theorem ayF:(pg).info? 185=some Tryz.t185:=by kernel_rfl
theorem aqG{b off:Nat}{cs:List aL1}{w:aL0}(ho:bD w b cs)(h:off+74<=cs.length):(aB 185 (.pointer (some ⟨b,off,none⟩))).run pg w= .ok (.value (.agg ((cs.drop off).take 74).toArray)) w:=rA Tryz.underlying185 rfl ayF ho h
theorem asD{w:aL0}{K:aL1->aL0->Prop}(hk:∀w',bD w' w.heap.size [(.int .u32 0),(.int .u32 0),(.int .u32 0),(.int .u32 0),(.int .u32 0),(.int .u32 0),(.int .u32 0),(.int .u32 0),(.int .u8 0),(.int .u8 0),(.int .u8 0),(.int .u8 0),(.int .u8 0),(.int .u8 0),(.int .u8 0),(.int .u8 0),(.int .u8 0),(.int .u8 0),(.int .u8 0),(.int .u8 0),(.int .u8 0),(.int .u8 0),(.int .u8 0),(.int .u8 0),(.int .u8 0),(.int .u8 0),(.int .u8 0),(.int .u8 0),(.int .u8 0),(.int .u8 0),(.int .u8 0),(.int .u8 0),(.int .u8 0),(.int .u8 0),(.int .u8 0),(.int .u8 0),(.int .u8 0),(.int .u8 0),(.int .u8 0),(.int .u8 0),(.int .u8 0),(.int .u8 0),(.int .u8 0),(.int .u8 0),(.int .u8 0),(.int .u8 0),(.int .u8 0),(.int .u8 0),(.int .u8 0),(.int .u8 0),(.int .u8 0),(.int .u8 0),(.int .u8 0),(.int .u8 0),(.int .u8 0),(.int .u8 0),(.int .u8 0),(.int .u8 0),(.int .u8 0),(.int .u8 0),(.int .u8 0),(.int .u8 0),(.int .u8 0),(.int .u8 0),(.int .u8 0),(.int .u8 0),(.int .u8 0),(.int .u8 0),(.int .u8 0),(.int .u8 0),(.int .u8 0),(.int .u8 0),(.int .i64 0),(.int .u64 0)]->aL w w' aT->w'.heap.size=w.heap.size+1->K (.pointer (some ⟨w.heap.size,0,none⟩)) w'):aA pg (bE 185) w K:=iZ (i:=Tryz.t185) ayF rfl hk
theorem arG{b off:Nat}{cs:List aL1}{w:aL0}{xs:Array aL1}{K:aL1->aL0->Prop}(ho:bD w b cs)(hs:xs.size=74)(hv:∀x∈xs.toList,one x=true)(h:off+74<=cs.length)(hk:∀w',bD w' b (eI cs off xs.toList)->aL w w' (λx=>x=b)->w'.heap.size=w.heap.size->K undef w'):aA pg (aF 185 (.pointer (some ⟨b,off,none⟩)) (.agg xs)) w K:=lL (v:= .agg xs) ayF ho hs hv h hk
theorem uP{k:IntKind}{a:Int}(b o:Nat)(w:aL0)(h0:0<=a)(h1:a<8):(aR 182 (.pointer (some ⟨b,o,none⟩)) (.int k a)).run pg w= .ok (.value (.pointer (some ⟨b,o+a.toNat,none⟩))) w:=Mt rfl Tryz.underlying182 Rf b o h0 (by simpa using h1)
theorem Bp{k:IntKind}(a:Int)(w:aL0):(cP 27 5 (.int k a)).run pg w= .ok (.value (.int .u8 (IntKind.u8.wrap a))) w:=Es Tryz.underlying27 Tryz.underlying5
theorem Nu{k:IntKind}{a:Int}(b o:Nat)(w:aL0)(h0:0<=a)(h1:a<32):(aR 70 (.pointer (some ⟨b,o,none⟩)) (.int k a)).run pg w= .ok (.value (.pointer (some ⟨b,o+a.toNat,none⟩))) w:=Mt rfl Tryz.underlying70 Mh b o h0 (by simpa using h1)
theorem DP{b off:Nat}{cs:List aL1}{w:aL0}(ho:bD w b cs)(h:off+2<=cs.length){K:aL1->Prop}(hk:K (.agg ((cs.drop off).take 2).toArray)):lO pg 158 (.pointer (some ⟨b,off,none⟩)) w K:=Fh Tryz.underlying158 rfl aqD ho h hk
theorem jZ(b o:Nat)(w:aL0):(aD 158 (.pointer (some ⟨b,o,none⟩)) 1).run pg w= .ok (.value (.pointer (some ⟨b,o+1,none⟩))) w:=bR (i:=1) Tryz.underlying158 rfl atM (by decide) _
theorem wI{b off:Nat}{cs:List aL1}{w:aL0}(ho:bD w b cs)(h:off+2<=cs.length):(aB 158 (.pointer (some ⟨b,off,none⟩))).run pg w= .ok (.value (.agg ((cs.drop off).take 2).toArray)) w:=rA Tryz.underlying158 rfl aqD ho h
theorem FI{k:IntKind}(a:Int)(w:aL0):(cP 3 194 (.int k a)).run pg w= .ok (.value (.int .u64 (IntKind.u64.wrap a))) w:=Es Tryz.underlying3 Tryz.underlying194
theorem kD{k:IntKind}{hi:Int}(a:Option Addr)(n c:Nat)(w:aL0)(h0:0<=hi)(h1:hi<=c):(dH 37 (.slice a n c) none (some (.int k hi)) none).run pg w= .ok (.value (.slice (dD a c (0) 2) (hi.toNat-0) (c-0))) w:=ayQ Tryz.underlying37 ahM _ n c h0 h1
theorem dI{base n m:Nat}{ty:TypeId}{w:aL0}{v x:aL1}{l news:List aL1}(h:mP w base 2 v n l)(hx:Cl w 2 x m news)(hone:∀y∈news,one y=true)(hb:base<=w.heap.size)(hbytes:(n+m)*32<=140737488355328){K:aL1->aL0->Prop}(hk:∀v' w',mP w' base 2 v' (n+m) (l++news)->aL w w' (λy=>base<=y)->K v' w'):aA pg (eK .append #[37,37] ty [v,x]) w K:=JH (i:=Tryz.t85) Tryz.underlying37 Tryz.underlying37 ahM rfl rfl rfl h hx hone hb (by omega) hbytes (by decide) hk
theorem P0 {b off:Nat}{l:List aL1}{w:aL0}(hl:l.length=2)(h:∀j,j<l.length->w.cell? ⟨b,off+j,none⟩=l[j]?):(aB 85 (.pointer (some ⟨b,off,none⟩))).run pg w= .ok (.value (.agg l.toArray)) w:=Xj Tryz.underlying85 rfl ahM hl.symm h
theorem PZ{b off:Nat}{cs:List aL1}{w:aL0}(ho:bD w b cs)(h:off+2<=cs.length):(aB 85 (.pointer (some ⟨b,off,none⟩))).run pg w= .ok (.value (.agg ((cs.drop off).take 2).toArray)) w:=rA Tryz.underlying85 rfl ahM ho h
theorem Cg{n:Nat}{ps:List (Nat×aL1)}{cells:Array aL1}{w:aL0}(h1:¬n*2>2^24)(h0:¬n*2=0)(hf:Go.Instr.fill (λj=>some (j*2,2)) ((Array.range (n*2)).map ((Tryz.t85.zero.get!).cells[·%(Tryz.t85.zero.get!).cells.size]!)) ps=some cells){K:aL1->aL0->Prop}(hk:∀w',bD w' w.heap.size cells.toList->aL w w' aT->w'.heap.size=w.heap.size+1->K (.slice (some ⟨w.heap.size,0,none⟩) n n) w'):aA pg (bB 37 n ps) w K:=rM (i:=Tryz.t85) Tryz.underlying37 ahM rfl h1 h0 hf hk
theorem kE{k:IntKind}{lo:Int}(a:Option Addr)(n c:Nat)(w:aL0)(h0:0<=lo)(h1:lo<=n):(dH 37 (.slice a n c) (some (.int k lo)) none none).run pg w= .ok (.value (.slice (dD a c (lo.toNat) 2) (n-lo.toNat) (c-lo.toNat))) w:=aiH Tryz.underlying37 ahM _ n c h0 h1
theorem HM{ox oy:Operand}(c d:Bool)(w:aL0):(aE .eql 4 ox oy (.bool c) (.bool d)).run pg w= .ok (.value (.bool (c==d))) w:=aG3 c d Tryz.underlying4
theorem uD(a0:Option Addr)(l0 c0:Nat)(w:aL0):(bV 197 [(0,(.slice a0 l0 c0))]).run pg w= .ok (.value (.agg #[(.slice a0 l0 c0),(.int .i64 0)])) w:=by kernel_rfl
theorem qY{ox oy:Operand}(x:Option Addr)(w:aL0):(aE .eql 172 ox oy (.pointer x) (.pointer none)).run pg w= .ok (.value (.bool x.isNone)) w:=ZB Tryz.underlying172 x
theorem wZ(w:aL0):(bV 200 []).run pg w= .ok (.value (.agg #[(.slice none 0 0)])) w:=by kernel_rfl
theorem qZ{ox oy:Operand}(x:Option Addr)(w:aL0):(aE .eql 176 ox oy (.pointer x) (.pointer none)).run pg w= .ok (.value (.bool x.isNone)) w:=ZB Tryz.underlying176 x
theorem uK(b o:Nat)(w:aL0):(aD 200 (.pointer (some ⟨b,o,none⟩)) 0).run pg w= .ok (.value (.pointer (some ⟨b,o,none⟩))) w:=bR (i:=0) Tryz.underlying200 rfl ahK (by decide) _
theorem abV{b off:Nat}{cs:List aL1}{w:aL0}{v:aL1}{K:aL1->aL0->Prop}(ho:bD w b cs)(hv:one v=true)(h:off<cs.length)(hk:∀w',bD w' b (cs.set off v)->aL w w' (λx=>x=b)->w'.heap.size=w.heap.size->K undef w'):aA pg (aF 22 (.pointer (some ⟨b,off,none⟩)) v) w K:=gO ahK rfl ho hv h hk
theorem alW{b off:Nat}{cs:List aL1}{w:aL0}(ho:bD w b cs)(h:off+8<=cs.length){K:aL1->Prop}(hk:K (.agg ((cs.drop off).take 8).toArray)):lO pg 182 (.pointer (some ⟨b,off,none⟩)) w K:=Fh Tryz.underlying182 rfl ahJ ho h hk
theorem Wf{w:aL0}{K:aL1->aL0->Prop}(hk:∀w',bD w' w.heap.size [(.int .u32 0),(.int .u32 0),(.int .u32 0),(.int .u32 0),(.int .u32 0),(.int .u32 0),(.int .u32 0),(.int .u32 0)]->aL w w' aT->w'.heap.size=w.heap.size+1->K (.pointer (some ⟨w.heap.size,0,none⟩)) w'):aA pg (bE 182) w K:=iZ (i:=Tryz.t182) ahJ rfl hk
theorem ayG:(pg).info? 204=some Tryz.t204:=by kernel_rfl
theorem CQ{w:aL0}{K:aL1->aL0->Prop}(hk:∀w',bD w' w.heap.size [(.int .u32 0),(.int .u32 0),(.int .u32 0),(.int .u32 0),(.int .u32 0),(.int .u32 0),(.int .u32 0),(.int .u32 0),(.int .u32 0),(.int .u32 0),(.int .u32 0),(.int .u32 0),(.int .u32 0),(.int .u32 0),(.int .u32 0),(.int .u32 0),(.int .u32 0),(.int .u32 0),(.int .u32 0),(.int .u32 0),(.int .u32 0),(.int .u32 0),(.int .u32 0),(.int .u32 0),(.int .u32 0),(.int .u32 0),(.int .u32 0),(.int .u32 0),(.int .u32 0),(.int .u32 0),(.int .u32 0),(.int .u32 0),(.int .u32 0),(.int .u32 0),(.int .u32 0),(.int .u32 0),(.int .u32 0),(.int .u32 0),(.int .u32 0),(.int .u32 0),(.int .u32 0),(.int .u32 0),(.int .u32 0),(.int .u32 0),(.int .u32 0),(.int .u32 0),(.int .u32 0),(.int .u32 0),(.int .u32 0),(.int .u32 0),(.int .u32 0),(.int .u32 0),(.int .u32 0),(.int .u32 0),(.int .u32 0),(.int .u32 0),(.int .u32 0),(.int .u32 0),(.int .u32 0),(.int .u32 0),(.int .u32 0),(.int .u32 0),(.int .u32 0),(.int .u32 0)]->aL w w' aT->w'.heap.size=w.heap.size+1->K (.pointer (some ⟨w.heap.size,0,none⟩)) w'):aA pg (bE 204) w K:=iZ (i:=Tryz.t204) ayG rfl hk
theorem Ba{k:IntKind}{a:Int}(cs:Array aL1)(w:aL0)(h0:0<=a)(h1:a<64):(VS 183 (.agg cs) (.int k a)).run pg w=ldC cs[a.toNat]? w (aHV pg 183 cs k a w):=aG6 Tryz.underlying183 Tryz.underlying5 rfl Mh rfl cs h0 (by simpa using h1)
theorem fV{k:IntKind}{a:Int}(b o:Nat)(w:aL0)(h0:0<=a)(h1:a<64):(aR 204 (.pointer (some ⟨b,o,none⟩)) (.int k a)).run pg w= .ok (.value (.pointer (some ⟨b,o+a.toNat,none⟩))) w:=Mt rfl Tryz.underlying204 Rf b o h0 (by simpa using h1)
theorem nK{k:IntKind}(a:Int)(w:aL0):(cP 5 27 (.int k a)).run pg w= .ok (.value (.int .u32 (IntKind.u32.wrap a))) w:=Es Tryz.underlying5 Tryz.underlying27
theorem tE{b off:Nat}{cs:List aL1}{w:aL0}{v:aL1}{K:aL1->aL0->Prop}(ho:bD w b cs)(hv:one v=true)(h:off<cs.length)(hk:∀w',bD w' b (cs.set off v)->aL w w' (λx=>x=b)->w'.heap.size=w.heap.size->K undef w'):aA pg (aF 27 (.pointer (some ⟨b,off,none⟩)) v) w K:=gO Rf rfl ho hv h hk
theorem qI{k:IntKind}{lo:Int}(b o:Nat)(w:aL0)(h0:0<=lo)(h1:lo<=8):(dH 182 (.pointer (some ⟨b,o,none⟩)) (some (.int k lo)) none none).run pg w= .ok (.value (.slice (some (GK ⟨b,o,none⟩ 8 (lo.toNat) 1)) (8-lo.toNat) (8-lo.toNat))) w:=abD Tryz.underlying182 Rf _ h0 (by simpa using h1)
theorem qH{k:IntKind}{hi:Int}(b o:Nat)(w:aL0)(h0:0<=hi)(h1:hi<=8):(dH 182 (.pointer (some ⟨b,o,none⟩)) none (some (.int k hi)) none).run pg w= .ok (.value (.slice (some (GK ⟨b,o,none⟩ 8 (0) 1)) (hi.toNat-0) (8-0))) w:=auU Tryz.underlying182 Rf _ h0 (by simpa using h1)
theorem apT{ty:TypeId}{w:aL0}{b off dl c:Nat}{cs:List aL1}(ho:bD w b cs)(hl:off+dl<=cs.length){v:aL1}{l:List aL1}(h:Sl w v l)(hv:∀x∈l,one x=true){K:aL1->aL0->Prop}(hk:∀w',bD w' b (eI cs off (l.take (min l.length dl)))->aL w w' (λx=>x=b)->w'.heap.size=w.heap.size->K (.int .i64 (min l.length dl:Nat)) w'):aA pg (eK .copy #[206,206] ty [.slice (some ⟨b,off,none⟩) dl c,v]) w K:=awJ Tryz.underlying206 Rf rfl ho hl h hv hk
theorem oF(b o:Nat)(w:aL0):(aD 158 (.pointer (some ⟨b,o,none⟩)) 0).run pg w= .ok (.value (.pointer (some ⟨b,o,none⟩))) w:=bR (i:=0) Tryz.underlying158 rfl WG (by decide) _
theorem Dz{k:IntKind}{hi:Int}(x:ByteArray)(w:aL0)(h0:0<=hi)(h1:hi<=x.size):(dH 9 (.string x) none (some (.int k hi)) none).run pg w= .ok (.value (.string (x.extract 0 hi.toNat))) w:=auV Tryz.underlying9 x h0 h1
theorem aaB{b off:Nat}{cs:List aL1}{w:aL0}{v:aL1}{K:aL1->aL0->Prop}(ho:bD w b cs)(hv:one v=true)(h:off<cs.length)(hk:∀w',bD w' b (cs.set off v)->aL w w' (λx=>x=b)->w'.heap.size=w.heap.size->K undef w'):aA pg (aF 9 (.pointer (some ⟨b,off,none⟩)) v) w K:=gO WG rfl ho hv h hk
theorem Hh(x:Addr)(w:aL0):(aB 80 (.pointer (some x))).run pg w=ldC (w.cell? x) w (far pg 80 x w):=NJ Tryz.underlying80 rfl x w
theorem aHW:(pg).info? 80=some Tryz.t80:=by kernel_rfl
theorem arF{b off:Nat}{cs:List aL1}{w:aL0}{v:aL1}{K:aL1->aL0->Prop}(ho:bD w b cs)(hv:one v=true)(h:off<cs.length)(hk:∀w',bD w' b (cs.set off v)->aL w w' (λx=>x=b)->w'.heap.size=w.heap.size->K undef w'):aA pg (aF 80 (.pointer (some ⟨b,off,none⟩)) v) w K:=gO aHW rfl ho hv h hk
theorem yK{k:IntKind}(a:Int)(w:aL0):(cP 194 27 (.int k a)).run pg w= .ok (.value (.int .u32 (IntKind.u32.wrap a))) w:=Es Tryz.underlying194 Tryz.underlying27
theorem iC(n0:Int)(n1:Int)(n2:Int)(n3:Int)(n4:Int)(n5:Int)(n6:Int)(n7:Int)(w:aL0):(bV 181 [(0,(.int .u32 n0)),(1,(.int .u32 n1)),(2,(.int .u32 n2)),(3,(.int .u32 n3)),(4,(.int .u32 n4)),(5,(.int .u32 n5)),(6,(.int .u32 n6)),(7,(.int .u32 n7))]).run pg w= .ok (.value (.agg #[(.int .u32 n0),(.int .u32 n1),(.int .u32 n2),(.int .u32 n3),(.int .u32 n4),(.int .u32 n5),(.int .u32 n6),(.int .u32 n7)])) w:=by kernel_rfl
theorem aqE:(pg).info? 181=some Tryz.t181:=by kernel_rfl
theorem KI{w:aL0}{K:aL1->aL0->Prop}(hk:∀w',bD w' w.heap.size [(.int .u32 0),(.int .u32 0),(.int .u32 0),(.int .u32 0),(.int .u32 0),(.int .u32 0),(.int .u32 0),(.int .u32 0)]->aL w w' aT->w'.heap.size=w.heap.size+1->K (.pointer (some ⟨w.heap.size,0,none⟩)) w'):aA pg (bE 181) w K:=iZ (i:=Tryz.t181) aqE rfl hk
theorem DE{b off:Nat}{cs:List aL1}{w:aL0}{xs:Array aL1}{K:aL1->aL0->Prop}(ho:bD w b cs)(hs:xs.size=8)(hv:∀x∈xs.toList,one x=true)(h:off+8<=cs.length)(hk:∀w',bD w' b (eI cs off xs.toList)->aL w w' (λx=>x=b)->w'.heap.size=w.heap.size->K undef w'):aA pg (aF 181 (.pointer (some ⟨b,off,none⟩)) (.agg xs)) w K:=lL (v:= .agg xs) aqE ho hs hv h hk
theorem Pq{b off:Nat}{cs:List aL1}{w:aL0}{xs:Array aL1}{K:aL1->aL0->Prop}(ho:bD w b cs)(hs:xs.size=64)(hv:∀x∈xs.toList,one x=true)(h:off+64<=cs.length)(hk:∀w',bD w' b (eI cs off xs.toList)->aL w w' (λx=>x=b)->w'.heap.size=w.heap.size->K undef w'):aA pg (aF 204 (.pointer (some ⟨b,off,none⟩)) (.agg xs)) w K:=lL (v:= .agg xs) ayG ho hs hv h hk
theorem IC{b off:Nat}{cs:List aL1}{w:aL0}(ho:bD w b cs)(h:off+8<=cs.length):(aB 181 (.pointer (some ⟨b,off,none⟩))).run pg w= .ok (.value (.agg ((cs.drop off).take 8).toArray)) w:=rA Tryz.underlying181 rfl aqE ho h
theorem A9 {k:IntKind}{a:Int}(b o:Nat)(w:aL0)(h0:0<=a)(h1:a<8):(aR 181 (.pointer (some ⟨b,o,none⟩)) (.int k a)).run pg w= .ok (.value (.pointer (some ⟨b,o+a.toNat,none⟩))) w:=Mt rfl Tryz.underlying181 Rf b o h0 (by simpa using h1)
theorem uJ(b o:Nat)(w:aL0):(aD 197 (.pointer (some ⟨b,o,none⟩)) 1).run pg w= .ok (.value (.pointer (some ⟨b,o+1,none⟩))) w:=bR (i:=1) Tryz.underlying197 rfl atM (by decide) _
theorem uI(b o:Nat)(w:aL0):(aD 197 (.pointer (some ⟨b,o,none⟩)) 0).run pg w= .ok (.value (.pointer (some ⟨b,o,none⟩))) w:=bR (i:=0) Tryz.underlying197 rfl ahK (by decide) _
theorem Dy{k k':IntKind}{hi mx:Int}(a:Option Addr)(n c:Nat)(w:aL0)(h0:0<=hi)(h1:hi<=mx)(h2:mx<=c):(dH 22 (.slice a n c) none (some (.int k hi)) (some (.int k' mx))).run pg w= .ok (.value (.slice (dD a mx.toNat 0 1) (hi.toNat-0) (mx.toNat-0))) w:=ayR Tryz.underlying22 Mh a n c h0 h1 h2
theorem A6 (n0:Int)(w:aL0):(bV 222 [(0,(.int .u32 n0))]).run pg w= .ok (.value (.agg #[(.int .u32 n0)])) w:=by kernel_rfl
theorem qG{ox oy:Operand}(x:Option Addr)(w:aL0):(aE .eql 201 ox oy (.pointer x) (.pointer none)).run pg w= .ok (.value (.bool x.isNone)) w:=ZB Tryz.underlying201 x
theorem rG(b o:Nat)(w:aL0):(aD 222 (.pointer (some ⟨b,o,none⟩)) 0).run pg w= .ok (.value (.pointer (some ⟨b,o,none⟩))) w:=bR (i:=0) Tryz.underlying222 rfl Rf (by decide) _
theorem sU{k:IntKind}{a:Int}(b o:Nat)(w:aL0)(h0:0<=a)(h1:a<16):(aR 223 (.pointer (some ⟨b,o,none⟩)) (.int k a)).run pg w= .ok (.value (.pointer (some ⟨b,o+a.toNat,none⟩))) w:=Mt rfl Tryz.underlying223 Rf b o h0 (by simpa using h1)
theorem adB{b off:Nat}{cs:List aL1}{w:aL0}(ho:bD w b cs)(h:off+64<=cs.length){K:aL1->Prop}(hk:K (.agg ((cs.drop off).take 64).toArray)):lO pg 204 (.pointer (some ⟨b,off,none⟩)) w K:=Fh Tryz.underlying204 rfl ayG ho h hk
theorem aM(n0:Int)(n1:Int)(n2:Int)(n3:Int)(n4:Int)(n5:Int)(n6:Int)(n7:Int)(n8:Int)(n9:Int)(n10:Int)(n11:Int)(n12:Int)(n13:Int)(n14:Int)(n15:Int)(n16:Int)(n17:Int)(n18:Int)(n19:Int)(n20:Int)(n21:Int)(n22:Int)(n23:Int)(n24:Int)(n25:Int)(n26:Int)(n27:Int)(n28:Int)(n29:Int)(n30:Int)(n31:Int)(n32:Int)(n33:Int)(n34:Int)(n35:Int)(n36:Int)(n37:Int)(n38:Int)(n39:Int)(n40:Int)(n41:Int)(n42:Int)(n43:Int)(n44:Int)(n45:Int)(n46:Int)(n47:Int)(n48:Int)(n49:Int)(n50:Int)(n51:Int)(n52:Int)(n53:Int)(n54:Int)(n55:Int)(n56:Int)(n57:Int)(n58:Int)(n59:Int)(n60:Int)(n61:Int)(n62:Int)(n63:Int)(w:aL0):(bV 204 [(0,(.int .u32 n0)),(1,(.int .u32 n1)),(2,(.int .u32 n2)),(3,(.int .u32 n3)),(4,(.int .u32 n4)),(5,(.int .u32 n5)),(6,(.int .u32 n6)),(7,(.int .u32 n7)),(8,(.int .u32 n8)),(9,(.int .u32 n9)),(10,(.int .u32 n10)),(11,(.int .u32 n11)),(12,(.int .u32 n12)),(13,(.int .u32 n13)),(14,(.int .u32 n14)),(15,(.int .u32 n15)),(16,(.int .u32 n16)),(17,(.int .u32 n17)),(18,(.int .u32 n18)),(19,(.int .u32 n19)),(20,(.int .u32 n20)),(21,(.int .u32 n21)),(22,(.int .u32 n22)),(23,(.int .u32 n23)),(24,(.int .u32 n24)),(25,(.int .u32 n25)),(26,(.int .u32 n26)),(27,(.int .u32 n27)),(28,(.int .u32 n28)),(29,(.int .u32 n29)),(30,(.int .u32 n30)),(31,(.int .u32 n31)),(32,(.int .u32 n32)),(33,(.int .u32 n33)),(34,(.int .u32 n34)),(35,(.int .u32 n35)),(36,(.int .u32 n36)),(37,(.int .u32 n37)),(38,(.int .u32 n38)),(39,(.int .u32 n39)),(40,(.int .u32 n40)),(41,(.int .u32 n41)),(42,(.int .u32 n42)),(43,(.int .u32 n43)),(44,(.int .u32 n44)),(45,(.int .u32 n45)),(46,(.int .u32 n46)),(47,(.int .u32 n47)),(48,(.int .u32 n48)),(49,(.int .u32 n49)),(50,(.int .u32 n50)),(51,(.int .u32 n51)),(52,(.int .u32 n52)),(53,(.int .u32 n53)),(54,(.int .u32 n54)),(55,(.int .u32 n55)),(56,(.int .u32 n56)),(57,(.int .u32 n57)),(58,(.int .u32 n58)),(59,(.int .u32 n59)),(60,(.int .u32 n60)),(61,(.int .u32 n61)),(62,(.int .u32 n62)),(63,(.int .u32 n63))]).run pg w= .ok (.value (.agg #[(.int .u32 n0),(.int .u32 n1),(.int .u32 n2),(.int .u32 n3),(.int .u32 n4),(.int .u32 n5),(.int .u32 n6),(.int .u32 n7),(.int .u32 n8),(.int .u32 n9),(.int .u32 n10),(.int .u32 n11),(.int .u32 n12),(.int .u32 n13),(.int .u32 n14),(.int .u32 n15),(.int .u32 n16),(.int .u32 n17),(.int .u32 n18),(.int .u32 n19),(.int .u32 n20),(.int .u32 n21),(.int .u32 n22),(.int .u32 n23),(.int .u32 n24),(.int .u32 n25),(.int .u32 n26),(.int .u32 n27),(.int .u32 n28),(.int .u32 n29),(.int .u32 n30),(.int .u32 n31),(.int .u32 n32),(.int .u32 n33),(.int .u32 n34),(.int .u32 n35),(.int .u32 n36),(.int .u32 n37),(.int .u32 n38),(.int .u32 n39),(.int .u32 n40),(.int .u32 n41),(.int .u32 n42),(.int .u32 n43),(.int .u32 n44),(.int .u32 n45),(.int .u32 n46),(.int .u32 n47),(.int .u32 n48),(.int .u32 n49),(.int .u32 n50),(.int .u32 n51),(.int .u32 n52),(.int .u32 n53),(.int .u32 n54),(.int .u32 n55),(.int .u32 n56),(.int .u32 n57),(.int .u32 n58),(.int .u32 n59),(.int .u32 n60),(.int .u32 n61),(.int .u32 n62),(.int .u32 n63)])) w:=by kernel_rfl
theorem ahS{b off:Nat}{cs:List aL1}{w:aL0}(ho:bD w b cs)(h:off+8<=cs.length){K:aL1->Prop}(hk:K (.agg ((cs.drop off).take 8).toArray)):lO pg 181 (.pointer (some ⟨b,off,none⟩)) w K:=Fh Tryz.underlying181 rfl aqE ho h hk
end Go.Proofs.YteelnmpbnaohpaaGreatDoor
namespace Go.En
open Go Go.ChangeShapes Go.WideShapes Go.ChangeAt Go.RowKit
theorem amY{H:Type}{enc:TypeId×aL1->H}{P:Program}(hl:laidOutB P=true){W W':aL0}(hb:Below W.heap.size W W'):∀(ts:List TypeId) (vs:List aL1) (ds:List (DataW H)) (ps:List MemPlace),
 (ts.all λt=>P.readableRec t&&decide (t<P.types.size))=true->DataW.TrodAll enc P W 0 (λ_=>true) true ts vs ds ps->(∀x∈ps,x.block<W.heap.size)→
 DataW.TrodAll enc P W' 0 (λb=>decide (b<W.heap.size)) true ts vs ds ps:=by
 intro ts
 induction ts with
 |nil=>
  intro vs ds ps _ h _
  cases vs<;>cases ds<;>simp[DataW.TrodAll]at h⊢
  exact h
 |cons t ts ih=>
  intro vs ds ps hr h hlt
  cases vs with
  |nil=>simp[DataW.TrodAll]at h
  |cons v vs=>
   cases ds with
   |nil=>simp[DataW.TrodAll]at h
   |cons d ds=>
    obtain⟨p,q,h1,h2,rfl⟩:=h
    rw[List.all_cons,aJQ,aJQ,decide_eq_true_eq]at hr
    exact⟨p,q,Below.trod hl hr.1.1 hr.1.2 h1 hb (λx hx=>hlt x (aK9 _ hx)),ih _ _ _ hr.2 h2 (λx hx=>hlt x (aLx _ hx)),rfl⟩
theorem aDs{H:Type}{enc:TypeId×aL1->H}{P:Program}{f:Func}{s:ChangeSpec}{apart fresh handsOn:Bool}{tb:TypeId}{W W':aL0}{args:Array aL1}{ds gs:List (DataW H)}{before:List MemPlace}
 (hl:laidOutB P=true) (hr:(f.params.toList.all λt=>P.readableRec t&&decide (t<P.types.size))=true) (hres:f.resultTypes= #[tb]) (hbool:P.underlying tb=some .bool)
 (hW:DataW.Whole enc P f.params.toList s.vars apart W args.toList ds gs before) (hvars:s.vars=[]) (h1:(s.fn H (ds++gs)).results=[.lit (.bool true)]) (h2:(s.fn H (ds++gs)).args=ds) (h3:(s.fn H (ds++gs)).vars=[])
 (hx:aL W W' aT):s.post enc P f apart fresh handsOn false W args (.bool true) W':=by
 have hb:=hx.below
 have hlt:∀x∈before,x.block<W.heap.size:=λx hx=>hW.lt x hx
 have hW':=hW
 obtain⟨p,q,hA,hV,rfl,_,_⟩:=hW
 rw[hvars]at hV
 obtain⟨_,rfl⟩:=trodVars_none hV
 rw[aKf]at hW' hlt
 refine⟨ds,gs,p,[],p,[],hW', ?_, ?_, ?_,hb.frame _,λh=>by cases h⟩
 .rw [h1,hres]
  exact trodAll_cons_mk (shut_bool hbool _) trodAll_mk0
 .rw [h2];exact amY hl hb _ _ _ _ hr hA hlt
 .rw [h3,hvars]<;>rfl
theorem aFD{H:Type}{enc:TypeId×aL1->H}{P:Program}{W:aL0}{base b0:Nat}{r:Reach}{sp:Nat->Bool}{hd:Bool}{t e:TypeId}{k:IntKind}{v:aL1}{d:DataW H}{ps:List MemPlace}(ht:P.underlying t=some (.slice e))(he:P.underlying e=some (.int k))(hc:P.cellsOf e=1)
 (hval:Value.okWide P W r b0 t v) (h:DataW.Trod enc P W base sp hd t v d ps):
 ∃zs:List Int,Sl W v (zs.map (Value.int k))/\zs.length<=9223372036854775807/\∀z∈zs,(Lit.int k z).wf=true:=by
 obtain⟨a0,len,cap,rfl⟩:=okWide_slice ht hval
 obtain⟨fuel,hf⟩:=h
 rcases open_ints ht he hc hf with⟨hcs,-⟩|⟨a,len',cap',zs,hcs,_,hl,hm,hz,-,hcell,hwz⟩
 .have:Value.slice a0 len cap= .slice none 0 0:=by simpa[Value.cells]using hcs
  cases this
  exact⟨[],⟨none,0,0,rfl,rfl,aJO _,λh=>absurd h (by simp)⟩,by simp,by simp⟩
 .have:Value.slice a0 len cap= .slice (some a) len' cap':=by simpa[Value.cells]using hcs
  cases this
  unfold maxLen at hm
  have hle:len<=zs.length:=by rw[hz];split<;>omega
  refine⟨zs.take len,⟨some a,len,cap,rfl,by rw[aJC,aJP];omega,hl,λh0=> ?_⟩,by rw[aJP];omega,λz hz=>hwz z (aLn hz)⟩
  obtain⟨b,off,spot⟩:=a
  have hs:spot=none:=by
   have h0:=hcell 0 (by omega)
   unfold World.cell? at h0
   split at h0
   .cases spot
    .rfl
    .simp [Addr.add]at h0
   .cases h0
  subst hs
  refine⟨b,off,rfl,λi hi=> ?_⟩
  rw[<-CP,hcell i (by omega),aJ4,aKE hi,aJL,aJE (by omega)]
  rfl
theorem awP(zs:List Int)(h:∀z∈zs,(Lit.int .u8 z).wf=true):∃l:List UInt8,zs.map (Value.int .u8)=l.map gT/\l.length=zs.length:=by
 refine⟨zs.map λz=>UInt8.ofNat z.toNat, ?_,by simp⟩
 rw[List.map_map]
 refine aKK λz hz=> ?_
 have:=h z hz
 have hx:0<=z/\z<=255:=by simpa[Lit.wf,IntKind.min,IntKind.max,IntKind.signed,IntKind.bits]using this
 show _=gT (UInt8.ofNat z.toNat)
 unfold gT
 rw[aKZ]
 congr 1
 omega
end Go.En
namespace Go.Proofs.YteelnmpbnaohpaaGreatDoor
open Go Go.En
theorem aAd{P:Program}{s:Sem Next}{w:aL0}{K:aL1->aL0->Prop}:aA P s w K=YB P (s.run P w) K:=Eq.trans rfl rfl
theorem asC{P:Program}{s:Sem Next}{v:aL1}{w:aL0}:aP P s v w=(s.run P w= .ok (.value v) w):=Eq.trans rfl rfl
theorem SV:type_of%(And.intro @aAd<|And.intro @asC<|And.intro @aI<|And.intro @stepR_skip<|And.intro @fT<|And.intro @Mv<|And.intro @UC<|And.intro @UE<|And.intro @abC<|And.intro @abB<|And.intro @aBZ<|And.intro @RW<|And.intro @Xi<|And.intro @aoB<|And.intro @Mu<|And.intro @O8<|And.intro @Km<|And.intro @eX<|And.intro @auT<|And.intro @vQ<|And.intro @Dg<|And.intro @aAL<|And.intro @anZ<|And.intro @UD<|And.intro @jH<|And.intro @aoA<|And.intro @aAK<|And.intro @aiG<|And.intro @x20<|And.intro @x21<|And.intro @x30<|And.intro @x31<|And.intro @x32<|And.intro @x40<|And.intro @x41<|And.intro @x42<|And.intro @x43<|And.intro @bK<|And.intro @Result.ok.injEq<|And.intro @Next.value.injEq<|And.intro @true_and<|And.intro @and_true<|And.intro @dG<|And.intro @gX<|And.intro @aBb<|And.intro @JM<|And.intro @aBc<|And.intro @azW<|And.intro @aJI<|And.intro @uQ<|And.intro @Nv<|And.intro @wH<|And.intro @qB<|And.intro @gI<|And.intro @jQ<|And.intro @afG<|And.intro @Wb<|And.intro @cN<|And.intro @bH<|And.intro @if_true.{1}<|And.intro @if_false.{1}<|And.intro @aJM<|And.intro @aJG<|And.intro @aKI.{0}<|And.intro @aKY.{0}<|And.intro @aKS<|And.intro @aKC<|And.intro @aJJ.{0}<|And.intro @aJD.{0}<|And.intro @mK<|And.intro @CZ<|And.intro @EW<|And.intro @iH<|And.intro @lC<|And.intro @lB<|And.intro @iR<|And.intro @Co<|And.intro @kQ<|And.intro @uS<|And.intro @uW<|And.intro @IM<|And.intro @iI<|And.intro @gZ<|And.intro @A8<|And.intro @jV<|And.intro @gG<|And.intro @Ap<|And.intro @fJ<|And.intro @vY<|And.intro @pB<|And.intro @qQ<|And.intro @pM<|And.intro @lP<|And.intro @oA<|And.intro @C6<|And.intro @oE<|And.intro @Ti<|And.intro @oC<|And.intro @oB<|And.intro @Db<|And.intro @nA<|And.intro @lV<|And.intro @mZ<|And.intro @nB<|And.intro @cI<|And.intro @An<|And.intro @Al<|And.intro @lK<|And.intro @gH<|And.intro @kW<|And.intro @fE<|And.intro @Ao<|And.intro @kY<|And.intro @Nz<|And.intro @kB<|And.intro @kX<|And.intro @oI<|And.intro @C4<|And.intro @Em<|And.intro @jB<|And.intro @mV<|And.intro @gW<|And.intro @EX<|And.intro @jD<|And.intro @jE<|And.intro @kT<|And.intro @jA<|And.intro @jC<|And.intro @yN<|And.intro @jU<|And.intro @Ar<|And.intro @nD<|And.intro @Fk<|And.intro @mG<|And.intro @rT<|And.intro @rS<|And.intro @sC<|And.intro @rV<|And.intro @pO<|And.intro @nZ<|And.intro @Ak<|And.intro @Ai<|And.intro @Aj<|And.intro @rU<|And.intro @xJ<|And.intro @Fi<|And.intro @qT<|And.intro @uX<|And.intro @lU<|And.intro @pN<|And.intro @kS<|And.intro @kR<|And.intro @jF<|And.intro @lT<|And.intro @lW<|And.intro @nC<|And.intro @mX<|And.intro @eA<|And.intro @dT<|And.intro @lS<|And.intro @jS<|And.intro @kV<|And.intro @mY<|And.intro @mW<|And.intro @uL<|And.intro @qV<|And.intro @qW<|And.intro @jY<|And.intro @oJ<|And.intro @kZ<|And.intro @jT<|And.intro @As<|And.intro @xH<|And.intro @qU<|And.intro @xK<|And.intro @xG<|And.intro @xI<|And.intro @kP<|And.intro @BD<|And.intro @uM<|And.intro @qR<|And.intro @Fb<|And.intro @oM<|And.intro @oL<|And.intro @rZ<|And.intro @mQ<|And.intro @wA<|And.intro @HE<|And.intro @tA<|And.intro @Az<|And.intro @jR<|And.intro @Am<|And.intro @lR<|And.intro @cL<|And.intro @cJ<|And.intro @cY<|And.intro @kA<|And.intro @tM<|And.intro @lQ<|And.intro @cD<|And.intro @nY<|And.intro @nX<|And.intro @qS<|And.intro @mT<|And.intro @yY<|And.intro @mU<|And.intro @kU<|And.intro @vL<|And.intro @xA<|And.intro @sB<|And.intro @pL<|And.intro @vM<|And.intro @sQ<|And.intro @iQ<|And.intro @EV<|And.intro @Bw<|And.intro @Bq<|And.intro @Ah<|And.intro @EY<|And.intro @Ay<|And.intro @EZ<|And.intro @uP<|And.intro @Bp<|And.intro @Nu<|And.intro @jZ<|And.intro @FI<|And.intro @kD<|And.intro @kE<|And.intro @HM<|And.intro @uD<|And.intro @qY<|And.intro @wZ<|And.intro @qZ<|And.intro @uK<|And.intro @Ba<|And.intro @fV<|And.intro @nK<|And.intro @qI<|And.intro @qH<|And.intro @oF<|And.intro @Dz<|And.intro @Hh<|And.intro @yK<|And.intro @iC<|And.intro @A9<|And.intro @uJ<|And.intro @uI<|And.intro @Dy<|And.intro @A6<|And.intro @qG<|And.intro @rG<|And.intro @sU<| @aM):=⟨@aAd, @asC, @aI, @stepR_skip, @fT, @Mv, @UC, @UE, @abC, @abB, @aBZ, @RW, @Xi, @aoB, @Mu, @O8, @Km, @eX, @auT, @vQ, @Dg, @aAL, @anZ, @UD, @jH, @aoA, @aAK, @aiG, @x20, @x21, @x30, @x31, @x32, @x40, @x41, @x42, @x43, @bK, @Result.ok.injEq, @Next.value.injEq, @true_and, @and_true, @dG, @gX, @aBb, @JM, @aBc, @azW, @aJI, @uQ, @Nv, @wH, @qB, @gI, @jQ, @afG, @Wb, @cN, @bH, @if_true.{1}, @if_false.{1}, @aJM, @aJG, @aKI.{0}, @aKY.{0}, @aKS, @aKC, @aJJ.{0}, @aJD.{0}, @mK, @CZ, @EW, @iH, @lC, @lB, @iR, @Co, @kQ, @uS, @uW, @IM, @iI, @gZ, @A8, @jV, @gG, @Ap, @fJ, @vY, @pB, @qQ, @pM, @lP, @oA, @C6, @oE, @Ti, @oC, @oB, @Db, @nA, @lV, @mZ, @nB, @cI, @An, @Al, @lK, @gH, @kW, @fE, @Ao, @kY, @Nz, @kB, @kX, @oI, @C4, @Em, @jB, @mV, @gW, @EX, @jD, @jE, @kT, @jA, @jC, @yN, @jU, @Ar, @nD, @Fk, @mG, @rT, @rS, @sC, @rV, @pO, @nZ, @Ak, @Ai, @Aj, @rU, @xJ, @Fi, @qT, @uX, @lU, @pN, @kS, @kR, @jF, @lT, @lW, @nC, @mX, @eA, @dT, @lS, @jS, @kV, @mY, @mW, @uL, @qV, @qW, @jY, @oJ, @kZ, @jT, @As, @xH, @qU, @xK, @xG, @xI, @kP, @BD, @uM, @qR, @Fb, @oM, @oL, @rZ, @mQ, @wA, @HE, @tA, @Az, @jR, @Am, @lR, @cL, @cJ, @cY, @kA, @tM, @lQ, @cD, @nY, @nX, @qS, @mT, @yY, @mU, @kU, @vL, @xA, @sB, @pL, @vM, @sQ, @iQ, @EV, @Bw, @Bq, @Ah, @EY, @Ay, @EZ, @uP, @Bp, @Nu, @jZ, @FI, @kD, @kE, @HM, @uD, @qY, @wZ, @qZ, @uK, @Ba, @fV, @nK, @qI, @qH, @oF, @Dz, @Hh, @yK, @iC, @A9, @uJ, @uI, @Dy, @A6, @qG, @rG, @sU, @aM⟩
end Go.Proofs.YteelnmpbnaohpaaGreatDoor
namespace Go.Pu
section
variable{κ β:Type}[DecidableEq κ]
def bF(k:κ):List (κ×β)->Option β
 |[]=>none
 |p::r=>if k=p.1 then some p.2 else bF k r
def nR(k:κ)(v:β):List (κ×β)->List (κ×β)
 |[]=>[(k,v)]
 |p::r=>if k=p.1 then(k,v)::r else p::nR k v r
def yM(k:κ):List (κ×β)->List (κ×β)
 |[]=>[]
 |p::r=>if k=p.1 then r else p::yM k r
theorem Md(k j:κ)(v:β):∀l:List (κ×β),bF j (nR k v l)=if j=k then some v else bF j l:=by
 intro l
 induction l with
 |nil=>simp only[nR,bF]
 |cons p r ih=>
  simp only[nR]
  by_cases h:k=p.1
  .rw [if_pos h]
   simp only[bF]
   by_cases hj:j=k
   .rw [if_pos hj,if_pos hj]
   .rw [if_neg hj,if_neg hj,if_neg (λe=>hj (e.trans h.symm))]
  .rw [if_neg h]
   simp only[bF,ih]
   by_cases hj:j=p.1
   .rw [if_pos hj,if_pos hj,if_neg (λe=>h (e.symm.trans hj))]
   .rw [if_neg hj,if_neg hj]
theorem Zf{k:κ}:∀{l:List (κ×β)},k∉l.map (·.1)->bF k l=none
 |[],_=>rfl
 |p::r,h=>by
  rw[aJU,aJK,not_or]at h
  rw[bF,if_neg h.1,Zf h.2]
theorem Rc{k j:κ}:∀{l:List (κ×β)},(l.map (·.1)).Nodup->bF j (yM k l)=if j=k then none else bF j l
 |[],_=>by simp[yM,bF]
 |p::r,h=>by
  rw[aJU,aK3]at h
  simp only[yM]
  by_cases hk:k=p.1
  .rw [if_pos hk]
   simp only[bF]
   by_cases hj:j=k
   .rw [if_pos hj,hj,hk,Zf h.1]
   .rw [if_neg hj,if_neg (λe=>hj (e.trans hk.symm))]
  .rw [if_neg hk]
   simp only[bF,Rc h.2]
   by_cases hj:j=p.1
   .rw [if_pos hj,if_pos hj,if_neg (λe=>hk (e.symm.trans hj))]
   .rw [if_neg hj,if_neg hj]
theorem anN{k:κ}{v:β}{x:κ}:∀{l:List (κ×β)},x∈(nR k v l).map (·.1)->x=k∨x∈l.map (·.1)
 |[],h=>by simp[nR]at h;exact .inl h
 |p::r,h=>by
  simp only[nR]at h
  split at h
  .rename_i e
   rw[aJU,aJK]at h
   rcases h with h|h
   .exact .inl h
   .exact .inr (by rw[aJU];exact aJT _ h)
  .rw [aJU,aJK]at h
   rcases h with h|h
   .exact .inr (by rw[aJU,h];exact aJ7)
   .rcases anN h with h|h
    .exact .inl h
    .exact .inr (by rw[aJU];exact aJT _ h)
theorem uO{k:κ}{v:β}:∀{l:List (κ×β)},(l.map (·.1)).Nodup->((nR k v l).map (·.1)).Nodup
 |[],_=>by simp[nR]
 |p::r,h=>by
  rw[aJU,aK3]at h
  simp only[nR]
  split
  .rename_i e
   rw[aJU,aK3]
   exact⟨λhm=>h.1 (e▸hm),h.2⟩
  .rename_i e
   rw[aJU,aK3]
   refine⟨λhm=> ?_,uO h.2⟩
   rcases anN hm with h1|h1
   .exact e h1.symm
   .exact h.1 h1
theorem atH{k:κ}:∀l:List (κ×β),(yM k l).Sublist l
 |[]=>List.Sublist.slnil
 |p::r=>by
  simp only[yM]
  split
  .exact List.sublist_cons_self _ _
  .exact (atH r).cons_cons _
theorem Ir{k:κ}{l:List (κ×β)}(h:(l.map (·.1)).Nodup):((yM k l).map (·.1)).Nodup:=h.sublist ((atH l).map _)
end
abbrev cO:=List (ByteArray×List UInt8)
def bN(c:cO):Nat:=(c.map λp=>p.2.length).sum
theorem sT(k:ByteArray)(b:List UInt8):∀c:cO,bN (nR k b c)+((bF k c).getD []).length=bN c+b.length
 |[]=>by simp[nR,bF,bN]
 |p::r=>by
  have ih:=sT k b r
  simp only[nR,bF]
  split
  .simp [bN];omega
  .unfold bN at*
   rw[aJU,aJU,aLk,aLk];omega
theorem HO(k:ByteArray):∀c:cO,bN (yM k c)+((bF k c).getD []).length=bN c
 |[]=>by simp[yM,bF,bN]
 |p::r=>by
  have ih:=HO k r
  simp only[yM,bF]
  split
  .simp [bN];omega
  .unfold bN at*
   rw[aJU,aJU,aLk,aLk];omega
theorem atG{c:cO}{j:Nat}(h:j<c.length):bN (c.eraseIdx j)+c[j].2.length=bN c:=by
 induction c generalizing j with
 |nil=>simp at h
 |cons p r ih=>
  cases j with
  |zero=>simp[bN];omega
  |succ j=>
   have:=ih (j:=j) (by simpa using h)
   unfold bN at*
   rw[aKQ,aJU,aJU,aLk,aLk,List.getElem_cons_succ];omega
theorem sS{k:ByteArray}{c:cO}:((bF k c).getD []).length<=bN c:=by have:=HO k c;omega
structure LP where
 kind:Nat
 name:ByteArray
 other:ByteArray
 at':Nat
 bytes:List UInt8
def over(old:List UInt8)(a:Nat)(b:List UInt8):List UInt8:=(old++List.replicate (max old.length (a+b.length)-old.length) 0).take a++b++(old++List.replicate (max old.length (a+b.length)-old.length) 0).drop (a+b.length)
theorem yR(old:List UInt8)(a:Nat)(b:List UInt8):(over old a b).length=max old.length (a+b.length):=by
 unfold over
 simp only[aJF,aJP,aJS,aJ9];omega
def TS(o:LP)(c:cO):cO:=
 if o.kind=0 then nR o.name (over ((bF o.name c).getD []) o.at' o.bytes) c
 else if o.kind=1 then match bF o.name c with
  |none=>c
  |some old=>nR o.other old (yM o.name c)
 else if o.kind=2 then yM o.name c else c
end Go.Pu
namespace Go.En
open Go Go.Pu
theorem aGS{v:aL1}{P Q:Nat->Prop}(h:fK v λb=>P b∨Q b):fK v P∨fK v Q:=by
 unfold fK at*
 split
 .exact h
 .rename_i hne
  split at h
  .exact absurd rfl (hne _ _ _)
  .exact h.elim
def JN(w:aL0)(X:Nat->Prop)(v:aL1)(b:List UInt8):Prop:=Bs w v b/\¬fK v X
theorem JN.ext {w w':aL0}{X M:Nat->Prop}{v:aL1}{b:List UInt8}(h:JN w X v b)(x:aL w w' M)(hM:∀b,M b->X b):JN w' X v b:=⟨h.1.ext x λh'=>h.2 (bO h' hM),h.2⟩
theorem JN.sub {w:aL0}{X Y:Nat->Prop}{v:aL1}{b:List UInt8}(h:JN w X v b)(hY:∀b,Y b->X b∨w.heap.size<=b):JN w Y v b:=
 ⟨h.1,λh'=>by
   rcases aGS (bO h' hY)with h'|h'
   .exact h.2 h'
   .exact h.1.old h'⟩
def FD(w:aL0)(X:Nat->Prop):List (ByteArray×aL1)->cO->Prop
 |[],[]=>True
 |p::l,q::c=>p.1=q.1/\JN w X p.2 q.2/\FD w X l c
 |_,_=>False
theorem FD.map {w w':aL0}{X Y:Nat->Prop}(hd:∀v b,JN w X v b->JN w' Y v b):∀{l:List (ByteArray×aL1)} {c:cO},FD w X l c->FD w' Y l c
 |[],[],_=>trivial
 |p::l,q::c,h=>⟨h.1,hd _ _ h.2.1,FD.map hd h.2.2⟩
theorem FD.ext {w w':aL0}{X M:Nat->Prop}{l:List (ByteArray×aL1)}{c:cO}(h:FD w X l c)(x:aL w w' M)(hM:∀b,M b->X b):FD w' X l c:=h.map λ_ _ h=>h.ext x hM
theorem FD.sub {w:aL0}{X Y:Nat->Prop}{l:List (ByteArray×aL1)}{c:cO}(h:FD w X l c)(hY:∀b,Y b->X b∨w.heap.size<=b):FD w Y l c:=h.map λ_ _ h=>h.sub hY
theorem FD.get {w:aL0}{X:Nat->Prop}(k:ByteArray):∀{l:List (ByteArray×aL1)} {c:cO},FD w X l c->(OP k l=none/\bF k c=none)∨∃v b,OP k l=some v/\bF k c=some b/\JN w X v b
 |[],[],_=> .inl ⟨rfl,rfl⟩
 |p::l,q::c,h=>by
  obtain⟨h1,h2,h3⟩:=h
  simp only[OP,bF,<-h1]
  by_cases hk:k=p.1
  .rw [if_pos hk,if_pos hk];exact .inr ⟨_,_,rfl,rfl,h2⟩
  .rw [if_neg hk,if_neg hk];exact FD.get k h3
theorem FD.set {w:aL0}{X:Nat->Prop}{k:ByteArray}{v:aL1}{b:List UInt8}(hd:JN w X v b):∀{l:List (ByteArray×aL1)} {c:cO},FD w X l c->FD w X (upd k v l) (nR k b c)
 |[],[],_=>⟨rfl,hd,trivial⟩
 |p::l,q::c,h=>by
  obtain⟨h1,h2,h3⟩:=h
  simp only[upd,nR,<-h1]
  by_cases hk:k=p.1
  .rw [if_pos hk,if_pos hk];exact⟨rfl,hd,h3⟩
  .rw [if_neg hk,if_neg hk];exact⟨h1,h2,FD.set hd h3⟩
theorem FD.del {w:aL0}{X:Nat->Prop}{k:ByteArray}:∀{l:List (ByteArray×aL1)} {c:cO},FD w X l c->FD w X (del k l) (yM k c)
 |[],[],_=>trivial
 |p::l,q::c,h=>by
  obtain⟨h1,h2,h3⟩:=h
  simp only[Go.En.del,yM,<-h1]
  by_cases hk:k=p.1
  .rw [if_pos hk,if_pos hk];exact h3
  .rw [if_neg hk,if_neg hk];exact⟨h1,h2,FD.del h3⟩
theorem FD.len {w:aL0}{X:Nat->Prop}:∀{l:List (ByteArray×aL1)} {c:cO},FD w X l c->l.length=c.length
 |[],[],_=>rfl
 |p::l,q::c,h=>by rw[aJX,aJX,FD.len h.2.2]
theorem FD.at {w:aL0}{X:Nat->Prop}:∀{l:List (ByteArray×aL1)} {c:cO} {j:Nat} (h:FD w X l c) (h1:j<l.length) (h2:j<c.length),l[j].1=c[j].1/\JN w X l[j].2 c[j].2
 |[],[],j,_,h1,_=>by simp at h1
 |p::l,q::c,0,h,_,_=>⟨h.1,h.2.1⟩
 |p::l,q::c,j+1,h,h1,h2=>FD.at h.2.2 (by simpa using h1) (by simpa using h2)
theorem FD.erase {w:aL0}{X:Nat->Prop}:∀{l:List (ByteArray×aL1)} {c:cO} (j:Nat) (h:FD w X l c),FD w X (l.eraseIdx j) (c.eraseIdx j)
 |[],[],j,_=>by simp[FD]
 |p::l,q::c,0,h=>h.2.2
 |p::l,q::c,j+1,h=>by
  rw[aKQ,aKQ]
  exact⟨h.1,h.2.1,FD.erase j h.2.2⟩
theorem FD.keys {w:aL0}{X:Nat->Prop}:∀{l:List (ByteArray×aL1)} {c:cO},FD w X l c->l.map (·.1)=c.map (·.1)
 |[],[],_=>rfl
 |p::l,q::c,h=>by rw[aJU,aJU,h.1,FD.keys h.2.2]
end Go.En
namespace Go.En
open Go
theorem DJ.ext {w w':aL0}{S M:Nat->Prop}{sz n:Nat}{v:aL1}{l:List aL1}(h:DJ w S sz v n l)(hx:aL w w' M)(hM:∀b,S b->¬M b):DJ w' S sz v n l:=by
 refine⟨h.1, ?_⟩
 rcases h.2 with h2|⟨b,c,rest,h1,h2,h3,h4,h5⟩
 .exact .inl h2
 .exact .inr ⟨b,c,rest,h1,h2,h3.ext hx (hM b h2),h4,h5⟩
theorem mP.ne {w:aL0}{base p sz n:Nat}{v:aL1}{l:List aL1}(h:mP w base sz v n l)(hp:w.heap.size<=p):DJ w (λb=>base<=b/\b≠p) sz v n l:=by
 refine⟨h.1, ?_⟩
 rcases h.2 with h2|⟨b,c,rest,h1,h2,h3,h4,h5⟩
 .exact .inl h2
 .have:=h3.lt
  exact .inr ⟨b,c,rest,h1,⟨h2,by omega⟩,h3,h4,h5⟩
theorem DJ.len {w:aL0}{S:Nat->Prop}{sz n:Nat}{v:aL1}{l:List aL1}(h:DJ w S sz v n l):∃a c,v= .slice a n c:=by
 rcases h.2 with⟨h1,rfl⟩|⟨b,c,rest,h1,_⟩
 .exact ⟨_,_,h1⟩
 .exact ⟨_,_,h1⟩
end Go.En
namespace Go.En
open Go Go.Pu
def YP(o:LP)(v:aL1):List aL1:=[.int .i64 o.kind,.string o.name,.string o.other,.int .i64 o.at',v]
def OpR(w:aL0)(X:Nat->Prop):List aL1->List LP->Prop
 |cs,[]=>cs=[]
 |cs,o::os=>∃v cs',(∃x n k,v= .slice x n k)/\cs=YP o v++cs'/\JN w X v o.bytes/\OpR w X cs' os
theorem OpR.nil (w:aL0)(X:Nat->Prop):OpR w X [] []:=rfl
theorem OpR.map {w w':aL0}{X Y:Nat->Prop}(hd:∀v b,JN w X v b->JN w' Y v b):∀{os:List LP} {cs:List aL1},OpR w X cs os->OpR w' Y cs os
 |[],cs,h=>h
 |o::os,cs,⟨v,cs',h1,h2,h3,h4⟩=>⟨v,cs',h1,h2,hd _ _ h3,OpR.map hd h4⟩
theorem OpR.ext {w w':aL0}{X M:Nat->Prop}{os:List LP}{cs:List aL1}(h:OpR w X cs os)(x:aL w w' M)(hM:∀b,M b->X b):OpR w' X cs os:=h.map λ_ _ h=>h.ext x hM
theorem OpR.sub {w:aL0}{X Y:Nat->Prop}{os:List LP}{cs:List aL1}(h:OpR w X cs os)(hY:∀b,Y b->X b∨w.heap.size<=b):OpR w Y cs os:=h.map λ_ _ h=>h.sub hY
theorem OpR.len {w:aL0}{X:Nat->Prop}:∀{os:List LP} {cs:List aL1},OpR w X cs os->cs.length=os.length*5
 |[],cs,h=>by rw[show cs=[]from h]<;>rfl
 |o::os,cs,⟨v,cs',h1,h2,h3,h4⟩=>by rw[h2,aJF,OpR.len h4,aJX];show 5+_=_;omega
theorem OpR.snoc {w:aL0}{X:Nat->Prop}{o:LP}{v:aL1}(hv:∃x n k,v= .slice x n k)(hd:JN w X v o.bytes):∀{os:List LP} {cs:List aL1},OpR w X cs os->OpR w X (cs++YP o v) (os++[o])
 |[],cs,h=>⟨v,[],hv,by rw[show cs=[]from h,aJ1,aKf],hd,rfl⟩
 |o'::os,cs,⟨v',cs',h1,h2,h3,h4⟩=>⟨v',cs'++YP o v,h1,by rw[h2,aJW],h3,OpR.snoc hv hd h4⟩
theorem OpR.at {w:aL0}{X:Nat->Prop}:∀{os:List LP} {cs:List aL1} {i:Nat} (h:OpR w X cs os) (hi:i<os.length),∃v,(∃x n k,v= .slice x n k)/\(cs.drop (i*5)).take 5=YP os[i] v/\JN w X v os[i].bytes
 |[],cs,i,_,hi=>by simp at hi
 |o::os,cs,0,⟨v,cs',h1,h2,h3,h4⟩,_=>⟨v,h1,by rw[h2]<;>rfl,h3⟩
 |o::os,cs,i+1,⟨v,cs',h1,h2,h3,h4⟩,hi=>by
  obtain⟨v',q1,q2,q3⟩:=OpR.at h4 (i:=i) (by simpa using hi)
  refine⟨v',q1, ?_,q3⟩
  rw[show(i+1)*5=5+i*5 from by omega,<-aLf,h2]
  exact q2
structure cG where
 room:Int
 sure:cO
 seen:cO
 under:List LP
 left:Int
 down:Bool
abbrev Rb:ByteArray->aL1:=λs=> .string s
def fS(w:aL0)(p:Nat)(X D:Nat->Prop)(S:cG):Prop:=
 ∃(ms mn:Nat) (sv:aL1) (ls ln:List (ByteArray×aL1)) (cs:List aL1),X p/\X ms/\X mn/\p≠ms/\p≠mn/\ms≠mn/\(∀b,X b->D b)/\(∀b,D b->b<w.heap.size)/\
  bD w p [.int .i64 S.room,.map (some ms),.map (some mn),sv,.int .i64 S.left,.bool S.down]/\Mp w ms Rb ls/\Mp w mn Rb ln/\FD w D ls S.sure/\FD w D ln S.seen/\
  DJ w (λb=>X b/\b≠p/\b≠ms/\b≠mn) 5 sv S.under.length cs/\OpR w D cs S.under
theorem fS.ext {w w':aL0}{p:Nat}{X D M:Nat->Prop}{S:cG}(h:fS w p X D S)(x:aL w w' M)(hM:∀b,M b->D b/\¬X b):fS w' p X D S:=by
 obtain⟨ms,mn,sv,ls,ln,cs,h1,h2,h3,h4,h5,h6,h7,h7',h8,h9,h10,h11,h12,h13,h14⟩:=h
 have hx:∀{b},X b->¬M b:=λhb hm=>(hM _ hm).2 hb
 have hd:∀v b,JN w D v b->JN w' D v b:=λ_ _ hd=>hd.ext x λb h=>(hM b h).1
 exact⟨ms,mn,sv,ls,ln,cs,h1,h2,h3,h4,h5,h6,h7,λb hb=>aKe (h7' b hb) x.size,h8.ext x (hx h1),h9.ext x (hx h2),h10.ext x (hx h3),h11.map hd,h12.map hd,h13.ext x (λb hb=>hx hb.1),h14.map hd⟩
theorem fS.new {w w':aL0}{p:Nat}{X D:Nat->Prop}{S:cG}(h:fS w p X D S)(x:aL w w' aT):fS w' p X D S:=h.ext x λ_ h=>h.elim
theorem fS.more {w w':aL0}{p q:Nat}{X D:Nat->Prop}{S:cG}(h:fS w p X D S)(x:aL w w' aT)(hq:w.heap.size<=q)(hq':q<w'.heap.size):fS w' p X (λb=>D b∨b=q) S:=by
 obtain⟨ms,mn,sv,ls,ln,cs,h1,h2,h3,h4,h5,h6,h7,h7',h8,h9,h10,h11,h12,h13,h14⟩:=h
 have hd:∀v b,JN w D v b->JN w' (λb=>D b∨b=q) v b:=λv b hd=>(hd.sub (Y:=λb=>D b∨b=q) λb h=>by
  rcases h with h|h
  .exact .inl h
  .exact .inr (by omega)).ext x λ_ h=>h.elim
 have z:=x.size
 exact⟨ms,mn,sv,ls,ln,cs,h1,h2,h3,h4,h5,h6,λb h=> .inl (h7 b h),λb hb=>by
  rcases hb with hb|hb
  .have:=h7' b hb;omega
  .omega,h8.ext x (λh=>h),h9.ext x (λh=>h),h10.ext x (λh=>h),h11.map hd,h12.map hd,h13.ext x (λb _ h=>h),h14.map hd⟩
end Go.En
namespace Go.Pu
open Go
def RM(x y:ByteArray):Bool:=Op.bytesLess x.toList y.toList
theorem aCO:∀x:List UInt8,Op.bytesLess x x=false
 |[]=>rfl
 |a::x=>by
  unfold Op.bytesLess
  rw[aCO x]
  simp
theorem aCP:∀x y:List UInt8,x≠y->Op.bytesLess x y=false->Op.bytesLess y x=true
 |[],[],h,_=>absurd rfl h
 |[],b::y,_,h=>by simp[Op.bytesLess]at h
 |a::x,[],_,_=>by simp[Op.bytesLess]
 |a::x,b::y,h,h2=>by
  unfold Op.bytesLess at h2⊢
  by_cases e:a=b
  .subst e
   have hxy:x≠y:=λe=>h (by rw[e])
   simp at h2⊢
   exact aCP x y hxy h2
  .simp [e]at h2
   have h3:¬a.toNat<b.toNat:=λhh=>by
    have:a<b:=aLT.2 hh
    exact absurd this (by simpa using h2)
   have h4:a.toNat≠b.toNat:=λhh=>e (UInt8.toNat_inj.1 hh)
   have:b<a:=aLT.2 (by omega)
   simp[this]
theorem asJ:∀x y z:List UInt8,Op.bytesLess x y=true->Op.bytesLess y z=true->Op.bytesLess x z=true
 |_,[],_,h,_=>by simp[Op.bytesLess]at h
 |_,_::_,[],_,h=>by simp[Op.bytesLess]at h
 |[],_::_,_::_,_,_=>by simp[Op.bytesLess]
 |a::x,b::y,c::z,h1,h2=>by
  unfold Op.bytesLess at h1 h2⊢
  rw[aKu,aJQ,decide_eq_true_eq,beq_iff_eq]at h1 h2⊢
  rcases h1 with h1|⟨rfl,h1⟩
  .rcases h2 with h2|⟨rfl,h2⟩
   .left
    rw[aLT]at*
    omega
   .exact .inl h1
  .rcases h2 with h2|⟨rfl,h2⟩
   .exact .inl h2
   .exact .inr ⟨rfl,asJ x y z h1 h2⟩
theorem WX(x:ByteArray):RM x x=false:=aCO _
theorem aAz{x y:ByteArray}(h:x≠y)(h2:RM x y=false):RM y x=true:=by
 refine aCP _ _ (λe=>h ?_) h2
 rw[ByteArray.toList_eq,ByteArray.toList_eq]at e
 cases x;cases y
 simp at e
 rw[e]
theorem Zu{x y z:ByteArray}(h:RM x y=true)(h2:RM y z=true):RM x z=true:=asJ _ _ _ h h2
def Srt(l:cO):Prop:=l.Pairwise λp q=>RM p.1 q.1=true
theorem Srt.nodup {l:cO}(h:Srt l):(l.map (·.1)).Nodup:=by
 rw[List.Nodup,List.pairwise_map]
 exact h.imp λhh e=>by rw[e,WX]at hh;cases hh
def M7 (n:ByteArray)(l:cO):cO:=l.filter λp=>decide (p.1≠n)
def rwi(n:ByteArray)(b:List UInt8)(l:cO):cO:=(M7 n l).takeWhile (λp=>RM p.1 n)++(n,b)::(M7 n l).dropWhile (λp=>RM p.1 n)
theorem Re{n j:ByteArray}:∀{l:cO},bF j (M7 n l)=if j=n then none else bF j l
 |[]=>by simp[M7,bF]
 |p::r=>by
  have ih:=Re (n:=n) (j:=j) (l:=r)
  unfold M7 at ih⊢
  rw[List.filter_cons]
  by_cases h:p.1=n
  .have:decide (p.1≠n)=false:=by simp[h]
   rw[this,if_neg (by decide),ih]
   simp only[bF]
   by_cases hj:j=n
   .rw [if_pos hj,if_pos hj]
   .rw [if_neg hj,if_neg hj,if_neg (λe=>hj (e.trans h))]
  .have:decide (p.1≠n)=true:=by simp[h]
   rw[this,if_pos rfl]
   simp only[bF,ih]
   by_cases hj:j=p.1
   .rw [if_pos hj,if_pos hj,if_neg (λe=>h (hj.symm.trans e))]
   .rw [if_neg hj,if_neg hj]
theorem Ki{j:ByteArray}:∀{a b:cO},bF j (a++b)=(bF j a).or (bF j b)
 |[],b=>by simp[bF]
 |p::r,b=>by
  rw[aLe]
  simp only[bF]
  by_cases h:j=p.1
  .rw [if_pos h,if_pos h]<;>rfl
  .rw [if_neg h,if_neg h,Ki]
theorem WC{n j:ByteArray}{b:List UInt8}{l:cO}:bF j (rwi n b l)=if j=n then some b else bF j l:=by
 have h1:=Re (n:=n) (j:=j) (l:=l)
 have h2:M7 n l=(M7 n l).takeWhile (λp=>RM p.1 n)++(M7 n l).dropWhile (λp=>RM p.1 n):=List.takeWhile_append_dropWhile.symm
 unfold rwi
 rw[Ki]
 by_cases h:j=n
 .rw [if_pos h]at h1⊢
  rw[h2,Ki]at h1
  have:bF j ((M7 n l).takeWhile λp=>RM p.1 n)=none:=by
   cases hq:bF j ((M7 n l).takeWhile λp=>RM p.1 n)with
   |none=>rfl
   |some v=>rw[hq]at h1;cases h1
  rw[this,Option.none_or]
  simp only[bF]
  rw[if_pos h]
 .rw [if_neg h]at h1⊢
  simp only[bF]
  rw[if_neg h,<-Ki,<-h2,h1]
theorem aAW{n:ByteArray}{l:cO}(h:Srt l):Srt (M7 n l):=List.Pairwise.filter _ h
theorem auD{α:Type}{p:α->Bool}:∀{l:List α} {x:α},x∈l.takeWhile p->p x=true
 |[],x,h=>by simp at h
 |a::l,x,h=>by
  rw[List.takeWhile_cons]at h
  split at h
  .rename_i ha
   rcases aJK.1 h with h|h
   .rw [h];exact ha
   .exact auD h
  .cases h
theorem anH{α:Type}{p:α->Bool}:∀{l:List α} {x:α} {r:List α},l.dropWhile p=x::r->p x=false
 |[],x,r,h=>by simp at h
 |a::l,x,r,h=>by
  rw[List.dropWhile_cons]at h
  split at h
  .exact anH h
  .rename_i ha
   cases h
   simpa using ha
theorem aAU{n:ByteArray}{b:List UInt8}{l:cO}(h:Srt l):Srt (rwi n b l):=by
 have h1:Srt (M7 n l):=aAW h
 have h2:M7 n l=(M7 n l).takeWhile (λp=>RM p.1 n)++(M7 n l).dropWhile (λp=>RM p.1 n):=List.takeWhile_append_dropWhile.symm
 have hne:∀p∈M7 n l,p.1≠n:=λp hp=>by
  have:=(aLV.1 hp).2
  simpa using this
 unfold Srt at h1
 rw[h2,aK0]at h1
 obtain⟨ha,hb,hab⟩:=h1
 have hd:∀q∈(M7 n l).dropWhile (λp=>RM p.1 n),RM n q.1=true:=by
  intro q hq
  cases hc:(M7 n l).dropWhile (λp=>RM p.1 n)with
  |nil=>rw[hc]at hq;cases hq
  |cons x r=>
   have hx:=anH hc
   have hxm:x∈M7 n l:=by rw[h2,hc];exact aKg.2 (.inr aJ7)
   have hnx:RM n x.1=true:=aAz (hne x hxm) hx
   rw[hc]at hq hb
   rcases aJK.1 hq with hq|hq
   .rw [hq];exact hnx
   .exact Zu hnx ((aKX.1 hb).1 q hq)
 unfold Srt rwi
 rw[aK0]
 refine⟨ha,aKX.2 ⟨hd,hb⟩,λp hp q hq=> ?_⟩
 rcases aJK.1 hq with hq|hq
 .rw [hq];exact auD (p:=λp:ByteArray×List UInt8=>RM p.1 n) hp
 .exact hab p hp q hq
structure Sim(c l:cO):Prop where
 nd:(c.map (·.1)).Nodup
 st:Srt l
 eq:∀n,bF n c=bF n l
theorem Sim.nil:Sim [] []:=⟨List.nodup_nil,List.Pairwise.nil,λ_=>rfl⟩
theorem Sim.both:∀{l c:cO},Sim c l->bN c=bN l/\c.length=l.length
 |[],c,h=>by
  cases c with
  |nil=>exact⟨rfl,rfl⟩
  |cons p r=>
   have:=h.eq p.1
   simp only[bF,if_true]at this
   cases this
 |p::l,c,h=>by
  have hp:bF p.1 c=some p.2:=by rw[h.eq];simp only[bF,if_true]
  have hst:=aKX.1 h.st
  have h1:Sim (yM p.1 c) l:=by
   refine⟨Ir h.nd,hst.2,λn=> ?_⟩
   rw[Rc h.nd,h.eq]
   by_cases hn:n=p.1
   .rw [if_pos hn,hn]
    refine(Zf λhm=> ?_).symm
    obtain⟨q,hq,e⟩:=aKq.1 hm
    have:=hst.1 q hq
    rw[e,WX]at this
    cases this
   .rw [if_neg hn]
    simp only[bF]
    rw[if_neg hn]
  obtain⟨h2,h3⟩:=h1.both
  have h4:=HO p.1 c
  rw[hp,aKF]at h4
  have h5:c.length=(yM p.1 c).length+1:=by
   have:∀{c:cO} {k:ByteArray} {v},bF k c=some v->c.length=(yM k c).length+1:=by
    intro c
    induction c with
    |nil=>intro k v hh;cases hh
    |cons q r ih=>
     intro k v hh
     simp only[bF,yM]at hh⊢
     by_cases hk:k=q.1
     .rw [if_pos hk]<;>rfl
     .rw [if_neg hk]at hh⊢
      rw[aJX,aJX,ih hh]
   exact this hp
  refine⟨?_,by rw[h5,h3]<;>rfl⟩
  show _=((p::l).map λp=>p.2.length).sum
  rw[aJU,aLk]
  have:bN l=(l.map λp=>p.2.length).sum:=rfl
  omega
def rdo(o:LP)(l:cO):cO:=
 if o.kind=0 then rwi o.name (over ((bF o.name l).getD []) o.at' o.bytes) l
 else match bF o.name l with
  |none=>l
  |some old=>if o.kind=1 then rwi o.other old (M7 o.name l)else M7 o.name l
theorem Sim.do {c l:cO}{o:LP}(h:Sim c l)(ho:o.kind<=2):Sim (TS o c) (rdo o l):=by
 have hdel:Sim (yM o.name c) (M7 o.name l):=⟨Ir h.nd,aAW h.st,λn=>by rw[Rc h.nd,Re,h.eq]⟩
 unfold TS rdo
 split
 .refine ⟨uO h.nd,aAU h.st,λn=> ?_⟩
  rw[Md,WC,h.eq,h.eq]
 .rename_i h0
  split
  .rename_i h1
   rw[h.eq]
   cases bF o.name l with
   |none=>exact h
   |some old=>
    simp only[h1,if_true]
    exact⟨uO hdel.nd,aAU hdel.st,λn=>by rw[Md,WC,hdel.eq]⟩
  .rename_i h1
   have h2:o.kind=2:=by omega
   rw[if_pos h2]
   cases hg:bF o.name l with
   |none=>
    have hc:=h.eq o.name
    rw[hg]at hc
    refine⟨Ir h.nd,h.st,λn=> ?_⟩
    rw[Rc h.nd,h.eq]
    by_cases hn:n=o.name
    .rw [if_pos hn,hn,hg]
    .rw [if_neg hn]
   |some old=>
    simp only[h1,if_false]
    exact hdel
end Go.Pu
namespace Go.Pu
def VA(p:Int):Int:=if p<0 then 1 else p
def fits:Int->List Int->Bool
 |left,[]=>left==0
 |left,p::r=>if p< -1∨left<VA p then false else fits (left-VA p) r
def awM(ps:List Int):Int:=(ps.map VA).sum
def aGg(log:Int)(ps:List Int):Bool:=decide (5<=log/\log<=15/\1<=ps.length/\ps.length<=256/\ps.getLast?≠some 0)
def aHZ(log:Int)(ps:List Int):Bool:=aGg log ps&&fits (2^log.toNat) ps
theorem aoV(p:Int)(ps:List Int):awM (p::ps)=VA p+awM ps:=by simp[awM]
theorem alY{p:Int}(h: -1<=p):0<=VA p:=by unfold VA;split<;>omega
theorem awN{ps:List Int}(h:∀p∈ps,-1<=p):0<=awM ps:=by
 induction ps with
 |nil=>simp[awM]
 |cons p r ih=>
  rw[aoV]
  have:=alY (h p (by simp))
  have:=ih λq hq=>h q (aJT _ hq)
  omega
theorem atF:∀{ps:List Int} {left:Int},fits left ps=true↔(∀p∈ps,-1<=p)/\awM ps=left
 |[],left=>by simp[fits,awM];constructor<;>intro h<;>omega
 |p::r,left=>by
  rw[fits,aoV]
  by_cases h:p< -1∨left<VA p
  .rw [if_pos h]
   constructor
   .intro h;cases h
   .rintro ⟨h1,h2⟩
    have hp:=h1 p (by simp)
    have:=awN (ps:=r) λq hq=>h1 q (aJT _ hq)
    omega
  .rw [if_neg h,atF]
   constructor
   .rintro ⟨h1,h2⟩
    exact⟨λq hq=>by rcases aJK.1 hq with rfl|hq;·omega
                    .exact h1 q hq,by omega⟩
   .rintro ⟨h1,h2⟩
    exact⟨λq hq=>h1 q (aJT _ hq),by omega⟩
structure May(log:Nat)(ps:List Int):Prop where
 log5:5<=log
 log15:log<=15
 len1:1<=ps.length
 len256:ps.length<=256
 last:ps.getLast?≠some 0
 low:∀p∈ps,-1<=p
 sum:awM ps=2^log
theorem May.b {log:Nat}{ps:List Int}(h:May log ps):aHZ log ps=true:=by
 unfold aHZ aGg
 simp only[aJQ,decide_eq_true_eq]
 have h1:=h.log5
 have h2:=h.log15
 refine⟨⟨by omega,by omega,h.len1,h.len256,h.last⟩, ?_⟩
 rw[atF,aJI]
 exact⟨h.low,h.sum⟩
def pos(n j:Nat):Nat:=(j*(n/2+n/8+3))%n
theorem aiA:∀(n:Nat) (l:List Nat),l.Nodup->(∀a∈l,a<n)->l.length<=n:=by
 intro n
 induction n with
 |zero=>intro l _ h;cases l with
  |nil=>simp
  |cons a r=>exact absurd (h a (by simp)) (by omega)
 |succ n ih=>
  intro l hd h
  by_cases hn:n∈l
  .have:=ih (l.erase n) (hd.erase n) (λa ha=>by
    have h1:=h a (List.mem_of_mem_erase ha)
    have h2:a≠n:=λe=>by subst e;exact hd.not_mem_erase ha
    omega)
   rw[aLJ hn]at this
   omega
  .have:=ih l hd (λa ha=>by
    have h1:=h a ha
    have h2:a≠n:=λe=>by subst e;exact hn ha
    omega)
   omega
def bl(k:Nat):Nat:=if k=0 then 0 else k.log2+1
theorem aGc(k:Nat):k<2^bl k:=by
 unfold bl
 split
 .subst_vars;simp
 .exact Nat.lt_log2_self
theorem aGb{k:Nat}(h:k≠0):2^(bl k-1)<=k:=by
 unfold bl
 rw[if_neg h,Nat.add_sub_cancel]
 exact Nat.log2_self_le h
theorem aGI{k:Nat}(h:k≠0):1<=bl k:=by unfold bl;rw[if_neg h];omega
theorem asI{k n:Nat}(h:k<2^n):bl k<=n:=by
 by_cases h0:k=0
 .subst h0;simp[bl]
 .rcases aKA n (bl k)with hh|hh
  .have h1:=aGb h0
   have:=aLb (n:=2) (by omega) (show n<=bl k-1 by omega)
   omega
  .exact hh
theorem aHQ{k n:Nat}(h1:2^n<=k)(h2:k<2^(n+1)):bl k=n+1:=by
 have h0:k≠0:=by have:=Nat.two_pow_pos n;omega
 have a:=asI h2
 have b:=aGc k
 rcases aKA (bl k) (n+1)with h|h
 .have:=aLb (n:=2) (by omega) (show bl k<=n by omega)
  omega
 .omega
end Go.Pu
namespace Go.Pu
open Go Go.En
def aHP(c:UInt8):List Bool:=(List.range 8).map c.toNat.testBit
def aGa:List UInt8->List Bool
 |[]=>[]
 |c::l=>aHP c++aGa l
theorem aGZ{x i:Nat}(h:x<2^i)(b:Nat):x|||(b*2^i)=x+2^i*b:=by
 rw[Nat.or_comm,aLL b,<-Nat.two_pow_add_eq_or_of_lt h b,Nat.add_comm]
theorem aFE{a b:Nat}(ha:a<2^64)(hb:b<2^64):orI .u64 (a:Int) (b:Int)=((a|||b:Nat):Int):=by
 have h:=Nat.or_lt_two_pow ha hb
 unfold orI
 have e:IntKind.u64.bits=64:=rfl
 rw[e,BitVec.ofInt_natCast,BitVec.ofInt_natCast,BitVec.toNat_or,BitVec.toNat_ofNat,BitVec.toNat_ofNat,aKl ha,aKl hb]
 exact gX (by omega) (by have:((a|||b:Nat):Int)<((2^64:Nat):Int):=by exact_mod_cast h
                         omega)
end Go.Pu
namespace Go.Pu
open Go.En
abbrev iW:Nat:=4294967296
theorem Tn{a b:Nat}(ha:a<iW)(hb:b<iW):orI .u32 (a:Int) (b:Int)=((a|||b:Nat):Int):=by
 have h:=Nat.or_lt_two_pow (n:=32) ha hb
 unfold orI
 have e:IntKind.u32.bits=32:=rfl
 rw[e,BitVec.ofInt_natCast,BitVec.ofInt_natCast,BitVec.toNat_or,BitVec.toNat_ofNat,BitVec.toNat_ofNat,aKl ha,aKl hb]
 exact JM (by omega) (by have:((a|||b:Nat):Int)<((2^32:Nat):Int):=by exact_mod_cast h
                         omega)
theorem fH{a b:Nat}(ha:a<iW)(hb:b<iW):afF .u32 (a:Int) (b:Int)=((a^^^b:Nat):Int):=by
 have h:=Nat.xor_lt_two_pow (n:=32) ha hb
 unfold afF
 have e:IntKind.u32.bits=32:=rfl
 rw[e,BitVec.ofInt_natCast,BitVec.ofInt_natCast,BitVec.toNat_xor,BitVec.toNat_ofNat,BitVec.toNat_ofNat,aKl ha,aKl hb]
 exact JM (by omega) (by have:((a^^^b:Nat):Int)<((2^32:Nat):Int):=by exact_mod_cast h
                         omega)
theorem yE{a b:Nat}(ha:a<iW)(hb:b<iW):acA .u32 (a:Int) (b:Int)=((a&&&b:Nat):Int):=by
 have h:=Nat.and_lt_two_pow (n:=32) a hb
 unfold acA
 have e:IntKind.u32.bits=32:=rfl
 rw[e,BitVec.ofInt_natCast,BitVec.ofInt_natCast,BitVec.toNat_and,BitVec.toNat_ofNat,BitVec.toNat_ofNat,aKl ha,aKl hb]
 exact JM (by omega) (by have:((a&&&b:Nat):Int)<((2^32:Nat):Int):=by exact_mod_cast h
                         omega)
theorem axA(a:Nat):IntKind.u32.wrap (a:Int)=((a%iW:Nat):Int):=by
 show(a:Int)%4294967296=((a%4294967296:Nat):Int)
 omega
theorem LS(a b:Nat):IntKind.u32.wrap ((a:Int)+(b:Int))=(((a+b)%iW:Nat):Int):=by
 rw[<-axA];congr 1
theorem MN(a k:Nat):IntKind.u32.wrap ((a:Int)*2^k)=((a*2^k%iW:Nat):Int):=by
 have e:((a:Int)*2^k)=((a*2^k:Nat):Int):=by simp
 rw[e,axA]
theorem LG(a k:Nat):(a:Int).fdiv (2^k)=((a/2^k:Nat):Int):=by
 rw[Int.fdiv_eq_ediv_of_nonneg _ (by exact Int.le_of_lt (Int.pow_pos (by decide)))]
 simp
theorem AR{a b:Nat}(ha:a<iW)(hb:b<iW):a^^^b<iW:=Nat.xor_lt_two_pow (n:=32) ha hb
theorem auM{a b:Nat}(ha:a<iW)(hb:b<iW):a|||b<iW:=Nat.or_lt_two_pow (n:=32) ha hb
theorem CR(a:Nat){b:Nat}(hb:b<iW):a&&&b<iW:=Nat.and_lt_two_pow (n:=32) a hb
theorem pP(a:Nat):a%iW<iW:=aLo _ (by decide)
theorem Ra{a:Nat}(h:a<iW)(k:Nat):a/2^k<iW:=Nat.lt_of_le_of_lt (aLI _ _) h
def Z0 (x k:Nat):Nat:=(x*2^(32-k)%iW)|||(x/2^k)
theorem oN{x k:Nat}(h:x<iW):Z0 x k<iW:=auM (pP _) (Ra h k)
def YI(x a b c:Nat):Nat:=Z0 x a^^^Z0 x b^^^Z0 x c
def Xg(x a b d:Nat):Nat:=Z0 x a^^^Z0 x b^^^(x/2^d)
def w0N (b:List UInt8):Nat->List Nat
 |0=>List.replicate 64 0
 |i+1=>(w0N b i).set (i/4) (((w0N b i).getD (i/4) 0*2^8%iW)|||(b.getD i 0).toNat)
def w1N (l:List Nat):Nat->List Nat
 |0=>l
 |j+1=>(w1N l j).set (16+j) (((((w1N l j).getD j 0+Xg ((w1N l j).getD (j+1) 0) 7 18 3)%iW+(w1N l j).getD (j+9) 0)%iW+Xg ((w1N l j).getD (j+14) 0) 17 19 10)%iW)
def kN:List Nat:=[1116352408,1899447441,3049323471,3921009573,961987163,1508970993,2453635748,2870763221,3624381080,310598401,607225278,1426881987,1925078388,2162078206,2614888103,3248222580,3835390401,4022224774,264347078,604807628,770255983,1249150122,1555081692,1996064986,2554220882,2821834349,2952996808,3210313671,3336571891,3584528711,113926993,338241895,666307205,773529912,1294757372,1396182291,1695183700,1986661051,2177026350,2456956037,2730485921,2820302411,3259730800,3345764771,3516065817,3600352804,4094571909,275423344,430227734,506948616,659060556,883997877,958139571,1322822218,1537002063,1747873779,1955562222,2024104815,2227730452,2361852424,2428436474,2756734187,3204031479,3329325298]
def aBL(v:List Nat)(k w:Nat):Nat:=
 ((((v.getD 7 0+YI (v.getD 4 0) 6 11 25)%iW+((v.getD 4 0&&&v.getD 5 0)^^^((4294967295^^^v.getD 4 0)&&&v.getD 6 0)))%iW+k)%iW+w)%iW
def aF1 (v:List Nat):Nat:=(YI (v.getD 0 0) 2 13 22+((v.getD 0 0&&&v.getD 1 0)^^^(v.getD 0 0&&&v.getD 2 0)^^^(v.getD 1 0&&&v.getD 2 0)))%iW
def MV(v:List Nat)(k w:Nat):List Nat:=
 [(aBL v k w+aF1 v)%iW,v.getD 0 0,v.getD 1 0,v.getD 2 0,(v.getD 3 0+aBL v k w)%iW,v.getD 4 0,v.getD 5 0,v.getD 6 0]
def nE(W:List Nat)(s:List Nat):Nat->List Nat
 |0=>s
 |t+1=>MV (nE W s t) (kN.getD t 0) (W.getD t 0)
def zQ(v s:List Nat)(i:Nat):List Nat:=v.mapIdx λj x=>if j<i then(x+s.getD j 0)%iW else x
def KG(s:List Nat)(b:List UInt8):List Nat:=zQ (nE (w1N (w0N b 64) 48) s 64) s 8
def CL(l:List Nat):Prop:=∀x∈l,x<iW
theorem CL.getD {l:List Nat}(h:CL l)(i:Nat):l.getD i 0<iW:=by
 rw[aJL]
 cases e:l[i]? with
 |none=>decide
 |some x=>exact h x (aKR e)
theorem CL.set {l:List Nat}(h:CL l){i x:Nat}(hx:x<iW):CL (l.set i x):=λy hy=>by
 rcases List.mem_or_eq_of_mem_set hy with h1|h1
 .exact h y h1
 .rw [h1];exact hx
theorem aA7 (b:List UInt8):∀i,(w0N b i).length=64
 |0=>by simp[w0N]
 |i+1=>by rw[w0N,aKr,aA7 b i]
theorem azS(b:List UInt8):∀i,CL (w0N b i)
 |0=>λx hx=>by
  rw[w0N]at hx
  rw[(List.mem_replicate.1 hx).2];decide
 |i+1=>by
  have h2:=(b.getD i 0).toNat_lt
  exact(azS b i).set (auM (pP _) (by have:iW=4294967296:=rfl
                                     omega))
theorem aA8 (l:List Nat):∀j,(w1N l j).length=l.length
 |0=>rfl
 |j+1=>by rw[w1N,aKr,aA8 l j]
theorem aEz{l:List Nat}(h:CL l):∀j,CL (w1N l j)
 |0=>h
 |j+1=>(aEz h j).set (pP _)
theorem aCh(v:List Nat)(k w:Nat):(MV v k w).length=8:=rfl
theorem aEq{v:List Nat}(h:CL v)(k w:Nat):CL (MV v k w):=λx hx=>by
 unfold MV at hx
 simp only[aJK,List.not_mem_nil,or_false]at hx
 rcases hx with rfl|rfl|rfl|rfl|rfl|rfl|rfl|rfl
 .exact pP _
 .exact h.getD 0
 .exact h.getD 1
 .exact h.getD 2
 .exact pP _
 .exact h.getD 4
 .exact h.getD 5
 .exact h.getD 6
theorem Ks{W s:List Nat}(h:s.length=8):∀t,(nE W s t).length=8
 |0=>h
 |t+1=>aCh _ _ _
theorem OB{W s:List Nat}(h:CL s):∀t,CL (nE W s t)
 |0=>h
 |t+1=>aEq (OB h t) _ _
theorem EM(v s:List Nat)(i:Nat):(zQ v s i).length=v.length:=by simp[zQ]
theorem akV(v s:List Nat):zQ v s 0=v:=by
 apply aLz
 .simp [zQ]
 .intro i h1 h2;simp[zQ]
theorem aoW{v s:List Nat}{i:Nat}(h:i<v.length):(zQ v s i).getD i 0=v.getD i 0:=by
 rw[aJL,aJL,aJE (by rw[EM];exact h),aJE h]
 simp[zQ]
theorem aoX{v s:List Nat}{i:Nat}(h:i<v.length):(zQ v s i).set i ((v.getD i 0+s.getD i 0)%iW)=zQ v s (i+1):=by
 have hv:v.getD i 0=v[i]:=by rw[aJL,aJE h]<;>rfl
 rw[hv]
 apply aLz
 .simp [zQ]
 .intro j h1 h2
  rw[List.getElem_set]
  simp only[zQ,List.getElem_mapIdx]
  by_cases hij:i=j
  .subst hij;simp
  .simp only[hij,if_false]
   by_cases hj:j<i
   .rw [if_pos hj,if_pos (by omega)]
   .rw [if_neg hj,if_neg (by omega)]
theorem aEs{v s:List Nat}(hv:CL v)(i:Nat):CL (zQ v s i):=λx hx=>by
 unfold zQ at hx
 obtain⟨j,hj,rfl⟩:=List.mem_mapIdx.1 hx
 split
 .exact pP _
 .exact hv _ (aKp hj)
theorem apB{s:List Nat}(b:List UInt8)(h:s.length=8):(KG s b).length=8:=by unfold KG;rw[EM,Ks h]
theorem aEI{s:List Nat}(b:List UInt8)(h:CL s):CL (KG s b):=aEs (OB h _) _
def aDm:List Nat:=[1779033703,3144134277,1013904242,2773480762,1359893119,2600822924,528734635,1541459225]
def Hf:Nat->List UInt8->List Nat
 |0,_=>aDm
 |k+1,L=>KG (Hf k L) ((L.drop (64*k)).take 64)
theorem AZ:∀k L,(Hf k L).length=8
 |0,_=>rfl
 |k+1,L=>apB _ (AZ k L)
theorem Wd:∀k L,CL (Hf k L)
 |0,_=>by
  show CL aDm
  unfold CL aDm;decide
 |k+1,L=>aEI _ (Wd k L)
theorem aaJ:∀k (L M:List UInt8),64*k<=L.length->Hf k (L++M)=Hf k L
 |0,_,_,_=>rfl
 |k+1,L,M,h=>by
  rw[Hf,Hf,aaJ k L M (by omega)]
  congr 1
  rw[aKo (by omega),aKh (by rw[aJS];omega)]
def beN(x:Nat)(k:Nat):List UInt8:=(List.range k).map λi=>UInt8.ofNat (x/2^(56-8*i)%256)
theorem afH(x k:Nat):(beN x k).length=k:=by simp[beN]
theorem asH(x k:Nat):beN x (k+1)=beN x k++[UInt8.ofNat (x/2^(56-8*k)%256)]:=by simp[beN,aLh]
def ayK(L:List UInt8):List UInt8:=L++[128]++List.replicate ((119-L.length%64)%64) 0++beN (8*L.length) 8
def Zz(s:List Nat)(k:Nat):List UInt8:=(List.range k).map λi=>UInt8.ofNat (s.getD (i/4) 0/2^(24-i%4*8)%256)
theorem anX(s:List Nat)(k:Nat):Zz s (k+1)=Zz s k++[UInt8.ofNat (s.getD (k/4) 0/2^(24-k%4*8)%256)]:=by simp[Zz,aLh]
theorem IW(s:List Nat)(k:Nat):(Zz s k).length=k:=by simp[Zz]
def Yw(L:List UInt8):List UInt8:=Zz (Hf ((ayK L).length/64) (ayK L)) 32
theorem vS(L:List UInt8):(Yw L).length=32:=IW _ _
def aX(l:List UInt8):List UInt8:=Yw (0::l)
def hN:List Nat:=[0,274646895,549293790,820201905,1098587580,1361435347,1640403810,1905808397,2197175160,2460548119,2722870694,2987750089,3280807620,3553878443,3811616794,4084100981]
theorem aGf:CL hN:=by unfold CL hN;decide
def aaQ(x:Nat):Nat:=x/2^4^^^hN.getD (x&&&15) 0
def aBr(x:Nat)(c:UInt8):Nat:=aaQ (aaQ (x^^^c.toNat))
theorem ahH{x:Nat}(h:x<iW):aaQ x<iW:=AR (Ra h _) (aGf.getD _)
theorem HN(c:UInt8):c.toNat<iW:=by
 have:=c.toNat_lt
 have:iW=4294967296:=rfl
 omega
theorem aE6 {x:Nat}(h:x<iW)(c:UInt8):aBr x c<iW:=ahH (ahH (AR h (HN c)))
def TM(x:Nat)(l:List UInt8):Nat:=l.foldl aBr x
theorem afL{x:Nat}(h:x<iW)(l:List UInt8):TM x l<iW:=by
 unfold TM
 induction l generalizing x with
 |nil=>exact h
 |cons c l ih=>exact ih (aE6 h c)
theorem anE(x:Nat)(l:List UInt8)(c:UInt8):TM x (l++[c])=aBr (TM x l) c:=by unfold TM;rw[List.foldl_append]<;>rfl
def aY(l:List UInt8):Nat:=4294967295^^^TM 4294967295 l
theorem aAm(l:List UInt8):aY l<iW:=AR (by decide) (afL (by decide) l)
end Go.Pu
namespace Go.Proofs.YteelnmpbnaohpaaGreatDoor
open Go Go.En Go.Pu
set_option maxRecDepth 4000
structure nQ(w:aL0):Prop where
 sh:∀i,i<64->w.cell? ⟨0,i,none⟩=some (.int .u32 (kN.getD i 0:Nat))
 cr:∀i,i<16->w.cell? ⟨1,i,none⟩=some (.int .u32 (hN.getD i 0:Nat))
theorem vW{w w':aL0}{g i:Nat}{v:aL1}{M:Nat->Prop}(hc:w.cell? ⟨g,i,none⟩=some v)(x:aL w w' M)(hM:¬M g):w'.cell? ⟨g,i,none⟩=some v:=by
 have hg:g<w.heap.size:=by
  rcases aKA g w.heap.size with h|h
  .exact h
  .unfold World.cell? at hc
   rw[aKn h]at hc
   cases hc
 rw[<-hc]
 unfold World.cell?
 rw[x.keep g hg hM]
theorem nQ.extM {w w':aL0}{M:Nat->Prop}(h:nQ w)(x:aL w w' M)(h1:¬M 0)(h2:¬M 1):nQ w':=
 ⟨λi hi=>vW (h.sh i hi) x h1,λi hi=>vW (h.cr i hi) x h2⟩
theorem nQ.ext {w w':aL0}(h:nQ w)(x:aL w w' aT):nQ w':=h.extM x (λh=>h) (λh=>h)
theorem nQ.lt {w:aL0}(h:nQ w):0<w.heap.size/\1<w.heap.size:=by
 have q:∀{g:Nat} {v:aL1},w.cell? ⟨g,0,none⟩=some v->g<w.heap.size:=λ{g v} hc=>by
  rcases aKA g w.heap.size with h|h
  .exact h
  .unfold World.cell? at hc
   rw[aKn h]at hc
   cases hc
 exact⟨q (h.sh 0 (by omega)),q (h.cr 0 (by omega))⟩
theorem aHc:∀k:Fin 31,acA .u64 (IntKind.u64.wrap (-((k.val+1:Nat):Int))) 31=((31-k.val:Nat):Int):=by decide
theorem aHd:∀k:Fin 31,IntKind.u64.wrap (32-((31-k.val:Nat):Int))=((k.val+1:Nat):Int):=by decide
theorem ajL{x k:Nat}(hx:x<iW)(h1:1<=k)(h2:k<=31)(w:aL0):
 aG pg dO #[.int .u32 (x:Nat),.int .i64 (-(k:Int))] w (λr w'=>r= .int .u32 (Z0 x k:Nat)/\w'=w):=by
 refine Hj ?_
 have e1:=aHc ⟨k-1,by omega⟩
 have e2:=aHd ⟨k-1,by omega⟩
 simp only[show k-1+1=k from by omega,show 31-(k-1)=32-k from by omega]at e1 e2
 have m1:min (32-k) IntKind.u32.bits=32-k:=aJ5 (by have:IntKind.u32.bits=32:=rfl
                                                   omega)
 have m2:min k IntKind.u32.bits=k:=aJ5 (by have:IntKind.u32.bits=32:=rfl
                                           omega)
 have e3:=MN x (32-k)
 have e4:=LG x k
 have e5:=Tn (a:=x*2^(32-k)%iW) (b:=x/2^k) (pP _) (Ra hx k)
 unfold Dc AD Z0
 simp(disch:=omega)only[SV,e1,e2,m1,m2,e3,e4,e5]
theorem awO{x a b c:Nat}(hx:x<iW)(ha:1<=a/\a<=31)(hb:1<=b/\b<=31)(hc:1<=c/\c<=31)(w:aL0):
 aG pg CJ #[.int .u32 (x:Nat),.int .i64 (a:Nat),.int .i64 (b:Nat),.int .i64 (c:Nat)] w (λr w'=>r= .int .u32 (YI x a b c:Nat)/\w'=w):=by
 refine aeZ ?_
 unfold akH U6 YI
 have n1:∀k:Nat,k<=31->IntKind.i64.wrap (0-(k:Int))= -(k:Int):=λk hk=>by rw[Int.zero_sub];exact dG (by omega) (by omega)
 simp(disch:=omega)only[SV,n1 a ha.2,n1 b hb.2,n1 c hc.2]
 refine(ajL hx ha.1 ha.2 w).mono ?_
 rintro r w1 ⟨rfl,hw⟩
 rw[hw];clear hw w1
 refine(ajL hx hb.1 hb.2 w).mono ?_
 rintro r w1 ⟨rfl,hw⟩
 rw[hw];clear hw w1
 have e1:=fH (oN (k:=a) hx) (oN (k:=b) hx)
 simp(disch:=omega)only[SV,n1 c hc.2,e1]
 refine(ajL hx hc.1 hc.2 w).mono ?_
 rintro r w1 ⟨rfl,hw⟩
 rw[hw];clear hw w1
 have e2:=fH (AR (oN (k:=a) hx) (oN (k:=b) hx)) (oN (k:=c) hx)
 simp(disch:=omega)only[SV,e2]
theorem aoP{x a b d:Nat}(hx:x<iW)(ha:1<=a/\a<=31)(hb:1<=b/\b<=31)(hd:d<=31)(w:aL0):
 aG pg HW #[.int .u32 (x:Nat),.int .i64 (a:Nat),.int .i64 (b:Nat),.int .i64 (d:Nat)] w (λr w'=>r= .int .u32 (Xg x a b d:Nat)/\aL w w' aT):=by
 refine amW ?_
 unfold avZ abU Xg
 have n1:∀k:Nat,k<=31->IntKind.i64.wrap (0-(k:Int))= -(k:Int):=λk hk=>by rw[Int.zero_sub];exact dG (by omega) (by omega)
 have m2:min d IntKind.u32.bits=d:=aJ5 (by have:IntKind.u32.bits=32:=rfl
                                           omega)
 have e4:=LG x d
 simp(disch:=omega)only[SV,n1 a ha.2,n1 b hb.2,m2,e4]
 refine(ajL hx ha.1 ha.2 _).mono ?_
 rintro r w1 ⟨rfl,hw⟩
 rw[hw];clear hw w1
 refine(ajL hx hb.1 hb.2 _).mono ?_
 rintro r w1 ⟨rfl,hw⟩
 rw[hw];clear hw w1
 have e1:=fH (oN (k:=a) hx) (oN (k:=b) hx)
 have e2:=fH (AR (oN (k:=a) hx) (oN (k:=b) hx)) (Ra hx d)
 simp(disch:=omega)only[SV,n1 b hb.2,m2,e4,e1,e2]
 exact aL.dr _ _
theorem aE5 {l:List UInt8}{v:aL1}{w:aL0}(hg:nQ w)(hv:Bs w v l)(hl:l.length<=1000000000):
 aG pg V9 #[v] w (λr w'=>r= .int .u32 (aY l:Nat)/\aL w w' aT):=by
 refine asW ?_
 obtain⟨RR,hRR⟩:∃RR:aL1->aL0->Prop,RR=λr w'=>r= .int .u32 (aY l:Nat)/\aL w w' aT:=⟨_,rfl⟩
 rw[<-hRR]
 obtain⟨hg0,hg1⟩:=hg.lt
 unfold aCZ anF
 refine apU ?_
 unfold aAn ahA
 simp(disch:=omega)only[aA,A6,aI]
 refine cA λw1 o1 x1 s1=> ?_
 obtain⟨p,hp⟩:∃p,p=w.heap.size:=⟨_,rfl⟩
 rw[<-hp]at o1⊢
 have o1:bD w1 p [.int .u32 (TM 4294967295 (l.take 0):Nat)]:=o1
 refine TN ?_
 unfold QX J8 J7
 obtain⟨va,vc,rfl,_⟩:=hv.len
 rw[aJC]at hv
 simp(disch:=omega)only[aA,qG,aKI,aJC,mK,aI,bH]
 unfold xC
 refine bM.rule (λm (t:aL1) w'=>∃i:Nat,m=l.length-i/\i<=l.length/\t= .int .i64 (i:Nat)/\bD w' p [.int .u32 (TM 4294967295 (l.take i):Nat)]/\aL w1 w' (λy=>y=p)) l.length ⟨0,rfl,by omega,rfl,o1,aL.refl _ _⟩ ?_
 clear o1
 rintro m t w2 ⟨i,rfl,hi,rfl,o2,x2⟩
 unfold CY
 have x02:aL w w2 aT:=x1.trans x2 λy hy h=>by omega
 by_cases hlt:i<l.length
 .have d1:decide ((i:Int)<(l.length:Int))=true:=by simp;omega
  have hv2:=hv.ext x02 (bC _)
  obtain⟨b,off,c',hv',hc',hcell⟩:=hv2.openV (by rw[aJC];omega)
  have g1:=hcell i (by rw[aJC];exact hlt)
  rw[aJC]at hv'
  cases hv'
  rw[aLq]at g1
  obtain⟨c,hc⟩:∃c,c=l[i]'hlt:=⟨_,rfl⟩
  rw[<-hc]at g1
  simp only[gT]at g1
  have htk:l.take (i+1)=l.take i++[c]:=by rw[aLO,aJE hlt,<-hc]<;>rfl
  have hx:=afL (x:=4294967295) (by decide) (l.take i)
  obtain⟨x,hxx⟩:∃x,x=TM 4294967295 (l.take i):=⟨_,rfl⟩
  rw[<-hxx]at hx o2
  have c1:=o2.cell (off:=0)
  simp only[aJD]at c1
  have hcb:c.toNat<256:=c.toNat_lt
  have e0:IntKind.u32.wrap ((c.toNat:Nat):Int)=((c.toNat:Nat):Int):=JM (by omega) (by omega)
  have e1:=fH hx (HN c)
  have hy:x^^^c.toNat<iW:=AR hx (HN c)
  simp(disch:=omega)only[aA,eX,d1,tM,aJI,aiG,fT,dG,aI,rG,true_and,gW,yN,g1,bK,c1,nK,e0,RW,e1,cN]
  refine tE o2 rfl (by simp) λw3 o3 x3 s3=> ?_
  simp only[aJV]at o3
  obtain⟨y,hyy⟩:∃y,y=x^^^c.toNat:=⟨_,rfl⟩
  rw[<-hyy]at hy o3
  have b32:IntKind.u32.bits=32:=rfl
  have m4:min (4:Int).toNat IntKind.u32.bits=4:=rfl
  have half:∀{y:Nat} {w':aL0},y<iW->bD w' p [.int .u32 (y:Nat)]->aL w w' aT→
      w'.cell? ⟨1,y&&&15,none⟩=some (.int .u32 (hN.getD (y&&&15) 0:Nat))/\w'.cell? ⟨p,0,none⟩=some (.int .u32 (y:Nat))/\acA .u32 (y:Int) 15=((y&&&15:Nat):Int)/\y&&&15<16/\(y:Int).fdiv (2^4)=((y/2^4:Nat):Int)/\afF .u32 ((y/2^4:Nat):Int) ((hN.getD (y&&&15) 0:Nat):Int)=((aaQ y:Nat):Int):=λ{y w'} hy o x=>by
   have h16:y&&&15<16:=Nat.and_lt_two_pow (n:=4) y (by decide)
   have c:=o.cell (off:=0)
   simp only[aJD]at c
   exact⟨(hg.ext x).cr _ h16,c,yE (b:=15) hy (by decide),h16,LG y 4,fH (Ra hy 4) (aGf.getD _)⟩
  have x03:aL w w3 aT:=x02.trans x3 λy hy h=>by omega
  have od:=dB o3
  obtain⟨a1,a2,a3,a4,a5,a6⟩:=half hy od (x03.seq (aL.dr _ _))
  obtain⟨b1,b2,-,-,-,-⟩:=half hy o3 x03
  obtain⟨yy,hyd⟩:∃yy,yy=y&&&15:=⟨_,rfl⟩
  rw[<-hyd]at a1 a3 a4 a6 b1
  simp(disch:=omega)only[a2,bK,aI,abB,a3,sU,aJI,aJG,gW,a1,true_and,Mu,m4,a5,RW,a6]
  refine tE od rfl (by simp) λw4 o4 x4 s4=> ?_
  simp only[aJV]at o4
  obtain⟨z,hz⟩:∃z,z=aaQ y:=⟨_,rfl⟩
  have hz32:z<iW:=hz▸ahH hy
  rw[<-hz]at o4
  have x04:aL w w4 aT:=(x03.seq (aL.dr _ _)).trans x4 λy hy h=>by omega
  have oe:=dB o4
  obtain⟨a1,a2,a3,a4,a5,a6⟩:=half hz32 oe (x04.seq (aL.dr _ _))
  obtain⟨yy,hyd⟩:∃yy,yy=z&&&15:=⟨_,rfl⟩
  rw[<-hyd]at a1 a3 a4 a6
  simp(disch:=omega)only[a2,bK,aI,abB,a3,sU,aJI,aJG,gW,a1,true_and,Mu,m4,a5,RW,a6]
  refine tE oe rfl (by simp) λw5 o5 x5 s5=> ?_
  simp only[aJV]at o5
  refine⟨l.length-(i+1),by omega,i+1,rfl,by omega,rfl, ?_,((((x2.seq x3).seq (aL.dr _ _)).seq x4).seq (aL.dr _ _)).seq x5⟩
  have e:TM 4294967295 (l.take (i+1))=aaQ z:=by rw[htk,anE,<-hxx,aBr,<-hyy,<-hz]
  rw[e]
  exact o5
 have d1:decide ((i:Int)<(l.length:Int))=false:=by simp;omega
 obtain rfl:i=l.length:=by omega
 rw[aJH (aJO _)]at o2
 simp(disch:=omega)only[aA,eX,d1,aiG,fT,dG,aI,rG,true_and,gW,bH]
 refine Wv ?_
 unfold Wu OQ
 have c1:=o2.cell (off:=0)
 simp only[aJD]at c1
 have hx:=afL (x:=4294967295) (by decide) l
 have g1:IntKind.u32.signed=false:=rfl
 have g2:IntKind.u32.max=4294967295:=rfl
 have e2:afF .u32 (4294967295:Int) ((TM 4294967295 l:Nat):Int)=((aY l:Nat):Int):=fH (a:=4294967295) (by decide) hx
 simp(disch:=omega)only[aA,qG,aKI,aiG,aI,rG,gW,c1,bK,anZ,g1,aJM,g2,if_false,e2,bH]
 rw[hRR]
 exact⟨rfl,x02⟩
abbrev u32 (x:Nat):aL1:= .int .u32 (x:Int)
theorem xS{l:List Nat}{i:Nat}(h:i<l.length):(l.map u32)[i]?=some (u32 (l.getD i 0)):=by
 rw[aJ4,aJE h,aJL,aJE h]<;>rfl
theorem KF(l:List Nat):∀y∈l.map u32,one y=true:=λy hy=>by
 obtain⟨z,-,rfl⟩:=aKq.1 hy;rfl
theorem aAM(n:Nat):(List.replicate n 0).map u32=List.replicate n (.int .u32 0):=by rw[aLK]<;>rfl
theorem aCa{s:List Nat}{b:List UInt8}{w:aL0}(hg:nQ w)(hs:s.length=8)(h32:CL s)(hb:b.length=64):
 aG pg Ad #[.agg (s.map u32).toArray,.agg (b.map gT).toArray] w (λr w'=>r= .agg ((KG s b).map u32).toArray/\aL w w' aT):=by
 refine Uh ?_
 obtain⟨hg0,hg1⟩:=hg.lt
 unfold SO Jo Jn
 refine cA λw1 o1 x1 s1=> ?_
 refine cA λw2 o2 x2 s2=> ?_
 refine Wf λw3 o3 x3 s3=> ?_
 refine CQ λw4 o4 x4 s4=> ?_
 generalize hn:w.heap.size=n at*
 rw[s1]at o2
 rw[show w2.heap.size=n+2 from by omega]at o3⊢
 rw[show w3.heap.size=n+3 from by omega]at o4⊢
 rw[s1]
 have o1:bD w4 n (s.map u32):=((bD.ext (cs:=s.map u32) o1 x2 (λh=>h)).ext x3 (λh=>h)).ext x4 (λh=>h)
 have o2:bD w4 (n+1) (b.map gT):=(bD.ext (cs:=b.map gT) o2 x3 (λh=>h)).ext x4 (λh=>h)
 have o3:bD w4 (n+2) (List.replicate 8 (.int .u32 0)):=bD.ext (cs:=List.replicate 8 (.int .u32 0)) o3 x4 (λh=>h)
 have o4:bD w4 (n+3) ((w0N b 0).map u32):=by
  rw[w0N,aAM];exact o4
 have x04:aL w w4 aT:=((x1.seq x2).seq x3).seq x4
 have z4:w4.heap.size=n+4:=by omega
 have lb:=RB (off:=0) o2 (by rw[aJC];omega)
 rw[aJY,aJH (by rw[aJC];omega)]at lb
 unfold B8 B7 Jm vB
 simp(disch:=omega)only[aA,lb,aI]
 refine bM.rule (λm (t:aL1) w'=>∃i:Nat,m=64-i/\t= .int .i64 (i:Nat)/\i<=64/\bD w' (n+3) ((w0N b i).map u32)/\aL w4 w' (λy=>y=n+3)) 64 ⟨0,rfl,rfl,by omega,o4,aL.refl _ _⟩ ?_
 rintro m t w5 ⟨i,rfl,rfl,hi,o5,x5⟩
 unfold B6
 have hl5:=aA7 b i
 by_cases hlt:i<64
 .have d1:decide ((i:Int)<64)=true:=by simp;omega
  have hq:(i:Int).tdiv 4=((i/4:Nat):Int):=by rw[aLC (by omega)];omega
  have gb:(b.map gT).toArray[i]?=some (.int .u8 ((b.getD i 0).toNat:Nat)):=by
   rw[aKU,aJ4,aJE (by omega),aJL,aJE (by omega)]<;>rfl
  have c5:=o5.cell (off:=i/4)
  rw[xS (by omega)]at c5
  have hx:=(azS b i).getD (i/4)
  have e1:=MN ((w0N b i).getD (i/4) 0) 8
  have m1:min (8:Int).toNat IntKind.u32.bits=8:=rfl
  have e2:=Tn (pP ((w0N b i).getD (i/4) 0*2^8)) (HN (b.getD i 0))
  have hby:=(b.getD i 0).toNat_lt
  simp(disch:=omega)only[aA,eX,d1,Ba,aJI,gb,bK,UE,hq,dG,fT,aI,fV,aJG,gW,nK,JM,c5,aoB,m1,e1,aBZ,e2,cN]
  refine tE o5 rfl (by rw[aJC];omega) λw6 o6 x6 s6=> ?_
  refine⟨64-(i+1),by omega,i+1,rfl,rfl,by omega, ?_,x5.seq x6⟩
  rw[w0N,aKW]
  exact o6
 have d1:decide ((i:Int)<64)=false:=by simp;omega
 obtain rfl:i=64:=by omega
 simp(disch:=omega)only[aA,eX,d1,UE,fT,dG,aI,bH]
 clear lb
 unfold B4 B3 Jl vA
 obtain⟨W0,hW0⟩:∃W0,W0=w0N b 64:=⟨_,rfl⟩
 have hW0l:CL W0:=hW0▸azS b 64
 rw[<-hW0]at o5 hl5
 refine bM.rule (λm (t:aL1) w'=>∃j:Nat,m=48-j/\t= .int .i64 ((16+j:Nat):Int)/\j<=48/\bD w' (n+3) ((w1N W0 j).map u32)/\aL w4 w' (λy=>y=n+3)) 48 ⟨0,rfl,rfl,by omega,o5,x5⟩ ?_
 clear o5 x5
 rintro m t w5 ⟨j,rfl,rfl,hj,o5,x5⟩
 unfold B2
 have hl6:(w1N W0 j).length=64:=by rw[aA8];exact hl5
 by_cases hlt:j<48
 .have d1:decide (((16+j:Nat):Int)<64)=true:=by simp;omega
  have q1:((16+j:Nat):Int)-16=((j:Nat):Int):=by omega
  have q2:((16+j:Nat):Int)-15=((j+1:Nat):Int):=by omega
  have q3:((16+j:Nat):Int)-7=((j+9:Nat):Int):=by omega
  have q4:((16+j:Nat):Int)-2=((j+14:Nat):Int):=by omega
  have q5:((16+j:Nat):Int)+1=((16+(j+1):Nat):Int):=by omega
  have od:=dB o5
  have c1:=o5.cell (off:=j)
  have c2:=o5.cell (off:=j+1)
  have c3:=o5.cell (off:=j+9)
  have c4:=o5.cell (off:=j+14)
  have d1':=od.cell (off:=j)
  have d2':=od.cell (off:=j+1)
  have d3':=od.cell (off:=j+9)
  have d4':=od.cell (off:=j+14)
  rw[xS (by omega)]at c1 c2 c3 c4 d1' d2' d3' d4'
  have hl:=aEz hW0l j
  have h1:=hl.getD j
  have h2:=hl.getD (j+1)
  have h4:=hl.getD (j+14)
  have f1:=LS
  simp(disch:=omega)only[aA,eX,d1,Mv,q1,dG,q2,aP,Result.ok.injEq,Next.value.injEq,and_true,q3,q4,fV,aJI,aJG,fT,aI,true_and,gW,d1',bK,d2',d3',d4',cN]
  refine(aoP h2 ⟨by decide,by decide⟩ ⟨by decide,by decide⟩ (by decide) _).mono ?_
  rintro r w6 ⟨rfl,x6⟩
  have o6:=od.ext x6 (λh=>h)
  have p1:=o6.cell (off:=j)
  have p3:=o6.cell (off:=j+9)
  have p4:=o6.cell (off:=j+14)
  rw[xS (by omega)]at p1 p3 p4
  simp(disch:=omega)only[p1,bK,fT,f1,p3,p4,Result.ok.injEq,Next.value.injEq,and_true,aI,true_and]
  refine(aoP h4 ⟨by decide,by decide⟩ ⟨by decide,by decide⟩ (by decide) _).mono ?_
  rintro r w7 ⟨rfl,x7⟩
  have o7:=o6.ext x7 (λh=>h)
  have r1:=o7.cell (off:=j)
  have r3:=o7.cell (off:=j+9)
  have r4:=o7.cell (off:=j+14)
  rw[xS (by omega)]at r1 r3 r4
  simp(disch:=omega)only[r3,bK,r1,and_true,fT,f1,q5,aI,true_and]
  refine tE o7 rfl (by rw[aJC];omega) λw8 o8 x8 s8=> ?_
  refine⟨48-(j+1),by omega,j+1,rfl,rfl,by omega, ?_,x5.seq ((((aL.dr _ aT).seq x6).seq x7).mono (λ_ _ h=>h.elim)|>.seq x8)⟩
  rw[w1N,aKW]
  exact o8
 have d1:decide (((16+j:Nat):Int)<64)=false:=by simp;omega
 obtain rfl:j=48:=by omega
 simp(disch:=omega)only[aA,eX,d1,Mv,dG,aP,Result.ok.injEq,Next.value.injEq,and_true,fT,aI,fV,aJG,gW,true_and,bH]
 obtain⟨W,hW⟩:∃W,W=w1N W0 48:=⟨_,rfl⟩
 have hwith:KG s b=zQ (nE W s 64) s 8:=by rw[hW,hW0]<;>rfl
 rw[<-hW]at o5 hl6
 have x05:aL w w5 aT:=x04.trans x5 λy hy h=>by omega
 have a1:=o1.ext x5 (by omega)
 have a3:=o3.ext x5 (by omega)
 have z5:=x5.size
 clear d1 hlt hj hW hW0 hW0l hl5 x5 o1 o2 o3 o4 x04
 unfold B1 Jk
 have ls:=Ld (off:=0) a1 (by rw[aJC];omega)
 rw[aJY,aJH (by rw[aJC];omega)]at ls
 simp(disch:=omega)only[aA,ls,aI]
 refine Wf λw6 o6 x6 s6=> ?_
 have a1:=a1.ext x6 (λh=>h)
 have a3:=a3.ext x6 (λh=>h)
 have aW:=o5.ext x6 (λh=>h)
 obtain⟨v,hv⟩:∃v,v=w5.heap.size:=⟨_,rfl⟩
 rw[<-hv]at o6⊢
 refine LI o6 (by simp[hs]) (λy hy=>KF s y (by simpa using hy)) (by simp) λw7 o7 x7 s7=> ?_
 have hset:eI [(.int .u32 0),(.int .u32 0),(.int .u32 0),(.int .u32 0),(.int .u32 0),(.int .u32 0),(.int .u32 0),(.int .u32 0)] 0 (s.map u32).toArray.toList=s.map u32:=by
  rw[aJZ]
  have:=jN (s.map u32) [] [(.int .u32 0),(.int .u32 0),(.int .u32 0),(.int .u32 0),(.int .u32 0),(.int .u32 0),(.int .u32 0),(.int .u32 0)] (by rw[aJC,hs];decide)
  rw[aJ1,aJ1,aKD,aJC,hs]at this
  rw[this];simp
 rw[hset]at o7
 have x07:aL w w7 aT:=(x05.seq x6).trans x7 λy hy h=>by omega
 have a1:=a1.ext x7 (by omega)
 have a3:=a3.ext x7 (by omega)
 have aW:=aW.ext x7 (by omega)
 have hg7:=hg.ext x07
 have z7:w7.heap.size=v+1:=by omega
 have hvn:n+4<=v:=by omega
 clear o5 o6 x6 x7 s6 s7 x05 hset ls
 unfold B0 BZ Jj xR
 refine bM.rule (λm (t:aL1) w'=>∃i:Nat,m=64-i/\t= .int .i64 (i:Nat)/\i<=64/\bD w' v ((nE W s i).map u32)/\aL w7 w' (λy=>y=v)) 64 ⟨0,rfl,rfl,by omega,o7,aL.refl _ _⟩ ?_
 clear o7
 rintro m t w8 ⟨i,rfl,rfl,hi,o8,x8⟩
 unfold Dw
 have hl8:(nE W s i).length=8:=Ks hs i
 have hlt8:=OB (W:=W) h32 i
 by_cases hlt:i<64
 .have d1:decide ((i:Int)<64)=true:=by simp;omega
  have hnext:nE W s (i+1)=MV (nE W s i) (kN.getD i 0) (W.getD i 0):=rfl
  generalize nE W s i=V at*
  have cW:∀{w':aL0},aL w7 w' (λy=>y=v)->w'.cell? ⟨n+3,i,none⟩=some (u32 (W.getD i 0)):=λ{w'} x=>by
   rw[(aW.ext x (by omega)).cell,xS (by omega)]
  have cK:∀{w':aL0},aL w7 w' (λy=>y=v)->w'.cell? ⟨0,i,none⟩=some (u32 (kN.getD i 0)):=λ{w'} x=>vW (hg7.sh i hlt) x (by omega)
  obtain⟨v0,v1,v2,v3,v4,v5,v6,v7,rfl⟩:∃v0 v1 v2 v3 v4 v5 v6 v7,V=[v0,v1,v2,v3,v4,v5,v6,v7]:=by
   match V,hl8 with
   |[a,b,c,d,e,f,g,h],_=>exact⟨a,b,c,d,e,f,g,h,rfl⟩
  have b0:v0<iW:=hlt8 _ (by simp)
  have b1:v1<iW:=hlt8 _ (by simp)
  have b2:v2<iW:=hlt8 _ (by simp)
  have b4:v4<iW:=hlt8 _ (by simp)
  have b5:v5<iW:=hlt8 _ (by simp)
  have b6:v6<iW:=hlt8 _ (by simp)
  have q1:=dB o8
  have q2:=dB q1
  have q3:=dB q2
  have y2:aL w7 (dr (dr w8)) (λy=>y=v):=(x8.seq (aL.dr _ _)).seq (aL.dr _ _)
  have kk:=cK y2
  have ww:=cW y2
  obtain⟨K,hK⟩:∃K,K=kN.getD i 0:=⟨_,rfl⟩
  obtain⟨Wi,hWi⟩:∃Wi,Wi=W.getD i 0:=⟨_,rfl⟩
  rw[<-hK]at kk hnext
  rw[<-hWi]at ww hnext
  obtain⟨one,hone⟩:∃one,one=aBL [v0,v1,v2,v3,v4,v5,v6,v7] K Wi:=⟨_,rfl⟩
  obtain⟨two,htwo⟩:∃two,two=aF1 [v0,v1,v2,v3,v4,v5,v6,v7]:=⟨_,rfl⟩
  have hnext:nE W s (i+1)=[(one+two)%iW,v0,v1,v2,(v3+one)%iW,v4,v5,v6]:=by rw[hnext,hone,htwo]<;>rfl
  have hone:one=((((v7+YI v4 6 11 25)%iW+((v4&&&v5)^^^((4294967295^^^v4)&&&v6)))%iW+K)%iW+Wi)%iW:=hone
  have htwo:two=(YI v0 2 13 22+((v0&&&v1)^^^(v0&&&v2)^^^(v1&&&v2)))%iW:=htwo
  have c10:=q1.cell (off:=0)
  have c14:=q1.cell (off:=4)
  have c27:=q2.cell (off:=7)
  have c25:=q2.cell (off:=5)
  have c26:=q2.cell (off:=6)
  have c31:=q3.cell (off:=1)
  have c32:=q3.cell (off:=2)
  simp only[aJU,aLU,aJD,aJJ]at c10 c14 c27 c25 c26 c31 c32
  have t0:(0:Int).toNat=0:=rfl
  have t1:(1:Int).toNat=1:=rfl
  have t2:(2:Int).toNat=2:=rfl
  have t4:(4:Int).toNat=4:=rfl
  have t5:(5:Int).toNat=5:=rfl
  have t6:(6:Int).toNat=6:=rfl
  have t7:(7:Int).toNat=7:=rfl
  have g1:IntKind.u32.signed=false:=rfl
  have g2:IntKind.u32.max=4294967295:=rfl
  have e1:=yE b4 b5
  have n4:4294967295^^^v4<iW:=AR (by decide) b4
  have e2:afF .u32 (4294967295:Int) (v4:Int)=((4294967295^^^v4:Nat):Int):=fH (a:=4294967295) (by decide) b4
  have e3:=yE n4 b6
  have e4:=fH (CR v4 b5) (CR (4294967295^^^v4) b6)
  have e5:=yE b0 b1
  have e6:=yE b0 b2
  have e7:=yE b1 b2
  have e8:=fH (CR v0 b1) (CR v0 b2)
  have e9:=fH (AR (CR v0 b1) (CR v0 b2)) (CR v1 b2)
  have f1:=LS
  simp(disch:=omega)only[aA,eX,d1,uP,t0,aJG,t4,t7,aP,Result.ok.injEq,Next.value.injEq,and_true,t5,t6,fV,aJI,t1,t2,qI,qH,fT,dG,aI,gW,true_and,c10,bK,c14,c27,c25,c26,anZ,cN]
  refine(awO b4 ⟨by decide,by decide⟩ ⟨by decide,by decide⟩ ⟨by decide,by decide⟩ _).mono ?_
  rintro r w9 ⟨rfl,hw⟩
  rw[hw];clear hw w9
  simp(disch:=omega)only[c27,bK,fT,f1,c25,c26,g1,aJM,g2,if_false,e2,kk,Result.ok.injEq,Next.value.injEq,and_true,ww,c31,c32,aI,true_and,abB,e3,e1,RW,e4]
  rw[<-hone]
  refine(awO b0 ⟨by decide,by decide⟩ ⟨by decide,by decide⟩ ⟨by decide,by decide⟩ _).mono ?_
  rintro r w9 ⟨rfl,hw⟩
  rw[hw];clear hw w9
  have sh1:GK ⟨v,0,none⟩ 8 1 1=⟨v,0+1,none⟩:=VY (by omega)
  have sh0:GK ⟨v,0,none⟩ 8 0 1=⟨v,0+0,none⟩:=VY (by omega)
  simp(disch:=omega)only[c31,bK,c32,sh1,aJG,sh0,aI,true_and,abB,e7,Result.ok.injEq,Next.value.injEq,and_true,e6,e5,RW,e8,e9,fT,f1]
  rw[<-htwo]
  have q4:=dB q3
  have src:Sl (dr (dr (dr (dr w8)))) (.slice (some ⟨v,0,none⟩) (7-0) (8-0)) ([v0,v1,v2,v3,v4,v5,v6].map u32):=by
   refine⟨_,_,_,rfl,rfl,by omega,λ_=>⟨_,_,rfl,λk hk=> ?_⟩⟩
   rw[aJG,q4.cell]
   have hk:k<7:=hk
   match k,hk with
   |0,_=>rfl
   |1,_=>rfl
   |2,_=>rfl
   |3,_=>rfl
   |4,_=>rfl
   |5,_=>rfl
   |6,_=>rfl
  refine apT (off:=1) q4 (by simp) src (KF _) λw9 o9 x9 s9=> ?_
  have o9:bD w9 v ([v0,v0,v1,v2,v3,v4,v5,v6].map u32):=o9
  have c4:=o9.cell (off:=4)
  simp only[aJU,aLU,aJD,aJJ]at c4
  simp(disch:=omega)only[c4,bK,aI,fT,f1]
  refine tE o9 rfl (by simp) λw10 o10 x10 s10=> ?_
  refine tE o10 rfl (by simp) λw11 o11 x11 s11=> ?_
  refine⟨64-(i+1),by omega,i+1,rfl,rfl,by omega, ?_,((((((x8.seq (aL.dr _ _)).seq (aL.dr _ _)).seq (aL.dr _ _)).seq (aL.dr _ _)).seq x9).seq x10).seq x11⟩
  rw[hnext]
  exact o11
 have d1:decide ((i:Int)<64)=false:=by simp;omega
 obtain rfl:i=64:=by omega
 simp(disch:=omega)only[aA,eX,d1,uP,aJG,aP,Result.ok.injEq,Next.value.injEq,and_true,qI,qH,fT,dG,aI,gW,true_and,bH]
 obtain⟨V,hV⟩:∃V,V=nE W s 64:=⟨_,rfl⟩
 rw[<-hV]at o8 hl8 hlt8 hwith
 unfold Dv Du Kw xQ
 refine bM.rule (λm (t:aL1) w'=>∃i:Nat,m=8-i/\t= .int .i64 (i:Nat)/\i<=8/\bD w' v ((zQ V s i).map u32)/\aL w7 w' (λy=>y=v)) 8 ⟨0,rfl,rfl,by omega,by rw[akV];exact o8,x8⟩ ?_
 clear o8 x8
 rintro m t w8 ⟨i,rfl,rfl,hi,o8,x8⟩
 unfold Dt
 have hl9:(zQ V s i).length=8:=by rw[EM,hl8]
 by_cases hlt:i<8
 .have d1:decide ((i:Int)<8)=true:=by simp;omega
  have e1:bD w8 n (s.map u32):=a1.ext x8 (by omega)
  have q1:=dB o8
  have q2:=dB e1
  have c1:=o8.cell (off:=i)
  have c2:=e1.cell (off:=i)
  have c1':=q1.cell (off:=i)
  have c2':=q2.cell (off:=i)
  rw[xS (by omega),aoW (by omega)]at c1 c1'
  rw[xS (by omega)]at c2 c2'
  have f1:=LS
  simp(disch:=omega)only[aA,eX,d1,uP,aJI,aJG,fT,dG,aI,true_and,gW,c1',bK,c2',f1,cN]
  refine tE (by first|exact q1|exact o8) rfl (by rw[aJC];omega) λw9 o9 x9 s9=> ?_
  refine⟨8-(i+1),by omega,i+1,rfl,rfl,by omega, ?_,by first|exact(x8.seq (aL.dr _ _)).seq x9|exact x8.seq x9⟩
  rw[<-aoX (by omega),aKW]
  exact o9
 have d1:decide ((i:Int)<8)=false:=by simp;omega
 obtain rfl:i=8:=by omega
 simp(disch:=omega)only[aA,eX,d1,fT,dG,aI,true_and,bH]
 unfold Ds
 rw[<-hwith]at o8 hl9
 have lv:=Ld (off:=0) o8 (by rw[aJC];omega)
 rw[aJY,aJH (by rw[aJC];omega)]at lv
 have a3:=a3.ext x8 (by omega)
 simp(disch:=omega)only[aA,lv,aI]
 refine LI a3 (by simp[hl9]) (λy hy=>KF _ y (by simpa using hy)) (by simp) λw9 o9 x9 s9=> ?_
 have hset:eI (List.replicate 8 (Value.int .u32 0)) 0 ((KG s b).map u32).toArray.toList=(KG s b).map u32:=by
  rw[aJZ]
  have:=jN ((KG s b).map u32) [] (List.replicate 8 (Value.int .u32 0)) (by rw[aJC,hl9];decide)
  rw[aJ1,aJ1,aKD,aJC,hl9]at this
  rw[this];simp
 rw[hset]at o9
 refine alW o9 (by rw[aJC];omega) ?_
 rw[aJY,aJH (by rw[aJC];omega)]
 exact⟨rfl,(x07.trans x8 λy hy h=>by omega).trans x9 λy hy h=>by omega⟩
def VV(vs:List Nat)(kept:List UInt8)(n all:Nat):List aL1:=vs.map u32++(kept.map gT++[.int .i64 (n:Int),.int .u64 (all:Int)])
theorem Dq{vs:List Nat}{kept:List UInt8}{n all:Nat}(h1:vs.length=8)(h2:kept.length=64):(VV vs kept n all).length=74:=by simp[VV,h1,h2]
theorem aIb{vs:List Nat}{kept:List UInt8}{n all:Nat}(i:Nat)(h:i<vs.length):(VV vs kept n all)[i]?=some (u32 (vs.getD i 0)):=by
 unfold VV;rw[aJ0 (by simpa using h),xS h]
theorem aA2 {vs:List Nat}{kept:List UInt8}{n all:Nat}(h1:vs.length=8)(h2:kept.length=64):(VV vs kept n all)[72]?=some (.int .i64 (n:Int)):=by
 unfold VV
 rw[aJ2 (by simp[h1]),aJC,h1,aJ2 (by simp[h2]),aJC,h2]<;>rfl
theorem aA1 {vs:List Nat}{kept:List UInt8}{n all:Nat}(h1:vs.length=8)(h2:kept.length=64):(VV vs kept n all)[73]?=some (.int .u64 (all:Int)):=by
 unfold VV
 rw[aJ2 (by simp[h1]),aJC,h1,aJ2 (by simp[h2]),aJC,h2]<;>rfl
theorem aoO{vs:List Nat}{kept:List UInt8}{n all:Nat}(h1:vs.length=8)(h2:kept.length=64)(m:Nat):(VV vs kept n all).set 72 (.int .i64 (m:Int))=VV vs kept m all:=by
 unfold VV
 rw[aKj _ _ (by simp[h1]),aJC,h1,aKj _ _ (by simp[h2]),aJC,h2]<;>rfl
theorem avX{vs:List Nat}{kept:List UInt8}{n all:Nat}(h1:vs.length=8)(h2:kept.length=64)(m:Nat):(VV vs kept n all).set 73 (.int .u64 (m:Int))=VV vs kept n m:=by
 unfold VV
 rw[aKj _ _ (by simp[h1]),aJC,h1,aKj _ _ (by simp[h2]),aJC,h2]<;>rfl
theorem aIa{vs:List Nat}{kept:List UInt8}{n all:Nat}(h1:vs.length=8):((VV vs kept n all).drop 0).take 8=vs.map u32:=by
 unfold VV
 rw[aJY,aKh (by rw[aJC];omega),aJH (by rw[aJC];omega)]
theorem aEg{vs:List Nat}{kept:List UInt8}{n all:Nat}(h1:vs.length=8)(h2:kept.length=64):((VV vs kept n all).drop 8).take 64=kept.map gT:=by
 unfold VV
 rw[aKo (by rw[aJC];omega),aKw (by rw[aJC];omega),aJ1,aKh (by rw[aJC];omega),aJH (by rw[aJC];omega)]
theorem aB9 {vs us:List Nat}{kept:List UInt8}{n all:Nat}(h1:vs.length=8)(h3:us.length=8):eI (VV vs kept n all) 0 (us.map u32)=VV us kept n all:=by
 unfold VV
 have:=jN (us.map u32) [] (vs.map u32++(kept.map gT++[.int .i64 (n:Int),.int .u64 (all:Int)])) (by rw[aJF,aJC,aJC];omega)
 rw[aJ1,aJ1,aKD,aJC]at this
 rw[this,aKo (by rw[aJC];omega),aKw (by rw[aJC];omega),aJ1]
def lay(l:List UInt8)(o:Nat)(x:List UInt8):List UInt8:=l.take o++x++l.drop (o+x.length)
theorem aFn{l:List UInt8}{o:Nat}{x:List UInt8}(h:o+x.length<=l.length):(lay l o x).length=l.length:=by
 simp[lay];omega
theorem aFT{vs:List Nat}{kept:List UInt8}{n all o:Nat}{x:List UInt8}(h1:vs.length=8)(h:o+x.length<=kept.length):eI (VV vs kept n all) (8+o) (x.map gT)=VV vs (lay kept o x) n all:=by
 have e:VV vs kept n all=(vs.map u32++(kept.take o).map gT)++((kept.drop o).map gT++[.int .i64 (n:Int),.int .u64 (all:Int)]):=by
  unfold VV
  rw[aJW,<-aJW (List.map gT (kept.take o)),<-aKb,aKN]
 have:=jN (x.map gT) (vs.map u32++(kept.take o).map gT) ((kept.drop o).map gT++[.int .i64 (n:Int),.int .u64 (all:Int)]) (by rw[aJF,aJC,aJC,aJS];omega)
 rw[aJF,aJC,aJC,aJP,aJ5 (by omega),h1]at this
 rw[e,this]
 unfold VV lay
 rw[aJC,aKo (by rw[aJC,aJS];omega),<-aLj,aLf,aKb,aKb]
 simp only[aJW]
def CO(w:aL0)(b:Nat)(L:List UInt8)(all:Nat):Prop:=
 ∃kept,kept.length=64/\kept.take (L.length%64)=L.drop (64*(L.length/64))/\bD w b (VV (Hf (L.length/64) L) kept (L.length%64) all)
theorem CO.ext {w w':aL0}{b all:Nat}{L:List UInt8}{M:Nat->Prop}(h:CO w b L all)(x:aL w w' M)(hM:¬M b):CO w' b L all:=by
 obtain⟨kept,h1,h2,h3⟩:=h
 exact⟨kept,h1,h2,h3.ext x hM⟩
theorem CO.lt {w:aL0}{b all:Nat}{L:List UInt8}(h:CO w b L all):b<w.heap.size:=by
 obtain⟨kept,h1,h2,h3⟩:=h
 exact h3.lt
theorem aEh(w:aL0):aG pg Th #[] w (λv w'=>v= .pointer (some ⟨w.heap.size,0,none⟩)/\CO w' w.heap.size [] 0/\aL w w' aT/\w'.heap.size=w.heap.size+1):=by
 refine arD ?_
 unfold aA3 akF
 simp(disch:=omega)only[SV]
 refine cA λw1 o1 x1 s1=>⟨rfl,⟨List.replicate 64 0,rfl,rfl, ?_⟩,x1,s1⟩
 exact o1
theorem amV{w0:aL0}{b all:Nat}{L l:List UInt8}{R:aL0->Prop}(hg:nQ w0)(hb0:0≠b/\1≠b)(hlen:L.length+l.length<=1099511627776)
 (hR:∀w',CO w' b (L++l) all->aL w0 w' (λx=>x=b)->R w') {v:aL1} {w:aL0}
 (h:CO w b L all) (hv:Bs w v l) (hb:¬fK v (λx=>x=b)) (hx:aL w0 w (λx=>x=b)):
 nF R (.pointer (some ⟨b,0,none⟩)) v w:=by
 unfold nF
 refine bM.rule (λn t w'=>∃m:Nat,m<=l.length/\n=l.length-m/\Bs w' t (l.drop m)/\¬fK t (λx=>x=b)/\CO w' b (L++l.take m) all/\aL w0 w' (λx=>x=b)) l.length
  ⟨0,by omega,rfl,hv,hb,by simpa using h,hx⟩ ?_
 clear h hv hb hx
 rintro n t w' ⟨m,hm,rfl,hv,hb,⟨kept,h2,hk,ho⟩,hx⟩
 have hv':=hv
 obtain⟨a,n,c,rfl,hn,hc,hcell⟩:=hv'
 rw[aJC,aJS]at hn
 unfold Dr
 by_cases hlt:m<l.length
 .obtain ⟨b',o',rfl,hcell'⟩:=hcell (by omega)
  have hd:decide ((0:Int)<(n:Int))=true:=by simp;omega
  have hM:(L++l.take m).length=L.length+m:=by simp;omega
  rw[hM]at hk ho
  obtain⟨q,hq⟩:∃q,q=(L.length+m)/64:=⟨_,rfl⟩
  obtain⟨r,hr⟩:∃r,r=(L.length+m)%64:=⟨_,rfl⟩
  rw[<-hq,<-hr]at hk ho
  have hqr:L.length+m=64*q+r/\r<64:=by omega
  have h1:(Hf q (L++l.take m)).length=8:=AZ _ _
  have hod:=dB ho
  have c72:=hod.cell (off:=72)
  rw[aA2 h1 h2]at c72
  have sh:=VY (b:=b) (o:=8) (show r≠64 by omega)
  have hvd:Bs (dr w') (.slice (some ⟨b',o',none⟩) n c) (l.drop m):=hv.ext (aL.dr w' aT) (by unfold fK aT;split<;>simp)
  simp(disch:=omega)only[SV,hd,c72,sh]
  refine J6 hod (by rw[Dq h1 h2];omega) hvd (Eg _) λw1 o1 x1 s1=> ?_
  obtain⟨u,hu⟩:∃u,u=min n (64-r):=⟨_,rfl⟩
  have hlm:(List.map gT (l.drop m)).length=n:=by rw[aJC,aJS,hn]
  rw[hlm]at o1⊢
  rw[<-hu]at o1⊢
  have hu1:u<=n/\u<=64-r/\(u=n∨u=64-r):=by omega
  have hul:((l.drop m).take u).length=u:=by rw[aJP,aJS];omega
  rw[<-aLD,aFT h1 (by omega)]at o1
  obtain⟨kept1,hk1⟩:∃x,x=lay kept r ((l.drop m).take u):=⟨_,rfl⟩
  rw[<-hk1]at o1
  have h21:kept1.length=64:=by rw[hk1,aFn (by omega)];exact h2
  have c1:=o1.cell (off:=72)
  rw[aA2 h1 h21]at c1
  have e1:(r:Int)+(u:Int)=((r+u:Nat):Int):=by omega
  simp(disch:=omega)only[SV,c1,e1]
  refine DD o1 rfl (by rw[Dq h1 h21];omega) λw2 o2 x2 s2=> ?_
  rw[aoO h1 h21]at o2
  have hx2:aL w' w2 (λx=>x=b):=((aL.dr w' _).seq x1).seq x2
  have hv2:=hv.ext hx2 hb
  have hv3:=hv2.drop hu1.1
  have hb3:=aBD (k:=u) hb (by omega) (n-u)
  rw[<-aLj,aLf]at hv3
  have hM2:L++l.take (m+u)=(L++l.take m)++(l.drop m).take u:=by rw[aJW,List.take_add]
  have hacc:Hf q (L++l.take (m+u))=Hf q (L++l.take m):=by rw[hM2];exact aaJ _ _ _ (by omega)
  have hlen2:(L++l.take (m+u)).length=L.length+(m+u):=by simp;omega
  have hkeep:kept1.take (r+u)=(L++l.take (m+u)).drop (64*q):=by
   rw[hk1,hM2,aKo (by omega),<-hk]
   unfold lay
   rw[aKh (by simp;omega),aJH (by simp;omega)]
  rw[<-hacc]at o2
  have h11:=AZ q (L++l.take (m+u))
  have c2:=o2.cell (off:=72)
  rw[aA2 h11 h21]at c2
  by_cases hfull:r+u=64
  .have he:(((r+u:Nat):Int)==64)=true:=by rw[hfull]<;>rfl
   have od:=dB o2
   have ls:=Ld (off:=0) od (by rw[Dq h11 h21];omega)
   have lk:=RB (off:=8) od (by rw[Dq h11 h21];omega)
   rw[aIa h11]at ls
   rw[aEg h11 h21]at lk
   simp(disch:=omega)only[SV,c2,he,ls,lk]
   rw[hfull]at hkeep
   refine(aCa (hg.extM ((hx.seq hx2).seq (aL.dr _ _)) hb0.1 hb0.2) h11 (Wd _ _) h21).mono ?_
   rintro r' w3 ⟨rfl,x3⟩
   have o3:=od.ext x3 (λh=>h)
   have h13:=apB kept1 h11
   refine LI o3 (by simp[h13]) (λy hy=>KF _ y (by simpa using hy)) (by rw[Dq h11 h21];omega) λw4 o4 x4 s4=> ?_
   rw[aJZ,aB9 h11 h13]at o4
   refine DD o4 rfl (by rw[Dq h13 h21];omega) λw5 o5 x5 s5=> ?_
   have o5:bD w5 b ((VV (KG (Hf q (L++l.take (m+u))) kept1) kept1 (r+u) all).set 72 (.int .i64 ((0:Nat):Int))):=o5
   rw[aoO h13 h21]at o5
   have hx4:aL w2 w5 (λx=>x=b):=(((aL.dr w2 _).seq (x3.mono λ_ _ h=>h.elim)).seq x4).seq x5
   have hkk:kept1=(L++l.take (m+u)).drop (64*q):=by rw[<-hkeep,aJH (by omega)]
   refine⟨l.length-(m+u),by omega,m+u,by omega,rfl,hv3.ext hx4 hb3,hb3,⟨kept1,h21, ?_, ?_⟩,(hx.seq hx2).seq hx4⟩
   .have z:(L++l.take (m+u)).drop (64*((L.length+(m+u))/64))=[]:=List.drop_eq_nil_of_le (by rw[hlen2];omega)
    have z1:(L.length+(m+u))%64=0:=by omega
    rw[hlen2,z,z1]<;>rfl
   .have z1:(L.length+(m+u))%64=0:=by omega
    have z2:(L.length+(m+u))/64=q+1:=by omega
    have z3:kept1.take 64=kept1:=aJH (by omega)
    rw[hlen2,z1,z2,Hf,<-hkk,z3]
    exact o5
  .have he:(((r+u:Nat):Int)==64)=false:=by rw[beq_eq_false_iff_ne];omega
   simp(disch:=omega)only[SV,c2,he]
   refine⟨l.length-(m+u),by omega,m+u,by omega,rfl,hv3,hb3,⟨kept1,h21, ?_, ?_⟩,hx.seq hx2⟩
   .rw [hlen2,show(L.length+(m+u))%64=r+u from by omega,show(L.length+(m+u))/64=q from by omega];exact hkeep
   .rw [hlen2,show(L.length+(m+u))%64=r+u from by omega,show(L.length+(m+u))/64=q from by omega];exact o2
 .have hd:decide ((0:Int)<(n:Int))=false:=by simp;omega
  have e:l.take m=l:=aJH (by omega)
  rw[e]at hk ho
  simp(disch:=omega)only[SV,hd]
  exact hR _ ⟨kept,h2,hk,ho⟩ hx
theorem akE{b all:Nat}{L l:List UInt8}{v:aL1}{w:aL0}(hg:nQ w)(hb0:0≠b/\1≠b)(hlen:L.length+l.length<=1099511627776)(hall:all+l.length<=1099511627776)(h:CO w b L all)(hv:Bs w v l)(hb:¬fK v (λx=>x=b)):
 aG pg iT #[.pointer (some ⟨b,0,none⟩),v] w (λr w'=>r= .tuple #[]/\CO w' b (L++l) (all+l.length)/\aL w w' (λx=>x=b)):=by
 refine Ug ?_
 unfold SM Kv Ku
 obtain⟨kept,h2,hk,ho⟩:=h
 have h1:=AZ (L.length/64) L
 obtain⟨va,vc,rfl,_⟩:=hv.len
 rw[aJC]at hv hb⊢
 have c73:=ho.cell (off:=73)
 rw[aA1 h1 h2]at c73
 have e1:(all:Int)+(l.length:Int)=((all+l.length:Nat):Int):=by omega
 simp(disch:=omega)only[SV,c73,e1]
 refine MU ho rfl (by rw[Dq h1 h2];omega) λw1 o1 x1 s1=> ?_
 rw[avX h1 h2]at o1
 unfold nF
 exact amV hg hb0 hlen (λw' h' x'=>⟨h',x'⟩) ⟨kept,h2,hk,o1⟩ (hv.ext x1 hb) hb x1
theorem aGY{w:aL0}{b:Nat}{x:UInt8}(o:bD w b [.int .u8 (x.toNat:Nat)]):Bs w (.slice (some ⟨b,0,none⟩) 1 1) [x]:=bD.bs (l:=[x]) (off:=0) (c:=1) o (by simp) λi hi=>by
 have hi:i<1:=hi
 obtain rfl:i=0:=by omega
 rfl
theorem akG{w:aL0}{b all:Nat}{L:List UInt8}{x:Nat}(hx:x<256){K:aL1->aL0->Prop}(hg:nQ w)(hb0:0≠b/\1≠b)(hlen:L.length+1<=1099511627776)(hall:all+1<=1099511627776)(h:CO w b L all)
 (hK:∀w',CO w' b (L++[UInt8.ofNat x]) (all+1)->aL w w' (λy=>y=b)->K (.tuple #[]) w'):
 aA pg (bB 22 1 [(0,.int .u8 (x:Nat))]) w λt w=>aG pg iT #[.pointer (some ⟨b,0,none⟩),t] w K:=by
 refine mH (cells:= #[.int .u8 (x:Nat)]) (by decide) (by decide) (by kernel_rfl) λw1 o1 x1 s1=> ?_
 have hbl:=h.lt
 have hxx:(UInt8.ofNat x).toNat=x:=by rw[aKZ];omega
 have o1:bD w1 w.heap.size [.int .u8 ((UInt8.ofNat x).toNat:Nat)]:=by rw[hxx];exact o1
 refine(akE (hg.ext x1) hb0 (l:=[UInt8.ofNat x]) hlen hall (h.ext x1 (λh=>h)) (aGY o1) (λhi=> ?_)).mono ?_
 .have hi:w.heap.size=b:=hi
  omega
 rintro r w2 ⟨rfl,h2,x2⟩
 exact hK w2 h2 ((x1.mono λ_ _ h=>h.elim).seq x2)
theorem uZ(xs cs:List aL1)(h:cs.length=xs.length):eI cs 0 xs=xs:=by
 have:=jN xs [] cs (by omega)
 rw[aJ1,aKw (by omega),aKf,aJ1]at this
 exact this
theorem aHA(n k:Nat)(hk:k<=(119-n%64)%64):((n+1+k)%64=56)↔k=(119-n%64)%64:=by omega
theorem aEi{b:Nat}{L:List UInt8}{w:aL0}(hg:nQ w)(hlen:L.length<=1000000000)(h:CO w b L L.length):
 aG pg CI #[.pointer (some ⟨b,0,none⟩)] w (λr w'=>r= .agg ((Yw L).map gT).toArray/\aL w w' aT):=by
 refine Yy ?_
 obtain⟨RR,hRR⟩:∃RR:aL1->aL0->Prop,RR=λr w'=>r= .agg ((Yw L).map gT).toArray/\aL w w' aT:=⟨_,rfl⟩
 rw[<-hRR]
 unfold Yx MM ML
 obtain⟨hg0,hg1⟩:=hg.lt
 have hbl:=h.lt
 refine BI λw1 o1 x1 s1=> ?_
 obtain⟨p,hp⟩:∃p,p=w.heap.size:=⟨_,rfl⟩
 rw[<-hp]at o1⊢
 have o1:bD w1 p (List.replicate 32 (.int .u8 0)):=o1
 obtain⟨kept,h2,hk,ho⟩:=h.ext x1 (λh=>h)
 have h1:=AZ (L.length/64) L
 have la:=aqG (off:=0) ho (by rw[Dq h1 h2];omega)
 rw[aJY,aJH (by rw[Dq h1 h2];omega)]at la
 simp(disch:=omega)only[SV,la]
 refine asD λw2 o2 x2 s2=> ?_
 obtain⟨q,hq⟩:∃q,q=w1.heap.size:=⟨_,rfl⟩
 rw[<-hq]at o2⊢
 have hone:∀y∈(VV (Hf (L.length/64) L) kept (L.length%64) L.length).toArray.toList,one y=true:=λy hy=>by
  rw[aJZ]at hy
  unfold VV at hy
  rcases aKg.1 hy with h|h
  .exact KF _ y h
  .rcases aKg.1 h with h|h
   .obtain ⟨z,-,rfl⟩:=aKq.1 h;rfl
   .simp only[aJK,List.not_mem_nil,or_false]at h
    rcases h with rfl|rfl<;>rfl
 refine arG o2 (by rw[aKL,Dq h1 h2]) hone (by simp) λw3 o3 x3 s3=> ?_
 have o3:bD w3 q (VV (Hf (L.length/64) L) kept (L.length%64) L.length):=by
  rw[aJZ,uZ _ _ (by rw[Dq h1 h2]<;>rfl)]at o3
  exact o3
 have z1:w1.heap.size=p+1:=by omega
 have hqp:q=p+1:=by omega
 have x03:aL w w3 aT:=(x1.seq x2).trans x3 λy hy h=>by omega
 have hS3:CO w3 q L L.length:=⟨kept,h2,hk,o3⟩
 have r3:=(o1.ext x2 (λh=>h)).ext x3 (show¬p=q by omega)
 have bh3:CO w3 b L L.length:=h.ext x03 (λh=>h)
 have hb0:0≠q/\1≠q:=⟨by omega,by omega⟩
 clear o1 o2 o3 x1 x2 x3 s1 s2 s3 la hone ho
 have keep:∀{w':aL0} {x:aL1},aL w3 w' (λy=>y=q)->nQ w'/\bD w' p (List.replicate 32 (.int .u8 0))/\CO w' b L L.length/\aL w w' aT:=λ{w' x} hx=>
  ⟨hg.ext (x03.trans hx λy hy h=>by omega),r3.ext hx (by omega),bh3.ext hx (by omega),x03.trans hx λy hy h=>by omega⟩
 refine akG (x:=128) (by decide) (hg.ext x03) hb0 (by omega) (by omega) hS3 λw4 h4 x4=> ?_
 unfold EG Ax
 obtain⟨z,hz⟩:∃z,z=(119-L.length%64)%64:=⟨_,rfl⟩
 refine bM.rule (λm (t:Unit) w'=>∃(k all:Nat),m=z-k/\k<=z/\all=L.length+1+k/\CO w' q (L++[128]++List.replicate k 0) all/\aL w3 w' (λy=>y=q)) z ⟨0,_,rfl,by omega,rfl,by simpa using h4,x4⟩ ?_
 clear h4 x4
 rintro m _ w5 ⟨k,all,rfl,hkz,rfl,h5,x5⟩
 unfold EF
 have hlk:(L++[128]++List.replicate k (0:UInt8)).length=L.length+1+k:=by simp;omega
 have c72:w5.cell? ⟨q,72,none⟩=some (.int .i64 (((L.length+1+k)%64:Nat):Int)):=by
  obtain⟨kp,g2,gk,go⟩:=h5
  rw[go.cell,aA2 (AZ _ _) g2,hlk]
 obtain⟨hg5,r5,bh5,x05⟩:=keep (x:=undef) x5
 by_cases hlt:k<z
 .have d1:((((L.length+1+k)%64:Nat):Int) !=56)=true:=by
   rw[bne_iff_ne]
   have:=aHA L.length k (by omega)
   omega
  simp(disch:=omega)only[SV,c72,d1]
  refine akG (x:=0) (by decide) hg5 hb0 (by rw[hlk];omega) (by omega) h5 λw6 h6 x6=> ?_
  refine⟨z-(k+1),by omega,k+1,L.length+1+(k+1),rfl,by omega,rfl, ?_,x5.seq x6⟩
  rw[aLW,<-aJW]
  exact h6
 have d1:((((L.length+1+k)%64:Nat):Int) !=56)=false:=by
  rw[bne_eq_false_iff_eq]
  have:=(aHA L.length k (by omega)).2 (by omega)
  omega
 obtain rfl:k=z:=by omega
 simp(disch:=omega)only[SV,c72,d1]
 obtain⟨B,hB⟩:∃B,B=L++[128]++List.replicate k (0:UInt8):=⟨_,rfl⟩
 rw[<-hB]at h5 hlk
 unfold EE ED MK Aw
 refine bM.rule (λm (t:aL1) w'=>∃(j:Nat),m=8-j/\j<=8/\t= .int .i64 (56-8*(j:Int))/\CO w' q (B++beN (8*L.length) j) (L.length+1+k+j)/\aL w3 w' (λy=>y=q)) 8 ⟨0,rfl,by omega,rfl,by simpa[beN]using h5,x5⟩ ?_
 clear c72 d1 h5 x5 hg5 r5 bh5 x05 hlt
 rintro m t w6 ⟨j,rfl,hj,rfl,h6,x6⟩
 unfold EC
 obtain⟨hg6,r6,bh6,x06⟩:=keep (x:=undef) x6
 by_cases hlt:j<8
 .have d1:decide ((0:Int)<=56-8*(j:Int))=true:=by simp;omega
  have c73:w6.cell? ⟨b,73,none⟩=some (.int .u64 (L.length:Nat)):=by
   obtain⟨kp,g2,gk,go⟩:=bh6
   rw[go.cell,aA1 (AZ _ _) g2]
  have e1:(8:Int)*(L.length:Int)=((8*L.length:Nat):Int):=by omega
  have e2:(56-8*(j:Int)).toNat=56-8*j:=by omega
  have b64:IntKind.u64.bits=64:=rfl
  have m1:min (56-8*j) IntKind.u64.bits=56-8*j:=by rw[b64];omega
  have e3:=LG (8*L.length) (56-8*j)
  have e4:IntKind.u8.wrap ((8*L.length/2^(56-8*j):Nat):Int)=((8*L.length/2^(56-8*j)%256:Nat):Int):=by
   generalize 8*L.length/2^(56-8*j)=y
   rw[show IntKind.u8.wrap (y:Int)=(y:Int)%256 from rfl];omega
  have e5:56-8*(j:Int)-8=56-8*((j+1:Nat):Int):=by omega
  have hBl:(B++beN (8*L.length) j).length=L.length+1+k+j:=by rw[aJF,hlk,afH]
  simp(disch:=omega)only[SV,d1,c73,e1,e2,m1,e3,e4,e5]
  refine akG (x:=8*L.length/2^(56-8*j)%256) (aLo _ (by decide)) hg6 hb0 (by rw[hBl];omega) (by omega) h6 λw7 h7 x7=> ?_
  refine⟨8-(j+1),by omega,j+1,rfl,by omega,rfl, ?_,x6.seq x7⟩
  rw[asH,<-aJW]
  exact h7
 have d1:decide ((0:Int)<=56-8*(j:Int))=false:=by simp;omega
 obtain rfl:j=8:=by omega
 simp(disch:=omega)only[SV,d1]
 have hpad:B++beN (8*L.length) 8=ayK L:=by rw[hB,hz]<;>rfl
 rw[hpad]at h6
 have hpl:(ayK L).length%64=0:=by
  rw[<-hpad,aJF,hlk,afH]
  have:=(aHA L.length k (by omega)).2 hz
  omega
 obtain⟨st,hst⟩:∃st,st=Hf ((ayK L).length/64) (ayK L):=⟨_,rfl⟩
 have hstl:st.length=8:=by rw[hst];exact AZ _ _
 have hst32:CL st:=by rw[hst];exact Wd _ _
 have hsha:Yw L=Zz st 32:=by rw[hst]<;>rfl
 obtain⟨kp,g2,gk,go⟩:=h6
 rw[<-hst]at go
 clear d1 hlt hj hpad gk bh6 hg6
 unfold GJ Pp
 refine BI λw7 o7 x7 s7=> ?_
 have o7:bD w7 w6.heap.size (List.replicate 32 (.int .u8 0)):=o7
 obtain⟨u,hu⟩:∃u,u=w6.heap.size:=⟨_,rfl⟩
 rw[<-hu]at o7⊢
 have q7:=go.ext x7 (λh=>h)
 have r7:=r6.ext x7 (λh=>h)
 have x07:=x06.seq x7
 have hql:=go.lt
 have hpl2:=r6.lt
 clear x6 x06 go r6 x7
 unfold GI GH Po BE
 refine bM.rule (λm (t:aL1) w'=>∃(i:Nat),m=32-i/\i<=32/\t= .int .i64 (i:Nat)/\bD w' u ((Zz st i).map gT++List.replicate (32-i) (.int .u8 0))/\aL w7 w' (λy=>y=u)) 32 ⟨0,rfl,by omega,rfl,o7,aL.refl _ _⟩ ?_
 clear o7
 rintro m t w8 ⟨i,rfl,hi,rfl,o8,x8⟩
 unfold GG
 have q8:=q7.ext x8 (show¬q=u by omega)
 by_cases hlt:i<32
 .have d1:decide ((i:Int)<32)=true:=by simp;omega
  have e1:(i:Int).tdiv 4=((i/4:Nat):Int):=by rw[aLC (by omega)];omega
  have e2:(i:Int).tmod 4=((i%4:Nat):Int):=by rw[Int.tmod_eq_emod_of_nonneg (by omega)];omega
  have e3:(24:Int)-((i%4:Nat):Int)*8=((24-i%4*8:Nat):Int):=by omega
  have c8:=q8.cell (off:=i/4)
  rw[aIb _ (by omega)]at c8
  have b32:IntKind.u32.bits=32:=rfl
  have m1:min (24-i%4*8) IntKind.u32.bits=24-i%4*8:=by rw[b32];omega
  have e4:=LG (st.getD (i/4) 0) (24-i%4*8)
  obtain⟨y,hy⟩:∃y,y=UInt8.ofNat (st.getD (i/4) 0/2^(24-i%4*8)%256):=⟨_,rfl⟩
  have e5:IntKind.u8.wrap ((st.getD (i/4) 0/2^(24-i%4*8):Nat):Int)=((y.toNat:Nat):Int):=by
   rw[hy,aKZ]
   generalize st.getD (i/4) 0/2^(24-i%4*8)=z
   rw[show IntKind.u8.wrap (z:Int)=(z:Int)%256 from rfl];omega
  simp(disch:=omega)only[SV,d1,e1,e2,e3,c8,m1,e4,e5]
  refine akQ o8 rfl (by rw[aJF,aJC,IW,aJ9];omega) λw9 o9 x9 s9=> ?_
  refine⟨32-(i+1),by omega,i+1,rfl,by omega,rfl, ?_,x8.seq x9⟩
  have e6:((Zz st i).map gT++List.replicate (32-i) (Value.int .u8 0)).set i (.int .u8 (y.toNat:Nat))=(Zz st (i+1)).map gT++List.replicate (32-(i+1)) (.int .u8 0):=by
   rw[aKj _ _ (by rw[aJC,IW];omega),aJC,IW,aKT,show 32-i=(32-(i+1))+1 from by omega,aLH,aJV,anX,<-hy,aKb,aJW]
   rfl
  rw[e6]at o9
  exact o9
 have d1:decide ((i:Int)<32)=false:=by simp;omega
 obtain rfl:i=32:=by omega
 simp(disch:=omega)only[SV,d1]
 rw[<-hsha,aKT,aLt,aKf]at o8
 have hl32:((Yw L).map gT).length=32:=by rw[aJC,vS]
 unfold GF
 have lo:=aaW (off:=0) o8 (by omega)
 rw[aJY,aJH (by omega)]at lo
 have r8:=r7.ext x8 (show¬p=u by omega)
 simp(disch:=omega)only[SV,lo]
 refine F9 r8 (by rw[aKL,hl32]) (λy hy=>Eg _ y (by simpa using hy)) (by simp) λw9 o9 x9 s9=> ?_
 rw[aJZ,uZ _ _ (by rw[hl32];simp)]at o9
 refine FM o9 (by omega) ?_
 rw[aJY,aJH (by omega),hRR]
 exact⟨rfl,(x07.trans x8 λy hy h=>by omega).trans x9 λy hy h=>by omega⟩
theorem aFU{l:List UInt8}{v:aL1}{w:aL0}(hg:nQ w)(hv:Bs w v l)(hl:l.length<=1000000000):
 aG pg Qw #[v] w (λr w'=>r= .agg ((Yw l).map gT).toArray/\aL w w' aT):=by
 refine avY ?_
 unfold aEj aoQ
 refine BI λw1 o1 x1 s1=> ?_
 have o1:bD w1 w.heap.size (List.replicate 32 (.int .u8 0)):=o1
 obtain⟨hg0,hg1⟩:=hg.lt
 refine(aEh w1).mono ?_
 rintro r w2 ⟨rfl,h2,x2,s2⟩
 have hv2:=hv.ext (x1.seq x2) (bC _)
 have hnb:¬fK v (λy=>y=w1.heap.size):=λh=>hv.old (bO h λb hb=>by omega)
 refine(akE (L:=[]) (l:=l) (hg.ext (x1.seq x2)) ⟨by omega,by omega⟩ (by simp;omega) (by omega) h2 hv2 hnb).mono ?_
 rintro r w3 ⟨rfl,h3,x3⟩
 rw[aJ1,aJG]at h3
 have x03:aL w w3 aT:=(x1.seq x2).trans x3 λy hy h=>by omega
 refine(aEi (hg.ext x03) hl h3).mono ?_
 rintro r w4 ⟨rfl,x4⟩
 have hl32:((Yw l).map gT).length=32:=by rw[aJC,vS]
 have r4:=((o1.ext x2 (λh=>h)).ext x3 (by omega)).ext x4 (λh=>h)
 refine F9 r4 (by rw[aKL,hl32]) (λy hy=>Eg _ y (by simpa using hy)) (by simp) λw5 o5 x5 s5=> ?_
 rw[aJZ,uZ _ _ (by rw[hl32];simp)]at o5
 refine FM o5 (by omega) ?_
 rw[aJY,aJH (by omega)]
 exact⟨rfl,(x03.seq x4).trans x5 λy hy h=>by omega⟩
end Go.Proofs.YteelnmpbnaohpaaGreatDoor
namespace Go.Pu
def DL:List UInt8->Nat
 |[]=>0
 |c::l=>c.toNat+256*DL l
theorem Hl:∀l:List UInt8,DL l<256^l.length
 |[]=>by simp[DL]
 |c::l=>by
  have:=Hl l
  have hc:=c.toNat_lt
  rw[DL,aJX,aLr];omega
theorem Zx(c:UInt8):∀l:List UInt8,DL (l++[c])=DL l+256^l.length*c.toNat
 |[]=>by simp[DL]
 |d::l=>by
  rw[aLe,DL,Zx c l,DL,aJX,aLr,Nat.mul_add,aKy,aLL (256^l.length) 256,Nat.mul_assoc]
theorem ayP(i:Nat):256^i=2^(8*i):=by rw[Nat.pow_mul]
theorem aFz(l:List UInt8)(c:UInt8):DL l|||(c.toNat*2^(8*l.length))=DL (l++[c]):=by
 have:=Hl l
 rw[ayP]at this
 rw[aGZ this,Zx,ayP]
def vP(x:Nat):Nat->List UInt8
 |0=>[]
 |n+1=>UInt8.ofNat (x%256)::vP (x/256) n
theorem dX:∀(n x:Nat),(vP x n).length=n
 |0,_=>rfl
 |n+1,x=>by rw[vP,aJX,dX n]
theorem Zw:∀(n x:Nat),DL (vP x n)=x%256^n
 |0,x=>by simp[vP,DL,Nat.mod_one]
 |n+1,x=>by
  rw[vP,DL,Zw n,aLr,aLL (256^n) 256,Nat.mod_mul]
  have:(UInt8.ofNat (x%256)).toNat=x%256:=by
   rw[aKZ];omega
  rw[this]
theorem Tp:∀(n x:Nat),vP x (n+1)=vP x n++[UInt8.ofNat (x/256^n%256)]
 |0,x=>by simp[vP]
 |n+1,x=>by
  rw[vP,Tp n (x/256),vP,aLe,Nat.div_div_eq_div_mul,aLr,aLL (256^n) 256]
theorem aAC{n:Nat}(h:n<256):(UInt8.ofNat n).toNat=n:=by rw[aKZ];omega
section
variable(cf:List UInt8->Nat)
def FQ(k v:Nat):List UInt8:=vP k 1++vP v 8
def pA(k v:Nat):List UInt8:=FQ k v++vP (cf (FQ k v)) 4
theorem oX(k v:Nat):(pA cf k v).length=13:=by
 unfold pA FQ
 rw[aJF,aJF,dX,dX,dX]
def rdK(p:List UInt8):Nat:=DL (p.take 1)
def rdV(p:List UInt8):Nat:=if p.length<9 then 0 else DL ((p.drop 1).take 8)
def Me(p:List UInt8):Bool:=(rdK p==1||rdK p==2)&&pA cf (rdK p) (rdV p)==p
def P6:Nat->List UInt8->List (Nat×Nat)
 |0,_=>[]
 |n+1,b=>if b=[]then[]else if Me cf (b.take 13)then(rdK (b.take 13),rdV (b.take 13))::P6 n (b.drop 13)else[]
def gB(b:List UInt8):List (Nat×Nat):=P6 cf b.length b
def nS(l:List (Nat×Nat)):List UInt8:=(l.map λr=>pA cf r.1 r.2).flatten
theorem lX:∀l:List (Nat×Nat),(nS cf l).length=13*l.length
 |[]=>rfl
 |r::l=>by
  have:=lX l
  unfold nS at*
  rw[aJU,List.flatten_cons,aJF,oX,this,aJX];omega
theorem Tk{p:List UInt8}(h:Me cf p=true):p.length=13:=by
 unfold Me at h
 simp only[aJQ,beq_iff_eq]at h
 rw[<-h.2,oX]
theorem auZ{k:Nat}(v:Nat)(hk:k<256):rdK (pA cf k v)=k:=by
 have e:(pA cf k v).take 1=vP k 1:=by
  unfold pA FQ
  rw[aJW,aKh (by rw[dX];omega),aJH (by rw[dX];omega)]
 unfold rdK
 rw[e,Zw];omega
theorem avA(k:Nat){v:Nat}(hv:v<2^64):rdV (pA cf k v)=v:=by
 have e:((pA cf k v).drop 1).take 8=vP v 8:=by
  unfold pA FQ
  rw[aJW,aKo (by rw[dX];omega),aKw (by rw[dX];omega),aJ1,
    aKh (by rw[dX];omega),aJH (by rw[dX];omega)]
 unfold rdV
 rw[if_neg (by rw[oX];omega),e,Zw]
 exact aKl (by omega)
def okR(r:Nat×Nat):Prop:=(r.1=1∨r.1=2)/\r.2<2^64
theorem ayA{k v:Nat}(h:okR (k,v)):Me cf (pA cf k v)=true:=by
 obtain⟨hk,hv⟩:=h
 have hk:k=1∨k=2:=hk
 unfold Me
 rw[auZ cf v (by omega),avA cf k hv]
 simp;omega
theorem afR:∀(n:Nat) (b:List UInt8),∀r∈P6 cf n b,okR r
 |0,b,r,h=>by simp[P6]at h
 |n+1,b,r,h=>by
  rw[P6]at h
  split at h
  .simp at h
  .split at h
   .rename_i hg
    rcases aJK.1 h with rfl|h
    .have hl:=Tk cf hg
     unfold Me at hg
     simp only[aJQ,aKu,beq_iff_eq]at hg
     refine⟨hg.1, ?_⟩
     show rdV _<_
     unfold rdV
     split
     .omega
     .have:=Hl (((b.take 13).drop 1).take 8)
      refine aKe this ?_
      rw[show(2:Nat)^64=256^8 from by decide]
      exact aLb (by omega) (by rw[aJP];omega)
    .exact afR n _ r h
   .simp at h
theorem RC:∀(n:Nat) (b:List UInt8),13*(P6 cf n b).length<=b.length
 |0,b=>by simp[P6]
 |n+1,b=>by
  rw[P6]
  split
  .simp
  .split
   .rename_i hg
    have:=RC n (b.drop 13)
    have hl:=Tk cf hg
    rw[aJP]at hl
    rw[aJS]at this
    rw[aJX];omega
   .simp
theorem anQ:∀(l:List (Nat×Nat)) (n:Nat),(∀r∈l,okR r)->13*l.length<=n->P6 cf n (nS cf l)=l
 |[],n,_,_=>by cases n<;>simp[P6,nS]
 |r::l,0,_,h=>by simp at h
 |r::l,n+1,hl,h=>by
  have e:nS cf (r::l)=pA cf r.1 r.2++nS cf l:=rfl
  have h13:=oX cf r.1 r.2
  have h1:(nS cf (r::l)).take 13=pA cf r.1 r.2:=by rw[e,aKh (by omega),aJH (by omega)]
  have h2:(nS cf (r::l)).drop 13=nS cf l:=by rw[e,aKo (by omega),aKw (by omega),aJ1]
  have hne:nS cf (r::l)≠[]:=λh=>by have:=congrArg List.length h;rw[lX]at this;simp at this
  have ho:okR r:=hl r aJ7
  rw[aJX]at h
  rw[P6,if_neg hne,h1,h2,ayA cf ho,if_pos rfl,auZ cf _ (by have:=ho.1;omega),avA cf _ ho.2,anQ l n (λr hr=>hl r (aJT _ hr)) (by omega)]
theorem aBF{l:List (Nat×Nat)}(hl:∀r∈l,okR r):gB cf (nS cf l)=l:=anQ cf l _ hl (by rw[lX];omega)
theorem ayV(l:List (Nat×Nat))(r:Nat×Nat):nS cf (l++[r])=nS cf l++pA cf r.1 r.2:=by
 unfold nS
 rw[aKb,List.flatten_append]
 simp
end
def dU(k:Nat):List (Nat×Nat)->Nat
 |[]=>0
 |r::l=>if r.1=k then max r.2 (dU k l)else dU k l
theorem ahO(k:Nat)(r:Nat×Nat):∀l,dU k (l++[r])=if r.1=k then max r.2 (dU k l)else dU k l
 |[]=>rfl
 |s::l=>by
  rw[aLe,dU,ahO k r l,dU]
  split<;>split<;>omega
theorem ahN{k:Nat}:∀{l:List (Nat×Nat)},(∀r∈l,okR r)->dU k l<2^64
 |[],_=>by unfold dU;omega
 |r::l,h=>by
  have h1:=ahN (k:=k) (l:=l) λr hr=>h r (aJT _ hr)
  have h2:=(h r aJ7).2
  rw[dU]
  split<;>omega
def lD(L k:Nat):Nat:=if 0<L%k then L/k+1 else L/k
theorem Bn{L k i:Nat}(hk:0<k):i<lD L k↔k*i<L:=by
 unfold lD
 have h1:=Nat.div_add_mod L k
 have h2:=aLo L hk
 generalize L/k=q at*
 generalize L%k=r at*
 split
 .constructor
  .intro h
   have:k*i<=k*q:=aLd _ (by omega)
   omega
  .intro h
   by_cases h3:i<q+1
   .exact h3
   .have:k*(q+1)<=k*i:=aLd _ (by omega)
    rw[Nat.mul_add]at this;omega
 .constructor
  .intro h
   have:k*(i+1)<=k*q:=aLd _ (by omega)
   rw[Nat.mul_add]at this;omega
  .intro h
   by_cases h3:i<q
   .exact h3
   .have:k*q<=k*i:=aLd _ (by omega)
    omega
theorem apP{L k:Nat}(hk:0<k):lD L k<=L:=by
 by_cases h:lD L k=0
 .omega
 .have:=(Bn (i:=lD L k-1) (L:=L) hk).1 (by omega)
  have h2:1*(lD L k-1)<=k*(lD L k-1):=aLY _ hk
  omega
def U7 (L k i:Nat):Nat:=min (L-k*i) k
def CB(L k i:Nat)(b:List UInt8):List UInt8:=(b.drop (k*i)).take (U7 L k i)
theorem afU{L k i j:Nat}{b:List UInt8}:(CB L k i b)[j]?=if j<U7 L k i then b[k*i+j]? else none:=by
 unfold CB
 rw[List.getElem?_take]
 split
 .rw [aK7]
 .rfl
theorem NH{L k i:Nat}{b:List UInt8}(h:b.length=L):(CB L k i b).length=U7 L k i:=by
 unfold CB U7
 rw[aJP,aJS];omega
theorem aG1 {L k i:Nat}{b f:List UInt8}(h:∀j,j<U7 L k i->b[k*i+j]?=f[k*i+j]?):CB L k i b=CB L k i f:=by
 apply aLl
 intro j
 rw[afU,afU]
 split
 .exact h j (by assumption)
 .rfl
theorem aFH{L k i j:Nat}{b f:List UInt8}(h:CB L k i b=CB L k i f)(hj:j<U7 L k i):b[k*i+j]?=f[k*i+j]?:=by
 have:=congrArg (λl=>l[j]?) h
 simp only[afU,if_pos hj]at this
 exact this
theorem aBB{L k:Nat}{b f:List UInt8}(hk:0<k)(hb:b.length=L)(hf:f.length=L)(h:∀i,i<lD L k->CB L k i b=CB L k i f):b=f:=by
 apply aLl
 intro j
 by_cases hj:j<L
 .have h1:=Nat.div_add_mod j k
  have h2:=aLo j hk
  have h3:=aFH (h (j/k) ((Bn hk).2 (by omega))) (j:=j%k) (by unfold U7;omega)
  rw[h1]at h3
  exact h3
 .rw [aKt (by omega),aKt (by omega)]
theorem aFF{old b:List UInt8}{a:Nat}(h:a+b.length<=old.length):over old a b=old.take a++b++old.drop (a+b.length):=by
 unfold over
 rw[show max old.length (a+b.length)-old.length=0 from by omega,aLt,aKf]
theorem auN{old b:List UInt8}{a j:Nat}(h:a+b.length<=old.length):(over old a b)[j]?=if a<=j/\j<a+b.length then b[j-a]? else old[j]?:=by
 rw[aFF h]
 by_cases h1:j<a
 .rw [if_neg (by omega),aJW,aJ0 (by rw[aJP];omega),aKE h1]
 .by_cases h2:j<a+b.length
  .rw [if_pos ⟨by omega,h2⟩,aJW,aJ2 (by rw[aJP];omega),aJP,aJ5 (by omega),aJ0 (by omega)]
  .rw [if_neg (by omega),aJ2 (by rw[aJF,aJP];omega),aJF,aJP,aJ5 (by omega),aK7]
   congr 1;omega
theorem Yz{L k i:Nat}(h:k*i<L):k*i+U7 L k i<=L:=by unfold U7;omega
theorem alZ{L k i:Nat}{P f:List UInt8}(hP:P.length=L)(hf:f.length=L)(hi:k*i<L):CB L k i (over P (k*i) (CB L k i f))=CB L k i f:=by
 have hl:=NH (k:=k) (i:=i) hf
 have he:=Yz hi
 apply aLl
 intro j
 rw[afU]
 by_cases h:j<U7 L k i
 .rw [if_pos h,auN (by omega),if_pos (by omega),show k*i+j-k*i=j from by omega]
 .rw [if_neg h,aKt (by omega)]
theorem aiE{L k i i':Nat}{P f:List UInt8}(hP:P.length=L)(hf:f.length=L)(hi:k*i<L)(hne:i'≠i):CB L k i' (over P (k*i) (CB L k i f))=CB L k i' P:=by
 have hl:=NH (k:=k) (i:=i) hf
 have he:=Yz hi
 apply aG1
 intro j hj
 rw[auN (by omega),if_neg]
 intro h
 have hs:j<k:=by unfold U7 at hj;omega
 have hs2:U7 L k i<=k:=by unfold U7;omega
 rcases Nat.lt_or_gt_of_ne hne with h1|h1
 .have:k*(i'+1)<=k*i:=aLd _ h1
  rw[Nat.mul_add]at this;omega
 .have:k*(i+1)<=k*i':=aLd _ h1
  rw[Nat.mul_add]at this;omega
theorem aDP(n:Nat):over [] 0 (List.replicate n 0)=List.replicate n 0:=by
 unfold over
 simp
theorem aDO{old b:List UInt8}:over old old.length b=old++b:=by
 unfold over
 rw[show max old.length (old.length+b.length)-old.length=b.length from by omega,aKh (aJO _),aJH (aJO _),aKw (by rw[aJF,aJ9];omega),aKf]
end Go.Pu
namespace Go.Proofs.YteelnmpbnaohpaaGreatDoor
open Go Go.En Go.Pu
set_option maxRecDepth 4000
theorem apS{L k:Nat}{w:aL0}(hL:L<=1000000000000)(h1:1<=k)(h2:k<=65536):
 aG pg vV #[.int .u64 (L:Nat),.int .i64 (k:Nat)] w (λr w'=>r=(if 1024<lD L k then .tuple #[.int .i64 0,.int .i64 12]else .tuple #[.int .i64 (lD L k:Nat),.int .i64 0])/\w'=w):=by
 refine Y0 ?_
 unfold aaK QO QN
 have d1:decide ((k:Int)<1)=false:=by simp;omega
 have d2:decide ((65536:Int)<(k:Int))=false:=by simp;omega
 have e1:(L:Int).tdiv (k:Int)=((L/k:Nat):Int):=rfl
 have e2:(L:Int).tmod (k:Int)=((L%k:Nat):Int):=rfl
 have hq:L/k<=L:=aLI _ _
 have hm:=aLo L (show 0<k by omega)
 have hc:lD L k=if 0<L%k then L/k+1 else L/k:=rfl
 generalize L/k=q at*
 generalize L%k=r at*
 by_cases hr:0<r
 .rw [if_pos hr]at hc
  have d3:decide ((0:Int)<(r:Int))=true:=by simp only[decide_eq_true_eq];omega
  have e3:(q:Int)+1=((q+1:Nat):Int):=by omega
  rw[hc]
  by_cases hb:1024<q+1
  .have d4:decide ((1024:Int)<((q+1:Nat):Int))=true:=by simp only[decide_eq_true_eq];omega
   rw[if_pos hb]
   unfold sJ
   simp(disch:=omega)only[aA,eX,d1,iI,gX,true_and,aI,abC,e2,vQ,d3,cN,UE,e1,fT,e3,d4,lU,dG,qB,jH,aJM,if_false,gI,d2,and_true,bH]
  .have d4:decide ((1024:Int)<((q+1:Nat):Int))=false:=by simp only[decide_eq_false_iff_not];omega
   rw[if_neg hb]
   unfold sJ
   simp(disch:=omega)only[aA,eX,d1,iI,gX,aI,abC,e2,vQ,d3,cN,UE,e1,fT,e3,d4,lU,dG,true_and,bH,qB,jH,aJM,if_false,gI,d2,and_true]
 .rw [if_neg hr]at hc
  have d3:decide ((0:Int)<(r:Int))=false:=by simp only[decide_eq_false_iff_not];omega
  rw[hc]
  by_cases hb:1024<q
  .have d4:decide ((1024:Int)<(q:Int))=true:=by simp only[decide_eq_true_eq];omega
   rw[if_pos hb]
   unfold sJ
   simp(disch:=omega)only[aA,eX,d1,iI,gX,true_and,aI,abC,e2,vQ,d3,bH,UE,e1,d4,lU,dG,cN,qB,jH,aJM,if_false,gI,d2,and_true]
  .have d4:decide ((1024:Int)<(q:Int))=false:=by simp only[decide_eq_false_iff_not];omega
   rw[if_neg hb]
   unfold sJ
   simp(disch:=omega)only[aA,eX,d1,iI,gX,aI,abC,e2,vQ,d3,bH,UE,e1,d4,lU,dG,true_and,qB,jH,aJM,if_false,gI,d2,and_true]
theorem akN{L k i:Nat}{w:aL0}(hL:L<=1000000000000)(h1:1<=k)(h2:k<=65536)(hn:lD L k<=1024)(hi:i<lD L k):
 aG pg qK #[.int .u64 (L:Nat),.int .i64 (k:Nat),.int .i64 (i:Nat)] w (λr w'=>r= .tuple #[.int .u64 ((k*i:Nat):Int),.int .i64 (U7 L k i:Nat),.int .i64 0]/\w'=w):=by
 refine acM ?_
 unfold agU Ul
 refine(apS hL h1 h2).mono ?_
 rintro r w1 ⟨rfl,hw⟩
 rw[hw];clear hw w1
 rw[if_neg (by omega)]
 have n0:((0:Int) !=0)=false:=rfl
 have d1:decide ((i:Int)<0)=false:=by simp
 have d2:decide (((lD L k:Nat):Int)<=(i:Int))=false:=by simp;omega
 have hlt:=(Bn (L:=L) (k:=k) (i:=i) (by omega)).1 hi
 have e1:(k:Int)*(i:Int)=((k*i:Nat):Int):=by simp
 obtain⟨q,hq⟩:∃q,q=k*i:=⟨_,rfl⟩
 have e2:(L:Int)-((q:Nat):Int)=((L-q:Nat):Int):=by omega
 have e3:(if((k:Nat):Int)<((L-q:Nat):Int)then((k:Nat):Int)else((L-q:Nat):Int))=((U7 L k i:Nat):Int):=by
  unfold U7
  rw[<-hq]
  split<;>omega
 rw[<-hq]at e1 hlt⊢
 simp(disch:=omega)only[aA,x20,x21,eX,d1,iI,gX,aI,UC,e1,Mv,e2,aoA,e3,lU,dG,true_and,qB,jH,aJM,if_false,gI,Km,n0,bH,Dg,d2,and_true]
theorem awC{w:aL0}{v:aL1}{l:List Bool}(h:Sl w v (l.map Value.bool)){i:Nat}(hi:i<l.length):∃a o c,v= .slice (some ⟨a,o,none⟩) l.length c/\w.cell? ⟨a,o+i,none⟩=some (.bool (l.getD i false)):=by
 obtain⟨a,n,c,rfl,hn,hc,hh⟩:=h
 rw[aJC]at hn
 obtain⟨b,off,rfl,h2⟩:=hh (by omega)
 have:=h2 i (by omega)
 rw[aJ4,aJE hi]at this
 refine⟨b,off,c,by rw[hn], ?_⟩
 rw[this,aJL,aJE hi]<;>rfl
theorem alQ{l:List Bool}{i:Nat}(hi:i<l.length):(l.take (i+1)).contains false=((l.take i).contains false|| !(l.getD i false)):=by
 rw[aJ3 hi,aJL,aJE hi]
 rw[List.contains_append]
 cases l[i]<;>simp
theorem akS{v:aL1}{l:List Bool}{w:aL0}(h:Sl w v (l.map Value.bool))(hl:l.length<=1000000000):
 aG pg Ce #[v] w (λr w'=>r= .bool (!l.contains false)/\w'=w):=by
 refine akU ?_
 unfold aoU YD
 refine J1 ?_
 unfold FZ Ct
 refine OJ ?_
 unfold KA F6 F5 zI zH F4 rC
 obtain⟨va,vc,rfl,_⟩:=h.len
 rw[aJC]at h⊢
 simp(disch:=omega)only[aA,IM,aI]
 refine bM.rule (λm (t:aL1) w'=>∃i:Nat,m=l.length-i/\i<=l.length/\t= .int .i64 (i:Nat)/\(l.take i).contains false=false/\w'=w) l.length ⟨0,rfl,by omega,rfl,rfl,rfl⟩ ?_
 rintro m t w' ⟨i,rfl,hi,rfl,hc,hw⟩
 rw[hw];clear hw w'
 unfold zG
 by_cases hlt:i<l.length
 .have d1:decide ((i:Int)<(l.length:Int))=true:=by simp;omega
  obtain⟨a,o,c,hv,hcell⟩:=awC h hlt
  cases hv
  have ht:=alQ hlt
  rw[hc,aLi]at ht
  cases hb:l.getD i false with
  |true=>
   rw[hb]at hcell ht
   have e:(false==true)=false:=rfl
   simp(disch:=omega)only[aA,eX,d1,Em,aJI,Dg,aI,UD,fT,dG,An,hcell,bK,HM,e,and_true,bH,cN]
   exact⟨l.length-(i+1),by omega,i+1,rfl,by omega,rfl,ht⟩
  |false=>
   rw[hb]at hcell ht
   have e:(false==false)=true:=rfl
   have d2:decide ((0:Int)<=(i:Int))=true:=by simp
   have hall:l.contains false=true:=by
    have hm:false∈l.take (i+1):=by simpa using ht
    simpa using aLn hm
   rw[hall]
   simp(disch:=omega)only[aA,eX,d1,Em,aJI,Dg,d2,aKS,aI,UD,true_and,fT,dG,An,hcell,bK,HM,e,and_true,cN]
 .have d1:decide ((i:Int)<(l.length:Int))=false:=by simp;omega
  rw[aJH (by omega)]at hc
  rw[hc]
  unfold zF
  have d2:decide ((0:Int)<= -1)=false:=rfl
  simp(disch:=omega)only[aA,eX,d1,Dg,aKC,aI,UD,fT,dG,d2,true_and,bH]
theorem aBz{v u:aL1}{l m:List UInt8}{w:aL0}(h:Bs w v l)(hu:Bs w u m)(hl:l.length<=1000000000)(hm:m.length<=1000000000):
 aG pg rQ #[v,u] w (λr w'=>r= .bool (l==m)/\aL w w' aT):=by
 refine OI ?_
 obtain⟨RR,hRR⟩:∃RR:aL1->aL0->Prop,RR=λr w'=>r= .bool (l==m)/\aL w w' aT:=⟨_,rfl⟩
 rw[<-hRR]
 unfold Kz F3 F2
 obtain⟨va,vc,rfl,_⟩:=h.len
 obtain⟨ua,uc,rfl,_⟩:=hu.len
 rw[aJC]at h⊢
 rw[aJC]at hu⊢
 by_cases hne:l.length=m.length
 rotate_left
 .have d1:(((l.length:Nat):Int) !=((m.length:Nat):Int))=true:=by rw[bne_iff_ne];omega
  have e:(l==m)=false:=beq_eq_false_iff_ne.2 λe=>hne (by rw[e])
  simp(disch:=omega)only[aA,mK,aI,Km,d1,cN]
  rw[hRR]
  exact⟨by rw[e],aL.refl _ _⟩
 have d1:(((l.length:Nat):Int) !=((m.length:Nat):Int))=false:=by rw[bne_eq_false_iff_eq];omega
 simp(disch:=omega)only[aA,mK,aI,Km,d1,bH]
 unfold zD zC F1 rB
 simp(disch:=omega)only[aA,mK,aI]
 refine bM.rule (λn (t:aL1) w'=>∃i:Nat,n=l.length-i/\i<=l.length/\t= .int .i64 (i:Nat)/\l.take i=m.take i/\aL w w' aT) l.length ⟨0,rfl,by omega,rfl,rfl,aL.refl _ _⟩ ?_
 rintro n t w' ⟨i,rfl,hi,rfl,hc,x'⟩
 unfold zB
 by_cases hlt:i<l.length
 .have d2:decide ((i:Int)<(l.length:Int))=true:=by simp;omega
  have xd:aL w (dr w') aT:=x'.seq (aL.dr _ _)
  have cell:∀{w':aL0},aL w w' aT->∃b off b' off',va=some ⟨b,off,none⟩/\ua=some ⟨b',off',none⟩/\w'.cell? ⟨b,off+i,none⟩=some (.int .u8 ((l[i]'hlt).toNat:Nat))/\w'.cell? ⟨b',off'+i,none⟩=some (.int .u8 ((m[i]'(by omega)).toNat:Nat)):=λ{w'} x=>by
   obtain⟨b,off,c',hv,hc',hcell⟩:=(h.ext x (bC _)).openV (by rw[aJC];omega)
   obtain⟨b',off',c'',hv',hc'',hcell'⟩:=(hu.ext x (bC _)).openV (by rw[aJC];omega)
   have g1:=hcell i (by rw[aJC];exact hlt)
   have g2:=hcell' i (by rw[aJC];omega)
   rw[aLq]at g1 g2
   rw[aJC]at hv hv'
   cases hv
   cases hv'
   exact⟨_,_,_,_,rfl,rfl,g1,g2⟩
  obtain⟨b,off,b',off',rfl,rfl,g1,g2⟩:=cell x'
  obtain⟨_,_,_,_,e1,e2,g1',g2'⟩:=cell xd
  cases e1
  cases e2
  by_cases hq:l[i]'hlt=m[i]'(by omega)
  .have d3:((((l[i]'hlt).toNat:Nat):Int) !=(((m[i]'(by omega)).toNat:Nat):Int))=false:=by rw[hq];simp
   simp(disch:=omega)only[aA,eX,d2,tM,aJI,fT,dG,aI,yN,true_and,g1',bK,g2',Km,d3,bH,cN]
   refine⟨l.length-(i+1),by omega,i+1,rfl,by omega,rfl, ?_,xd⟩
   rw[aJ3 hlt,aJ3 (by omega),hc,hq]
  .have d3:((((l[i]'hlt).toNat:Nat):Int) !=(((m[i]'(by omega)).toNat:Nat):Int))=true:=by
    rw[bne_iff_ne]
    intro he
    exact hq (UInt8.toNat_inj.1 (by exact_mod_cast he))
   have e:(l==m)=false:=beq_eq_false_iff_ne.2 λe=>hq (by subst e;rfl)
   simp(disch:=omega)only[aA,eX,d2,tM,aJI,fT,dG,aI,yN,true_and,g1',bK,g2',Km,d3,cN]
   rw[hRR]
   exact⟨by rw[e],xd⟩
 .have d2:decide ((i:Int)<(l.length:Int))=false:=by simp;omega
  rw[aJH (by omega),aJH (by omega)]at hc
  unfold zA
  simp(disch:=omega)only[aA,eX,d2,fT,dG,aI,true_and,bH]
  rw[hRR]
  exact⟨by rw[hc];simp,x'⟩
end Go.Proofs.YteelnmpbnaohpaaGreatDoor
namespace Go.En
open Go
section
variable{P:Program}{w:aL0}{t e:TypeId}
theorem Ta{i:TypeInfo}(hu:P.underlying t=some (.slice e))(hi:P.info? e=some i)
 {K:aL1->aL0->Prop} (hk:∀w',bD w' w.heap.size []->aL w w' aT->w'.heap.size=w.heap.size+1->K (.slice (some ⟨w.heap.size,0,none⟩) 0 0) w'):
 aA P (bB t 0 []) w K:=by
 have:(bB t 0 []).run P w= .ok (.value (.slice (some ⟨w.heap.size,0,none⟩) 0 0)) (w.alloc (.cells ([]:List aL1).toArray e)):=by
  unfold bB;rw[jJ]
  have h1:¬(0>2^24):=by omega
  have e:∀f:Nat->aL1,Array.map f (Array.range 0)= #[]:=λf=>by simp
  simp only[Instr.buildSlice,underlying,pure_bind,Sem.run_bind,run_program,Result.andThen_ok,hu,Sem.run_pure,eB hi,aLZ,h1,if_false,if_true,newRow,run_newObj,Instr.fill,e]
  rfl
 unfold aA
 rw[this]
 exact hk _ (bD.alloc _ _ _) (aL.alloc _ _ _) (by simp)
def At(v:aL1)(b:Nat):Prop:=∀M:Nat->Prop,¬M b->¬fK v M
theorem At.nil (c b:Nat)(a:Option Addr):At (.slice a 0 c) b:=λM h=>by unfold fK;split<;>simp_all
theorem At.at (b o n c:Nat):At (.slice (some ⟨b,o,none⟩) n c) b:=λM h=>by
 unfold fK;split
 .rename_i x m _ e
  obtain⟨rfl,_⟩:(⟨b,o,none⟩:Addr)=x/\_:=by simpa using e
  exact h
 .simp
theorem mP.at' {w:aL0}{base sz n:Nat}{v:aL1}{l:List aL1}(h:mP w base sz v n l)(hb:base<w.heap.size):∃b,base<=b/\b<w.heap.size/\At v b:=by
 rcases h.2 with⟨rfl,rfl⟩|⟨b,c,rest,rfl,h2,h3,h4,h5⟩
 .exact ⟨base,aJO _,hb,At.nil _ _ _⟩
 .exact ⟨b,h2,h3.lt,At.at _ _ _ _⟩
end
end Go.En
namespace Go.Proofs.YteelnmpbnaohpaaGreatDoor
open Go Go.En Go.Pu
set_option maxRecDepth 4000
def ayH:ByteArray:=⟨#[0,1,2,2,3,3,3,3,4,4,4,4,4,4,4,4,5,5,5,5,5,5,5,5,5,5,5,5,5,5,5,5,6,6,6,6,6,6,6,6,6,6,6,6,6,6,6,6,6,6,6,6,6,6,6,6,6,6,6,6,6,6,6,6,7,7,7,7,7,7,7,7,7,7,7,7,7,7,7,7,7,7,7,7,7,7,7,7,7,7,7,7,7,7,7,7,7,7,7,7,7,7,7,7,7,7,7,7,7,7,7,7,7,7,7,7,7,7,7,7,7,7,7,7,7,7,7,7,8,8,8,8,8,8,8,8,8,8,8,8,8,8,8,8,8,8,8,8,8,8,8,8,8,8,8,8,8,8,8,8,8,8,8,8,8,8,8,8,8,8,8,8,8,8,8,8,8,8,8,8,8,8,8,8,8,8,8,8,8,8,8,8,8,8,8,8,8,8,8,8,8,8,8,8,8,8,8,8,8,8,8,8,8,8,8,8,8,8,8,8,8,8,8,8,8,8,8,8,8,8,8,8,8,8,8,8,8,8,8,8,8,8,8,8,8,8,8,8,8,8,8,8,8,8,8,8]⟩
theorem Zt:ayH.size=256:=by decide
set_option maxRecDepth 100000 in
theorem aDv(x:Nat)(h:x<256):(ayH[x]'(by rw[Zt];exact h)).toNat=bl x:=by
 have:∀k:Fin 256,(ayH.data[k.val]!).toNat=bl k.val:=by decide+kernel
 have h2:=this ⟨x,h⟩
 simp only at h2
 rw[<-h2]
 have hs:x<ayH.data.size:=by have:=Zt;exact(show ayH.data.size=256 from this)▸h
 rw[getElem!_pos ayH.data x hs]
 rfl
theorem agT{x j:Nat}(h:2^j<=x):bl x=bl (x/2^j)+j:=by
 have hp:=Nat.two_pow_pos j
 have h0:x/2^j≠0:=by
  have:=Nat.div_pos h hp
  omega
 have a:=aGb h0
 have b:=aGc (x/2^j)
 have c:=aGI h0
 obtain⟨m,hm⟩:∃m,bl (x/2^j)=m+1:=⟨bl (x/2^j)-1,by omega⟩
 rw[hm,Nat.add_sub_cancel]at a
 rw[hm]at b⊢
 have h1:2^(m+j)<=x:=by
  rw[Nat.pow_add]
  exact aK5 (aLY _ a) (Nat.div_mul_le_self _ _)
 have h2:x<2^(m+j+1):=by
  rw[show m+j+1=(m+1)+j from by omega,Nat.pow_add]
  exact(Nat.div_lt_iff_lt_mul hp).1 b
 rw[aHQ h1 h2];omega
theorem atY{x n:Nat}(hx:x<256)(hn:n<=1000)(R:aL1->aL0->Prop)(w:aL0)(h:R (.int .i64 ((n+bl x:Nat):Int)) w):
 uT R (.int .u64 x) (.int .i64 n) w:=by
 have hg:=aDv x hx
 have hs:=Zt
 have hb:bl x<=8:=asI (n:=8) (by omega)
 unfold uT
 change aA pg _ w λt21 w=>aA pg (VS 9 (.string ayH) t21) w _
 simp(disch:=omega)only[aA,vL,azW,aI,Am,aJI,hg,CZ,dG,fT]
 rw[Int.natCast_add]at h
 exact h
theorem aC9 (a b:Nat):((a:Int)).fdiv (b:Int)=((a/b:Nat):Int):=by rw[Int.fdiv_eq_ediv_of_nonneg _ (by omega)]<;>rfl
theorem afW(x j:Nat)(hj:j<=64):((x:Int)).fdiv (2^(min (j:Nat) IntKind.u64.bits))=((x/2^j:Nat):Int):=by
 have e:min j IntKind.u64.bits=j:=by simp only[IntKind.bits];omega
 rw[e,<-aC9];simp
theorem aFq(x:Nat)(hx:x<18446744073709551616)(w:aL0):aG pg wY #[.int .u64 x] w (λr w'=>r= .int .i64 (bl x:Nat)/\w'=w):=by
 refine RO ?_
 unfold O7 IT IS
 have step8:∀(y n:Nat),y<65536->n<=64->n+bl y=bl x->uU (λr w'=>r= .int .i64 (bl x:Nat)/\w'=w) (.int .u64 y) (.int .i64 n) w:=by
  intro y n hy hn e
  unfold uU IP
  by_cases h:256<=y
  .have d:decide ((256:Int)<=(y:Int))=true:=by simp;omega
   have sh:=afW y 8 (by omega)
   have hq:y/2^8<256:=by omega
   have:=agT (x:=y) (j:=8) (by omega)
   have e2:(n:Int)+8=((n+8:Nat):Int):=by omega
   simp(disch:=omega)only[aA,Dg,d,Mu,fT,e2,dG,aI,cN]
   rw[show(8:Int).toNat=8 from rfl,sh]
   exact atY hq (by omega) _ _ ⟨by rw[<-e,this];congr 2;omega,rfl⟩
  .have d:decide ((256:Int)<=(y:Int))=false:=by simp;omega
   simp(disch:=omega)only[aA,Dg,d,Mu,fT,dG,aI,bH]
   exact atY (by omega) (by omega) _ _ ⟨by rw[e],rfl⟩
 have step16:∀(y n:Nat),y<4294967296->n<=32->n+bl y=bl x->uV (λr w'=>r= .int .i64 (bl x:Nat)/\w'=w) (.int .u64 y) (.int .i64 n) w:=by
  intro y n hy hn e
  unfold uV IQ
  by_cases h:65536<=y
  .have d:decide ((65536:Int)<=(y:Int))=true:=by simp;omega
   have sh:=afW y 16 (by omega)
   have hq:y/2^16<65536:=by omega
   have:=agT (x:=y) (j:=16) (by omega)
   have e2:(n:Int)+16=((n+16:Nat):Int):=by omega
   simp(disch:=omega)only[aA,Dg,d,Mu,fT,e2,dG,aI,cN]
   rw[show(16:Int).toNat=16 from rfl,sh]
   exact step8 _ _ hq (by omega) (by rw[<-e,this];omega)
  .have d:decide ((65536:Int)<=(y:Int))=false:=by simp;omega
   simp(disch:=omega)only[aA,Dg,d,Mu,fT,dG,aI,bH]
   exact step8 _ _ (by omega) (by omega) e
 by_cases h:4294967296<=x
 .have d:decide ((4294967296:Int)<=(x:Int))=true:=by simp;omega
  have sh:=afW x 32 (by omega)
  have hq:x/2^32<4294967296:=by omega
  have:=agT (x:=x) (j:=32) (by omega)
  simp(disch:=omega)only[aA,Dg,d,Mu,aI,cN]
  rw[show(32:Int).toNat=32 from rfl,sh]
  exact step16 _ 32 hq (by omega) (by rw[this];omega)
 .have d:decide ((4294967296:Int)<=(x:Int))=false:=by simp;omega
  simp(disch:=omega)only[aA,Dg,d,Mu,aI,bH]
  exact step16 _ 0 (by omega) (by omega) (by omega)
theorem aHY(x:Nat)(hx:x<18446744073709551616)(w:aL0):aG pg Bm #[.int .u64 x] w (λr w'=>r= .int .i64 (bl x:Nat)/\w'=w):=by
 refine Vy ?_
 simp(disch:=omega)only[Uz,Mn,aA,yK,aI,bH]
 exact aFq x hx w
theorem afK{v:aL1}{l:List UInt8}{w:aL0}(h:Bs w v l)(hl:l.length<=1000000000):
 aG pg fN #[v] w (λr w'=>mP w' w.heap.size 1 r l.length (l.map gT)/\aL w w' aT):=by
 refine JZ ?_
 have h1:=h
 obtain⟨a,n,c,rfl,hn,hc,hh⟩:=h
 rw[aJC]at hn
 unfold FW Cr
 cases a with
 |none=>
  have h0:l=[]:=by
   cases l with
   |nil=>rfl
   |cons x l=>obtain⟨b,off,h,_⟩:=hh (by simp at hn;omega);cases h
  subst h0
  simp(disch:=omega)only[aA,wA,aKY,aI,cN]
  exact⟨mP.nil _ _ _,aL.refl _ _⟩
 |some x=>
  simp(disch:=omega)only[aA,wA,aKI,aI,bH]
  refine Ta Tryz.underlying22 Mh λw1 o1 x1 s1=> ?_
  have hcl1:=(h1.ext x1 (bC _)).cl
  rw[aJC]at hcl1
  have hos:mP w1 w.heap.size 1 (.slice (some ⟨w.heap.size,0,none⟩) 0 0) 0 []:=⟨rfl,.inr ⟨_,0,[],rfl,aJO _,o1,rfl,aJO _⟩⟩
  refine iY hos hcl1 (Eg _) x1.size (by omega) λv3 w3 o3 x3=> ?_
  rw[aJG,aJ1]at o3
  exact⟨o3,x1.trans x3 λb hb h=>Nat.not_le_of_lt hb h⟩
def AtI(v:aL1)(lo hi:Nat):Prop:=∀M:Nat->Prop,(∀b,lo<=b->b<hi->¬M b)->¬fK v M
theorem mP.atI {w:aL0}{base sz n:Nat}{v:aL1}{l:List aL1}(h:mP w base sz v n l):AtI v base w.heap.size:=by
 intro M hM
 rcases h.2 with⟨rfl,rfl⟩|⟨b,c,rest,rfl,h2,h3,h4,h5⟩
 .exact λh=>h
 .exact At.at b 0 n c M (hM b h2 h3.lt)
def Fwd(w:aL0)(lo hi:Nat)(l:List UInt8)(st:Nat):Prop:=∃v,bD w hi [v,.int .i64 st]/\Bs w v l/\AtI v lo hi
theorem Fwd.ext {w w':aL0}{lo hi st:Nat}{l:List UInt8}{M:Nat->Prop}(h:Fwd w lo hi l st)(hx:aL w w' M)(hM:∀b,lo<=b->b<=hi->¬M b)(hlh:lo<=hi):Fwd w' lo hi l st:=by
 obtain⟨v,h1,h2,h3⟩:=h
 exact⟨v,h1.ext hx (hM _ hlh (aJO _)),h2.ext hx (h3 M λb hb hh=>hM b hb (by omega)),h3⟩
theorem AtI.sub {a:Option Addr}{n c m c' k sz lo hi:Nat}(h:AtI (.slice a n c) lo hi)(hm:m<=n):AtI (.slice (dD a c k sz) m c') lo hi:=by
 intro M hM hin
 cases m with
 |zero=>unfold fK at hin;split at hin<;>simp_all
 |succ m=>
  obtain⟨n',rfl⟩:∃n',n=n'+1:=⟨n-1,by omega⟩
  have h1:=h M hM
  cases a with
  |none=>unfold dD at hin;split at hin<;>exact hin
  |some x=>
   unfold dD at hin
   have h2:M x.block:=by
    split at hin
    .exact hin
    .rw [aKs]at hin
     have e:(x.add (k*sz)).block=x.block:=by unfold Addr.add;split<;>rfl
     have h3:M (x.add (k*sz)).block:=hin
     rwa [e]at h3
   exact h1 h2
def AtS(v:aL1)(S:Nat->Prop):Prop:=∀M:Nat->Prop,(∀b,S b->¬M b)->¬fK v M
theorem AtI.toS {v:aL1}{lo hi:Nat}{S:Nat->Prop}(h:AtI v lo hi)(hS:∀b,lo<=b->b<hi->S b):AtS v S:=λM hM=>h M λb h1 h2=>hM b (hS b h1 h2)
theorem AtS.mono {v:aL1}{S T:Nat->Prop}(h:AtS v S)(hT:∀b,S b->T b):AtS v T:=λM hM=>h M λb hb=>hM b (hT b hb)
theorem AtS.nil (S:Nat->Prop):AtS (.slice none 0 0) S:=λM _ h=>h
theorem AtS.sub {a:Option Addr}{n c m c' k mx sz:Nat}{S:Nat->Prop}(h:AtS (.slice a n c) S)(hm:m<=n):AtS (.slice (dD a mx k sz) m c') S:=by
 intro M hM hin
 cases m with
 |zero=>unfold fK at hin;split at hin<;>simp_all
 |succ m=>
  obtain⟨n',rfl⟩:∃n',n=n'+1:=⟨n-1,by omega⟩
  have h1:=h M hM
  cases a with
  |none=>unfold dD at hin;split at hin<;>exact hin
  |some x=>
   unfold dD at hin
   have h2:M x.block:=by
    split at hin
    .exact hin
    .rw [aKs]at hin
     have e:(x.add (k*sz)).block=x.block:=by unfold Addr.add;split<;>rfl
     have h3:M (x.add (k*sz)).block:=hin
     rwa [e]at h3
   exact h1 h2
theorem aIc{w:aL0}{a:Option Addr}{n c:Nat}{l:List aL1}(h:Sl w (.slice a n c) l){k:Nat}(hk:k<=n):Sl w (.slice (dD a k 0 1) (k-0) (k-0)) (l.take k):=by
 obtain⟨a',n',c',e,hn,hc,h⟩:=h
 cases e
 refine⟨_,_,_,rfl,by rw[aJP];omega,aJO _,λh0=> ?_⟩
 obtain⟨b,off,rfl,h2⟩:=h (by omega)
 have hs:dD (some ⟨b,off,none⟩) k 0 1=some ⟨b,off+0*1,none⟩:=by unfold dD;rw[if_neg (by omega)]<;>rfl
 refine⟨b,off,by rw[hs];simp,λi hi=> ?_⟩
 rw[aKE (by omega)]
 exact h2 i (by omega)
def Rdr(w:aL0)(lo hi p:Nat)(l:List UInt8)(e:Int):Prop:=lo<=p/\p<hi/\∃v,bD w p [v,.int .i64 e]/\Bs w v l/\AtS v (λb=>lo<=b/\b<hi/\b≠p)
theorem Rdr.ext {w w':aL0}{lo hi p:Nat}{l:List UInt8}{e:Int}{M:Nat->Prop}(h:Rdr w lo hi p l e)(x:aL w w' M)(hM:∀b,lo<=b->b<hi->¬M b):Rdr w' lo hi p l e:=by
 obtain⟨h0,h0',v,h1,h2,h3⟩:=h
 exact⟨h0,h0',v,h1.ext x (hM _ h0 h0'),h2.ext x (h3 M λb hb=>hM b hb.1 hb.2.1),h3⟩
theorem Rdr.lt {w:aL0}{lo hi p:Nat}{l:List UInt8}{e:Int}(h:Rdr w lo hi p l e):p<w.heap.size:=by
 obtain⟨_,_,v,h1,_⟩:=h;exact h1.lt
theorem Rdr.up {w:aL0}{lo hi hi' p:Nat}{l:List UInt8}{e:Int}(h:Rdr w lo hi p l e)(hh:hi<=hi'):Rdr w lo hi' p l e:=by
 obtain⟨h0,h0',v,h1,h2,h3⟩:=h
 exact⟨h0,by omega,v,h1,h2,h3.mono λb hb=>⟨hb.1,by omega,hb.2.2⟩⟩
theorem auF{v:aL1}{l:List UInt8}{w:aL0}(h:Bs w v l)(hl:l.length<=1000000000):
 aG pg tS #[v] w (λr w'=>∃p,r= .pointer (some ⟨p,0,none⟩)/\Rdr w' w.heap.size w'.heap.size p l 0/\aL w w' aT):=by
 refine PN ?_
 unfold L6 GR
 refine(afK h hl).mono ?_
 rintro r w1 ⟨ho,x1⟩
 have hat:=mP.atI ho
 have hs:=ho.sl
 obtain⟨va,vc,rfl⟩:=ho.len
 simp(disch:=omega)only[SV]
 refine cA λw2 o2 x2 s2=> ?_
 have o2:bD w2 w1.heap.size [.slice va l.length vc,.int .i64 0]:=o2
 have hz:=o2.lt
 exact⟨w1.heap.size,rfl,⟨x1.size,hz,_,o2,hs.ext x2 (bC _),hat.toS λb h1 h2=>⟨h1,by omega,by omega⟩⟩,x1.seq x2⟩
def tkR(l:List UInt8)(e:Int)(n:Nat):List UInt8×List UInt8×Int:=if e≠0 then([],l,e)else if l.length<n then([],l,10)else(l.take n,l.drop n,0)
theorem aCY{lo hi p n:Nat}{l:List UInt8}{e:Int}{w:aL0}(h:Rdr w lo hi p l e)(hl:l.length<=1000000000)(hn:n<=1000000000):
 aG pg qL #[.pointer (some ⟨p,0,none⟩),.int .i64 n,.bool true] w (λr w'=>Bs w' r (tkR l e n).1/\AtS r (λb=>lo<=b/\b<hi/\b≠p)/\Rdr w' lo hi p (tkR l e n).2.1 (tkR l e n).2.2/\aL w w' (λy=>y=p)):=by
 refine L8 ?_
 unfold Ic DO
 have h':=h
 obtain⟨h0,h0',v,o,hb,hat⟩:=h'
 obtain⟨va,vc,rfl,hvc⟩:=hb.len
 rw[aJC]at hb hat o hvc
 have c0:=o.cell (off:=0)
 have c1:=o.cell (off:=1)
 simp only[aJD,aJJ]at c0 c1
 by_cases he:e=0
 rotate_left
 .have n1:(e !=0)=true:=by simpa using he
  have ht:tkR l e n=([],l,e):=by unfold tkR;rw[if_pos he]
  rw[ht]
  simp(disch:=omega)only[SV,c1,n1]
  exact⟨Sl.nil _,AtS.nil _,h,aL.refl _ _⟩
 subst he
 have n1:((0:Int) !=0)=false:=rfl
 by_cases hsh:l.length<n
 .have d1:decide ((l.length:Int)<(n:Int))=true:=by simp;omega
  have ht:tkR l 0 n=([],l,10):=by unfold tkR;rw[if_neg (by decide),if_pos hsh]
  rw[ht]
  simp(disch:=omega)only[SV,c1,n1,c0,d1]
  refine vC o rfl (by simp) λw1 o1 x1 s1=> ?_
  simp only[aJV,aKi]at o1
  exact⟨Sl.nil _,AtS.nil _,⟨h0,h0',_,o1,hb.ext x1 (hat _ λb hb=>hb.2.2),hat⟩,x1⟩
 .have d1:decide ((l.length:Int)<(n:Int))=false:=by simp;omega
  have ht:tkR l 0 n=(l.take n,l.drop n,0):=by unfold tkR;rw[if_neg (by decide),if_neg hsh]
  rw[ht]
  simp(disch:=omega)only[SV,c1,n1,c0,d1]
  refine abV o rfl (by simp[one]) λw1 o1 x1 s1=> ?_
  simp only[aJV,aKi]at o1
  have hbn:Bs w (.slice (dD va n 0 1) (n-0) (n-0)) (l.take n):=by
   have:=aIc hb (k:=n) (by omega)
   rwa [<-aLD]at this
  have hbd:Bs w (.slice (dD va vc n 1) (l.length-n) (vc-n)) (l.drop n):=by
   have:=hb.drop' (k:=n) (by omega)
   rwa [<-aLj]at this
  have hn1:=hat.sub (mx:=n) (k:=0) (sz:=1) (m:=n-0) (c':=n-0) (by omega)
  have hn2:=hat.sub (mx:=vc) (k:=n) (sz:=1) (m:=l.length-n) (c':=vc-n) (by omega)
  exact⟨hbn.ext x1 (hn1 _ λb hb=>hb.2.2),hn1,⟨h0,h0',_,o1,hbd.ext x1 (hn2 _ λb hb=>hb.2.2),hn2⟩,x1⟩
theorem agZ{lo hi p n:Nat}{l:List UInt8}{e:Int}{w:aL0}(h:Rdr w lo hi p l e)(hl:l.length<=1000000000)(hn:1<=n/\n<=8):
 aG pg jO #[.pointer (some ⟨p,0,none⟩),.int .i64 n] w (λr w'=>r= .int .u64 (DL (tkR l e n).1:Nat)/\Rdr w' lo hi p (tkR l e n).2.1 (tkR l e n).2.2/\aL w w' (λy=>y=p)):=by
 refine JV ?_
 unfold FF Cj Ci sO sN Ch
 have d1:decide ((1:Int)<=(n:Int))=true:=by simp;omega
 have d2:decide ((n:Int)<=8)=true:=by simp;omega
 simp(disch:=omega)only[SV,d1,d2]
 refine(aCY h hl (by omega)).mono ?_
 rintro r w1 ⟨hb,hat,hr,x1⟩
 obtain⟨t,ht⟩:∃t,t=(tkR l e n).1:=⟨_,rfl⟩
 have htl:t.length<=8:=by
  rw[ht];unfold tkR
  split
  .simp
  .split
   .simp
   .simp;omega
 rw[<-ht]at hb⊢
 obtain⟨va,vc,rfl,hvc⟩:=hb.len
 rw[aJC]at hb hvc hat
 simp(disch:=omega)only[SV,aJC]
 unfold mR
 refine bM.rule (λm s w'=>∃i:Nat,m=t.length-i/\i<=t.length/\s=(.int .u64 (DL (t.take i):Nat),.int .i64 i)/\w'=w1) t.length ⟨0,rfl,by omega,rfl,rfl⟩ ?_
 rintro m s w2 ⟨i,rfl,hi,rfl,hw⟩
 rw[hw];clear hw w2
 unfold sM
 by_cases hlt:i<t.length
 .have d3:decide ((i:Int)<(t.length:Int))=true:=by simp;omega
  obtain⟨c,hc⟩:∃c,c=t[i]'hlt:=⟨_,rfl⟩
  have htk:t.take (i+1)=t.take i++[c]:=by rw[aLO,aJE hlt,<-hc]<;>rfl
  have hor:=aFz (t.take i) c
  rw[<-htk,aJP,aJ5 (by omega)]at hor
  have hcl:c.toNat<256:=UInt8.toNat_lt c
  obtain⟨b,off,c',hv,hcc,hcell⟩:=hb.openV (by rw[aJC];omega)
  have g1:=hcell i (by rw[aJC];exact hlt)
  rw[aJC]at hv
  cases hv
  rw[aLq,<-hc]at g1
  simp only[gT]at g1
  generalize c.toNat=cx at*
  have hp:2^(8*i)<=2^56:=aLb (by omega) (by omega)
  have hm:cx*2^(8*i)<=255*2^56:=Nat.mul_le_mul (by omega) hp
  have hb0:=Hl (t.take i)
  have hb1:=Hl (t.take (i+1))
  rw[aJP,aJ5 (by omega)]at hb0 hb1
  have hq:256^i<=256^7:=aLb (by omega) (by omega)
  have e0:((8:Int)*(i:Int))=((8*i:Nat):Int):=by omega
  have e5:IntKind.u64.wrap ((cx:Int)*2^(min (8*i) IntKind.u64.bits))=((cx*2^(8*i):Nat):Int):=by
   rw[show min (8*i) IntKind.u64.bits=8*i from aJ5 (by have:IntKind.u64.bits=64:=rfl
                                                       omega)]
   have e:(cx:Int)*2^(8*i)=((cx*2^(8*i):Nat):Int):=by simp
   rw[e]
   exact gX (by omega) (by omega)
  have e6:=aFE (a:=DL (t.take i)) (b:=cx*2^(8*i)) (by omega) (by omega)
  rw[hor]at e6
  have e7:IntKind.u64.wrap (cx:Int)=(cx:Int):=gX (by omega) (by omega)
  simp(disch:=omega)only[SV,d3,g1,e0,e5,e6,e7,aJC,aJI]
  exact⟨t.length-(i+1),by omega,i+1,rfl,by omega,rfl⟩
 .have d3:decide ((i:Int)<(t.length:Int))=false:=by simp;omega
  obtain rfl:i=t.length:=by omega
  simp(disch:=omega)only[SV,d3]
  unfold sL
  rw[List.take_length]
  exact⟨rfl,hr,x1⟩
end Go.Proofs.YteelnmpbnaohpaaGreatDoor
namespace Go.Pu
open Go Go.En
structure aIX(B:List Bool)(l:List UInt8):Prop where
 len:l.length=(B.length+7)/8
 bits:aGa l=B++List.replicate (8*l.length-B.length) false
end Go.Pu
namespace Go.Proofs.YteelnmpbnaohpaaGreatDoor
open Go Go.En Go.Pu
set_option maxRecDepth 4000
theorem Df{w w':aL0}{S M:Nat->Prop}{sz n:Nat}{v:aL1}{l:List aL1}(h:DJ w S sz v n l)(hx:aL w w' M)(hM:∀b,S b->¬M b):DJ w' S sz v n l:=by
 refine⟨h.1, ?_⟩
 rcases h.2 with h2|⟨b,c,rest,h1,h2,h3,h4,h5⟩
 .exact .inl h2
 .exact .inr ⟨b,c,rest,h1,h2,h3.ext hx (hM b h2),h4,h5⟩
def Wr(w:aL0)(lo p:Nat)(B:List Bool):Prop:=lo<=p/\∃v bytes,bD w p [v,.int .i64 B.length]/\DJ w (λb=>lo<=b/\b≠p) 1 v bytes.length (bytes.map gT)/\aIX B bytes
theorem Wr.ext {w w':aL0}{lo p:Nat}{B:List Bool}{M:Nat->Prop}(h:Wr w lo p B)(hx:aL w w' M)(hM:∀b,lo<=b->¬M b):Wr w' lo p B:=by
 obtain⟨h0,v,bytes,h1,h2,h3⟩:=h
 exact⟨h0,v,bytes,h1.ext hx (hM _ h0),Df h2 hx λb hb=>hM b hb.1,h3⟩
def Cw(w:aL0)(p:Nat)(S:Nat->Prop)(l:List UInt8):Prop:=¬S p/\∃v,bD w p [v]/\DJ w S 1 v l.length (l.map gT)
theorem Cw.ext {w w':aL0}{p:Nat}{S M:Nat->Prop}{l:List UInt8}(h:Cw w p S l)(x:aL w w' M)(hp:¬M p)(hM:∀b,S b->¬M b):Cw w' p S l:=by
 obtain⟨h0,v,h1,h2⟩:=h
 exact⟨h0,v,h1.ext x hp,Df h2 x hM⟩
theorem Cw.lt {w:aL0}{p:Nat}{S:Nat->Prop}{l:List UInt8}(h:Cw w p S l):p<w.heap.size:=by
 obtain⟨_,v,h1,_⟩:=h;exact h1.lt
theorem yQ{w:aL0}{S:Nat->Prop}{sz n:Nat}{v:aL1}{l:List aL1}(o3:DJ w S sz v n l):∃a c,v= .slice a n c:=by
 rcases o3.2 with⟨rfl,rfl⟩|⟨b,c,rest,rfl,_⟩
 .exact ⟨_,_,rfl⟩
 .exact ⟨_,_,rfl⟩
theorem Vz{w:aL0}{S:Nat->Prop}{n:Nat}{v:aL1}{l:List aL1}(o3:DJ w S 1 v n l):Sl w v l:=by
 have:mP w 0 1 v n l:=⟨o3.1,by
  rcases o3.2 with h|⟨b,c,rest,g1,g2,g3⟩
  .exact .inl h
  .exact .inr ⟨b,c,rest,g1,by omega,g3⟩⟩
 exact this.sl
theorem axR(w:aL0):aG pg tT #[] w (λr w'=>r= .pointer (some ⟨w.heap.size,0,none⟩)/\w.heap.size<w'.heap.size/\Cw w' w.heap.size (λb=>w.heap.size<b) []/\aL w w' aT):=by
 refine PO ?_
 unfold L7 GS
 simp(disch:=omega)only[SV]
 refine cA λw1 o1 x1 s1=> ?_
 simp only[Value.cells]at o1
 exact⟨rfl,by omega,⟨by omega,_,o1,⟨rfl,.inl ⟨rfl,rfl⟩⟩⟩,x1⟩
theorem QW{p x n:Nat}{S:Nat->Prop}{l:List UInt8}{w:aL0}(h:Cw w p S l)(hS:∀b,w.heap.size<=b->S b)(hx:x<2^64)(hn:1<=n/\n<=8)(hl:l.length<=100000000):
 aG pg gU #[.pointer (some ⟨p,0,none⟩),.int .u64 x,.int .i64 n] w (λr w'=>r= .tuple #[]/\Cw w' p S (l++vP x n)/\aL w w' (λy=>y=p∨S y)):=by
 refine JW ?_
 unfold FG Cm Ck
 have d1:decide ((n:Int)<1)=false:=by simp;omega
 have d2:decide ((8:Int)<(n:Int))=false:=by simp;omega
 simp(disch:=omega)only[SV,d1,d2]
 unfold mS
 refine bM.rule (λm (t:aL1) w'=>∃i:Nat,m=n-i/\t= .int .i64 i/\i<=n/\Cw w' p S (l++vP x i)/\aL w w' (λy=>y=p∨S y)) n
  ⟨0,rfl,rfl,by omega,by rw[vP,aKf];exact h,aL.refl _ _⟩ ?_
 rintro m t w1 ⟨i,rfl,rfl,hi,hw,x1⟩
 unfold sP
 by_cases hlt:i<n
 .have d3:decide ((i:Int)<(n:Int))=true:=by simp;omega
  have e0:((8:Int)*(i:Int))=((8*i:Nat):Int):=by omega
  have e1:(x:Int).fdiv (2^(min (8*i) IntKind.u64.bits))=((x/256^i:Nat):Int):=by
   rw[ayP];exact afW x (8*i) (by omega)
  have e2:IntKind.u8.wrap ((x/256^i:Nat):Int)=(((UInt8.ofNat (x/256^i%256)).toNat:Nat):Int):=by
   rw[aKZ]
   generalize x/256^i=y
   rw[show IntKind.u8.wrap (y:Int)=(y:Int)%256 from rfl]
   omega
  obtain⟨c,hc⟩:∃c,c=UInt8.ofNat (x/256^i%256):=⟨_,rfl⟩
  rw[<-hc]at e2
  obtain⟨h0,v0,o,os⟩:=hw
  obtain⟨va,vc,rfl⟩:=yQ os
  have c0:=o.cell (off:=0)
  simp only[aJD,aJJ]at c0
  have lp:=o.lt
  have hsz:=x1.size
  have hpl:=dX i x
  rw[aJF,hpl]at os
  rw[aJF,hpl]at c0
  simp(disch:=omega)only[SV,d3,e0,e1,e2,c0,aJI,aJF,hpl]
  refine mH (cells:= #[.int .u8 c.toNat]) (by decide) (by decide) (by kernel_rfl) λw2 o2 x2 s2=> ?_
  refine zP (m:=1) (news:=[gT c]) (i:=Tryz.t5) Tryz.underlying22 Tryz.underlying22 Mh rfl rfl rfl (Df os x2 (λ_ _ h=>h)) (o2.cl (off:=0) (l:=[gT c]) (n:=1) rfl (λi hi=>by rw[aJG]<;>rfl)) (by simp[one,gT]) (λb hb=>hS b (by omega)) (by omega) (by rw[show Tryz.t5.bytes=1 from rfl];omega) (by decide) λv3 w3 o3 x3=> ?_
  have x13:aL w1 w3 S:=(x2.mono λ_ _ h=>h.elim).seq x3
  have op3:=o.ext x13 h0
  obtain⟨a3,c3,rfl⟩:=yQ o3
  refine abV op3 rfl (by simp) λw4 o4 x4 s4=> ?_
  simp only[aJV,aKi]at o4
  have x14:aL w1 w4 (λy=>y=p∨S y):=(x13.mono λy _ h=> .inr h).seq (x4.mono λy _ h=> .inl h)
  refine⟨n-(i+1),by omega,i+1,rfl,rfl,by omega,⟨h0,_,o4, ?_⟩,x1.seq x14⟩
  have:=Df o3 x4 (λb hb h=>h0 (h▸hb))
  rw[Tp,<-hc,<-aJW,aKb,aJF,aJF,dX]
  exact this
 .have d3:decide ((i:Int)<(n:Int))=false:=by simp;omega
  obtain rfl:i=n:=by omega
  simp(disch:=omega)only[SV,d3]
  exact⟨hw,x1⟩
theorem asV{p:Nat}{S:Nat->Prop}{l:List UInt8}{w:aL0}(h:Cw w p S l)(hl:l.length<=1000000000):
 aG pg nM #[.pointer (some ⟨p,0,none⟩)] w (λr w'=>mP w' w.heap.size 1 r l.length (l.map gT)/\aL w w' aT):=by
 refine Ns ?_
 unfold J9 FH
 obtain⟨h0,v0,o,os⟩:=h
 obtain⟨va,vc,rfl⟩:=yQ os
 have c0:=o.cell (off:=0)
 simp only[aJD,aJJ]at c0
 simp(disch:=omega)only[SV,c0]
 exact afK (Vz os) hl
end Go.Proofs.YteelnmpbnaohpaaGreatDoor
namespace Go.Proofs.YteelnmpbnaohpaaGreatDoor
open Go Go.En
set_option maxRecDepth 4000
theorem aE1 (l:List UInt8):∀y∈l.map gT,one y=true:=λy hy=>by
 obtain⟨z,-,rfl⟩:=aKq.1 hy;rfl
theorem aJd{w:aL0}{a:Option Addr}{n c:Nat}{l:List aL1}(h:Sl w (.slice a n c) l)(h0:0<n):∃b off,a=some ⟨b,off,none⟩/\∀i,i<n->w.cell? ⟨b,off+i,none⟩=l[i]?:=by
 obtain⟨a',n',c',e,hn,hc,hh⟩:=h
 cases e
 exact hh h0
end Go.Proofs.YteelnmpbnaohpaaGreatDoor
namespace Go.Proofs.YteelnmpbnaohpaaGreatDoor
open Go Go.En Go.Pu
set_option maxRecDepth 4000
abbrev amC(k v:Nat):aL1:= .agg #[.int .u8 (k:Int),.int .u64 (v:Int)]
abbrev qD(r:Nat×Nat):List aL1:=[.int .u8 (r.1:Int),.int .u64 (r.2:Int)]
theorem atX{k v:Nat}{w:aL0}(hg:nQ w)(hk:k<256)(hv:v<2^64):
 aG pg CD #[amC k v] w (λr w'=>(if k=1∨k=2 then∃b,r= .tuple #[b,.int .i64 0]/\mP w' w.heap.size 1 b 13 ((pA aY k v).map gT)else r= .tuple #[.slice none 0 0,.int .i64 1])/\aL w w' aT):=by
 refine adC ?_
 obtain⟨RR,hRR⟩:∃RR:aL1->aL0->Prop,RR=λr w'=>(if k=1∨k=2 then∃b,r= .tuple #[b,.int .i64 0]/\mP w' w.heap.size 1 b 13 ((pA aY k v).map gT)else r= .tuple #[.slice none 0 0,.int .i64 1])/\aL w w' aT:=⟨_,rfl⟩
 rw[<-hRR]
 unfold ahT Ux
 refine cA λw1 o1 x1 s1=> ?_
 have o1:bD w1 w.heap.size (qD (k,v)):=o1
 have c0:=o1.cell (off:=0)
 have c1:=o1.cell (off:=1)
 simp only[aJD,aJJ]at c0 c1
 by_cases h1:k<1
 .have d1:decide ((k:Int)<1)=true:=by simp;omega
  simp(disch:=omega)only[SV,c0,d1]
  rw[hRR]
  refine⟨?_,x1⟩
  rw[if_neg (by omega)]
 have d1:decide ((k:Int)<1)=false:=by simp;omega
 by_cases h2:2<k
 .have d2:decide ((2:Int)<(k:Int))=true:=by simp;omega
  simp(disch:=omega)only[SV,c0,d1,d2]
  rw[hRR]
  refine⟨?_,x1⟩
  rw[if_neg (by omega)]
 have d2:decide ((2:Int)<(k:Int))=false:=by simp;omega
 have e1:IntKind.u64.wrap (k:Int)=(k:Int):=gX (by omega) (by omega)
 simp(disch:=omega)only[SV,c0,d1,d2]
 refine(axR w1).mono ?_
 rintro r w2 ⟨rfl,s2,h2',x2⟩
 have p2:w2.cell? ⟨w.heap.size,0,none⟩=_:=(o1.ext x2 (λh=>h)).cell (off:=0)
 simp only[aJD,aJJ]at p2
 simp(disch:=omega)only[SV,p2,e1]
 refine(QW (x:=k) (n:=1) h2' (λb hb=>by omega) (by omega) ⟨by omega,by omega⟩ (by simp)).mono ?_
 rintro r w3 ⟨rfl,h3,x3⟩
 have z3:=x3.size
 have o3:=(o1.ext x2 (λh=>h)).ext x3 (by omega)
 have p3:=o3.cell (off:=1)
 simp only[aJD,aJJ]at p3
 simp(disch:=omega)only[SV,p3]
 refine(QW (x:=v) (n:=8) h3 (λb hb=>by omega) hv ⟨by omega,by omega⟩ (by simp[dX])).mono ?_
 rintro r w4 ⟨rfl,h4,x4⟩
 have z4:=x4.size
 have hH:[]++vP k 1++vP v 8=FQ k v:=rfl
 rw[hH]at h4
 have hHl:(FQ k v).length=9:=by unfold FQ;rw[aJF,dX,dX]
 have x14:aL w1 w4 aT:=(x2.trans x3 λy hy h=>by omega).trans x4 λy hy h=>by omega
 refine(asV h4 (by omega)).mono ?_
 rintro r w5 ⟨ho5,x5⟩
 refine(aE5 (l:=FQ k v) (hg.ext ((x1.seq x14).seq x5)) ho5.sl (by omega)).mono ?_
 rintro r w6 ⟨rfl,x6⟩
 have hcr:=aAm (FQ k v)
 have hM:iW=4294967296:=rfl
 have e2:IntKind.u64.wrap ((aY (FQ k v):Nat):Int)=((aY (FQ k v):Nat):Int):=gX (by omega) (by omega)
 have h6:=(h4.ext x5 (λh=>h) (λ_ _ h=>h)).ext x6 (λh=>h) (λ_ _ h=>h)
 have z5:=x5.size
 have z6:=x6.size
 simp(disch:=omega)only[SV,e2]
 refine(QW (x:=aY (FQ k v)) (n:=4) h6 (λb hb=>by omega) (by omega) ⟨by omega,by omega⟩ (by omega)).mono ?_
 rintro r w7 ⟨rfl,h7,x7⟩
 have z7:=x7.size
 have hR:FQ k v++vP (aY (FQ k v)) 4=pA aY k v:=rfl
 rw[hR]at h7
 have h13:=oX aY k v
 refine(asV h7 (by omega)).mono ?_
 rintro r w8 ⟨ho8,x8⟩
 have x17:aL w1 w7 aT:=((x14.seq x5).seq x6).trans x7 λy hy h=>by omega
 rw[h13]at ho8
 rw[hRR]
 refine⟨?_,(x1.seq x17).seq x8⟩
 rw[if_pos (by omega)]
 refine⟨r,rfl,ho8.1, ?_⟩
 rcases ho8.2 with h|⟨b,c,rest,g1,g2,g3⟩
 .exact .inl h
 .exact .inr ⟨b,c,rest,g1,by have:=x1.size;have:=x17.size;omega,g3⟩
theorem ahP{k:Nat}{l:List (Nat×Nat)}{i:Nat}(h:i<l.length):dU k (l.take (i+1))=if l[i].1=k then max l[i].2 (dU k (l.take i))else dU k (l.take i):=by
 rw[aJ3 h,ahO]
theorem ZF{l:List (Nat×Nat)}{i:Nat}(h:i<l.length):((l.flatMap qD).drop (i*2)).take 2=qD l[i]:=by
 induction l generalizing i with
 |nil=>simp at h
 |cons a l ih=>
  cases i with
  |zero=>rfl
  |succ i=>
   rw[aKz,show(i+1)*2=2+i*2 from by omega,<-aLf]
   have:((qD a++l.flatMap qD).drop 2)=l.flatMap qD:=rfl
   rw[this,ih (by simpa using h)]<;>rfl
theorem RX(l:List (Nat×Nat)):(l.flatMap qD).length=l.length*2:=by
 induction l with
 |nil=>rfl
 |cons a l ih=>
  rw[aKz,aJF,ih,aJX]
  simp only[aJX,aKD];omega
theorem aBE{v:aL1}{l:List (Nat×Nat)}{k:Nat}{w:aL0}(hv:∃S,DJ w S 2 v l.length (l.flatMap qD))(hl:l.length<=100000000)(ho:∀r∈l,r.1<256/\r.2<2^64)(hk:k<256):
 aG pg ES #[v,.int .u8 (k:Nat)] w (λr w'=>(∃t,r= .tuple #[.int .u64 (dU k l:Nat),.bool t])/\aL w w' aT):=by
 refine Zr ?_
 obtain⟨S,hs⟩:=hv
 unfold aaY O3 O2 IG IF RE C8
 obtain⟨a,c,rfl⟩:=yQ hs
 simp(disch:=omega)only[SV]
 refine bM.rule (λm (t:aL1×aL1×aL1) w'=>∃(i:Nat) (tb:Bool),m=l.length-i/\i<=l.length/\t=(.int .u64 (dU k (l.take i):Nat),.bool tb,.int .i64 (i:Nat))/\aL w w' aT) l.length ⟨0,false,rfl,by omega,rfl,aL.refl _ _⟩ ?_
 rintro m t w1 ⟨i,tb,rfl,hi,rfl,x1⟩
 unfold IE RD
 by_cases hlt:i<l.length
 .have d1:decide ((i:Int)<(l.length:Int))=true:=by simp;omega
  obtain⟨h1,h2⟩:=ho _ (aKp hlt)
  rcases(hs.ext x1 (λ_ _ h=>h)).2 with⟨_,h0⟩|⟨b,c',rest,hv,hb,ob,hbl,hbc⟩
  .omega
  cases hv
  have l1:=xM (off:=i*2) ob (by rw[aJF,RX];omega)
  rw[aKo (by rw[RX];omega),aKh (by rw[aJS,RX];omega),ZF hlt]at l1
  have hlast:=ahP (k:=k) hlt
  obtain⟨M,hM⟩:∃M,M=dU k (l.take i):=⟨_,rfl⟩
  rw[<-hM]at hlast⊢
  simp(disch:=omega)only[SV,d1,l1]
  refine Ed λw2 o2 x2 s2=> ?_
  refine DF o2 rfl (by simp[one]) (by decide) λw3 o3 x3 s3=> ?_
  have x13:aL w w3 aT:=(x1.seq x2).trans x3 λy hy h=>by have:=x1.size;omega
  have o3:bD w3 w1.heap.size (qD l[i]):=o3
  have c0:=o3.cell (off:=0)
  have c1:=o3.cell (off:=1)
  simp only[aJD,aJJ]at c0 c1
  have e3:(if(((l[i]'hlt).2:Nat):Int)>(M:Int)then(((l[i]'hlt).2:Nat):Int)else(M:Int))=((max (l[i]'hlt).2 M:Nat):Int):=by split<;>omega
  by_cases hq:(l[i]'hlt).1=k
  .have n1:((((l[i]'hlt).1:Nat):Int)==(k:Int))=true:=by rw[hq];simp
   rw[if_pos hq]at hlast
   unfold C7
   simp(disch:=omega)only[SV,c0,c1,n1,e3]
   exact⟨l.length-(i+1),by omega,i+1,true,rfl,by omega,by rw[hlast]<;>rfl,x13⟩
  .have n1:((((l[i]'hlt).1:Nat):Int)==(k:Int))=false:=by rw[beq_eq_false_iff_ne];omega
   rw[if_neg hq]at hlast
   unfold C7
   simp(disch:=omega)only[SV,c0,c1,n1,e3]
   exact⟨l.length-(i+1),by omega,i+1,tb,rfl,by omega,by rw[hlast]<;>rfl,x13⟩
 .have d1:decide ((i:Int)<(l.length:Int))=false:=by simp;omega
  unfold ID
  rw[aJH (by omega)]
  simp(disch:=omega)only[SV,d1]
  exact⟨⟨tb,rfl⟩,x1⟩
theorem aDt{v:aL1}{l:List UInt8}{w:aL0}(hg:nQ w)(hv:Bs w v l)(hl:l.length<=100000000):
 aG pg AS #[v] w (λr w'=>r= .agg ((aX l).map gT).toArray/\aL w w' aT):=by
 refine Zv ?_
 unfold abA RP
 refine BI λw1 o1 x1 s1=> ?_
 have o1:bD w1 w.heap.size (List.replicate 32 (.int .u8 0)):=o1
 refine mH (cells:= #[.int .u8 0]) (by decide) (by decide) (by kernel_rfl) λw2 o2 x2 s2=> ?_
 have o2:bD w2 w1.heap.size [.int .u8 0]:=o2
 have hos:mP w2 w1.heap.size 1 (.slice (some ⟨w1.heap.size,0,none⟩) 1 1) 1 [.int .u8 0]:=⟨rfl,.inr ⟨_,1,[],rfl,aJO _,o2,rfl,aJO _⟩⟩
 have hcl:=(hv.ext (x1.seq x2) (bC _)).cl
 rw[aJC]at hcl
 refine iY hos hcl (aE1 _) (by omega) (by omega) λv3 w3 o3 x3=> ?_
 have o3:mP w3 w1.heap.size 1 v3 (1+l.length) ((0::l).map gT):=o3
 have z3:=x3.size
 have x03:aL w w3 aT:=(x1.seq x2).trans x3 λy hy h=>by omega
 have z0:w1.heap.size=w.heap.size+1:=s1
 refine(aFU (l:=0::l) (hg.ext x03) o3.sl (by simp;omega)).mono ?_
 rintro r w4 ⟨rfl,x4⟩
 have r4:=((o1.ext x2 (λh=>h)).ext x3 (by omega)).ext x4 (λh=>h)
 have hl32:((aX l).map gT).length=32:=by rw[aJC];exact vS _
 refine F9 r4 (by rw[aKL];exact hl32) (λy hy=>Eg _ y (by simpa using hy)) (by simp) λw5 o5 x5 s5=> ?_
 rw[aJZ,uZ _ _ (by rw[aJC,vS];simp)]at o5
 refine FM o5 (by rw[aJC];have:=vS (0::l);omega) ?_
 rw[aJY,aJH (by rw[aJC];have:=vS (0::l);omega)]
 exact⟨rfl,(x03.seq x4).trans x5 λy hy h=>by omega⟩
end Go.Proofs.YteelnmpbnaohpaaGreatDoor
namespace Go.En
open Go
section
variable{P:Program}
theorem WA{a:Array aL1}{t x:Nat}{v:aL1}(h:t<a.size):KT (a.setIfInBounds t v) x=if x=t then v else KT a x:=by
 unfold KT
 rw[aJR,aJR]
 by_cases hx:x=t
 .subst hx;rw[aJ8 h,if_pos rfl]<;>rfl
 .rw [aKa (λe=>hx e.symm),if_neg hx]
theorem anL{N x:Nat}{g:Env}(h:x<N):KT (tmpsOf N g) x=g x:=by
 unfold KT tmpsOf
 rw[aJR,aJ6 (by simpa using h)]
 simp
theorem aFK{f:FuncId}{fn:Func}(hf:P.funcs[f]?=some fn)(hb:fn.body.isSome=true)(hn:(fn.name== "runtime.NumGoroutine")=false)(cap:Array aL1)(args:List aL1)(w:aL0):
 (AO (.func (.func f) #[] cap) args).run P w= .ok (.enter f (args.toArray++cap)) w:=by
 unfold AO Deferred.ofValue
 simp only[pure_bind,invoke,Array.empty_append]
 exact Nj hf hb hn _ _
def VI(r:Loop)(args:List aL1):Array aL1:=(r.params.zip args.toArray).foldl (λtmps (t,a)=>tmps.setIfInBounds t a) r.tmps
theorem aAQ{r:Loop}{a:Tmp}{t:Array aL1}(hp:r.params= #[a])(ht:r.tmps=t)(x:aL1):VI r [x]=t.setIfInBounds a x:=by
 unfold VI;rw[hp,ht];simp
theorem aqP{l:Nat}{r:Loop}{args:List aL1}{w:aL0}(h:w.heap[l]?=some (.loop r))(hs:args.length=r.params.size):
 (AO (GM l) args).run P w= .ok (.round l r.fn (VI r args) r.assign r.body) w:=by
 unfold AO GM Deferred.ofValue
 simp only[pure_bind,invoke,Array.empty_append]
 exact run_yield h (by simpa using hs)
theorem asA{f fi:FuncId}{fn:Func}{gf:Operand}{ps:Array Tmp}{aJB bd:Code}{Q:Exit->Env->aL0->Prop}{g:Env}{w:aL0}{cap:Array aL1}
 (hm:noMark (g DS)=true) (he:ev g gf= .func (.func fi) #[] cap) (hf:P.funcs[fi]?=some fn) (hb:fn.body.isSome=true) (hn:(fn.name== "runtime.NumGoroutine")=false)
 (h:aG P fi (#[GM (w.heap.size+1)]++cap) (rfW f (RS P f) ps aJB bd g w) λ_ w3=>aCE (w.heap.size+1) Q (put g (some DS) (.pointer (some ⟨w.heap.size,0,none⟩))) w3):
 RF P f gf ps aJB bd Q g w:=by
 unfold RF
 rw[hm]
 simp only
 rw[he,aFK hf hb hn]
 exact h
theorem aL.putObj (w:aL0)(l:Nat)(o:Obj):aL w (w.putObj l o) (λy=>y=l):=
 ⟨rfl,rfl,rfl,by simp,λb hb hM=>World.putObj_heap_other hM⟩
theorem wM{w w':aL0}{l:Nat}{o:Obj}{M:Nat->Prop}(h:w.heap[l]?=some o)(hx:aL w w' M)(hM:¬M l):w'.heap[l]?=some o:=by
 have:l<w.heap.size:=by
  rcases aKA l w.heap.size with h'|h'
  .exact h'
  .rw [aKn h']at h;cases h
 rw[hx.keep l this hM];exact h
theorem aDx{w:aL0}{l:Nat}{o:Obj}(h:w.heap[l]?=some o):l<w.heap.size:=by
 rcases aKA l w.heap.size with h'|h'
 .exact h'
 .rw [aKn h']at h;cases h
theorem aoL(f:FuncId)(N:Nat)(ps:Array Tmp)(aJB bd:Code)(g:Env)(w:aL0):
 aL w (rfW f N ps aJB bd g w) aT/\(rfW f N ps aJB bd g w).heap.size=w.heap.size+2/\(rfW f N ps aJB bd g w).heap[w.heap.size]?=some (.deferred (some []))/\
  (rfW f N ps aJB bd g w).heap[w.heap.size+1]?=some (.loop {state:= .ready,pending:=none,fn:=f,tmps:=tmpsOf N g,params:=ps,assign:=aJB,body:=bd,defers:=w.heap.size}):=by
 unfold rfW
 have x1:=aL.alloc w (.deferred (some [])) aT
 have h1:=World.alloc_heap_new w (.deferred (some []))
 have z1:(w.alloc (.deferred (some []))).heap.size=w.heap.size+1:=by simp
 generalize w.alloc (.deferred (some []))=w1 at*
 refine⟨x1.seq (aL.alloc w1 _ aT),by simp[z1],wM h1 (aL.alloc w1 _ aT) (λh=>h), ?_⟩
 have:=World.alloc_heap_new w1 (.loop {state:= .ready,pending:=none,fn:=f,tmps:=tmpsOf N g,params:=ps,assign:=aJB,body:=bd,defers:=w.heap.size})
 rw[z1]at this
 exact this
theorem aoC{l:Nat}{r:Loop}{w:aL0}{K:aL0->Prop}(h:w.heap[l]?=some (.loop r))(hr:r.state= .ready)
 (hk:∀w',w'.heap[l]?=some (.loop {r with state:= .busy})->aL w w' (λy=>y=l)->w'.heap.size=w.heap.size->K w'):Rdy l w K:=
 ⟨r,h,hr,hk _ (World.putObj_heap_same (aDx h)) (aL.putObj _ _ _) (by simp)⟩
theorem VG{l:Nat}{r:Loop}{j:Option Code}{w:aL0}{R:aL1->aL0->Prop}(h:w.heap[l]?=some (.loop r))
 (hk:∀w',w'.heap[l]?=some (.loop {r with state:=jSt j,pending:=j})->aL w w' (λy=>y=l)->w'.heap.size=w.heap.size->R (.bool j.isNone) w'):agE l j R w:=
 ⟨r,h,hk _ (World.putObj_heap_same (aDx h)) (aL.putObj _ _ _) (by simp)⟩
theorem SB{l:Nat}{r:Loop}{w:aL0}{Q:Exit->Env->aL0->Prop}{g:Env}(h:w.heap[l]?=some (.loop r))(hb:r.state≠.busy)
 (hk:∀w',aL w w' (λy=>y=l)->w'.heap.size=w.heap.size->aGM Q g r.pending w'):aCE l Q g w:=
 ⟨r,h,hb,hk _ (aL.putObj _ _ _) (by simp)⟩
theorem akI{b:Nat}{w:aL0}{K:aL0->Prop}(h:w.heap[b]?=some (.deferred (some [])))(hk:∀w',aL w w' (λy=>y=b)->w'.heap.size=w.heap.size->K w'):
 G3 (.pointer (some ⟨b,0,none⟩)) w K:=⟨h,hk _ (aL.putObj _ _ _) (by simp)⟩
theorem RV{f:FuncId}(first captured:List aL1)(w:aL0):(Pn (.func f) first captured).run P w= .ok (.value (.func (.func f) first.toArray captured.toArray)) w:=by
 unfold Pn V Instr.makeFunc
 simp[Sem.run_bind,Sem.run_pure]
end
end Go.En
namespace Go.En
open Go
theorem auX{P:Program}{w:aL0}{t e:TypeId}{k k' k'':IntKind}{lo hi mx:Int}{i:TypeInfo}(hu:P.underlying t=some (.slice e))(hi':P.info? e=some i)(x:Option Addr)(n c:Nat)(h0:0<=lo)(h0':lo<=hi)(h1:hi<=mx)(h2:mx<=c):
 (dH t (.slice x n c) (some (.int k lo)) (some (.int k' hi)) (some (.int k'' mx))).run P w= .ok (.value (.slice (dD x mx.toNat lo.toNat i.size) (hi.toNat-lo.toNat) (mx.toNat-lo.toNat))) w:=by
 have h3:(0:Int)<=mx:=by omega
 have h4:hi<=(mx.toNat:Int):=by omega
 have h5:(0:Int)<=hi:=by omega
 have h6:lo<=(hi.toNat:Int):=by omega
 simp only[dH,jJ,Instr.sliceAt,underlying,hu,Sem.run_bind,run_program,Result.andThen_ok,Sem.run_pure,Instr.slice,Instr.sliceBounds,pure_bind,lJ h3 h2,lJ h5 h4,lJ h0 h6,eB hi',dD]
theorem aHi{w:aL0}{a:Option Addr}{n c:Nat}{l:List aL1}(h:Sl w (.slice a n c) l){i j:Nat}(hij:i<j)(hj:j<=n):Sl w (.slice (dD a j i 1) (j-i) (j-i)) ((l.drop i).take (j-i)):=by
 obtain⟨a',n',c',e,hn,hc,h⟩:=h
 cases e
 refine⟨_,_,_,rfl,by rw[aJP,aJS];omega,aJO _,λh0=> ?_⟩
 obtain⟨b,off,rfl,h2⟩:=h (by omega)
 have hs:dD (some ⟨b,off,none⟩) j i 1=some ⟨b,off+i,none⟩:=by unfold dD;rw[if_neg (by omega),aKs];unfold Addr.add;simp
 refine⟨b,off+i,hs,λq hq=> ?_⟩
 rw[aKE (by omega),aK7,aKy]
 exact h2 (i+q) (by omega)
theorem aFj{a:Option Addr}{n c i j:Nat}{M:Nat->Prop}(hij:i<j)(hj:j<=n)(h:fK (.slice (dD a j i 1) (j-i) (j-i)) M):fK (.slice a n c) M:=by
 obtain⟨n',rfl⟩:∃n',n=n'+1:=⟨n-1,by omega⟩
 obtain⟨d,hd⟩:∃d,j-i=d+1:=⟨j-i-1,by omega⟩
 rw[hd]at h
 cases a with
 |none=>unfold dD at h;rw[if_neg (by omega)]at h;exact h
 |some x=>
  have hs:dD (some x) j i 1=some (x.add (i*1)):=by unfold dD;rw[if_neg (by omega)]<;>rfl
  rw[hs]at h
  have e:(x.add (i*1)).block=x.block:=by unfold Addr.add;split<;>rfl
  have h3:M (x.add (i*1)).block:=h
  rw[e]at h3
  exact h3
end Go.En
namespace Go.Proofs.YteelnmpbnaohpaaGreatDoor
open Go Go.En Go.Pu
set_option maxRecDepth 4000
set_option linter.unusedSimpArgs false
set_option linter.unusedVariables false
theorem aE3 {l:List UInt8}{v:aL1}{box bn lp:Nat}{r0:Loop}{w:aL0}(I:Nat->aL0->Prop)(S:aL0->Prop)
 (hI:∀i W,I i W->bD W box [v]/\bD W bn [.int .i64 13]/\Bs W v l/\W.heap[lp]?=some (.loop r0)) (hD:∀i W,I i W->I i (dr W)) (hp:r0.params.size=1) (hl:l.length<=1000000000) (h0:I 0 w)
 (hs:∀i W pv,i<l.length->I i W->Bs W pv ((l.drop i).take 13)->(∀M:Nat->Prop,fK pv M->fK v M)->aaH pg lp r0.fn (VI r0 [pv]) r0.assign r0.body W (λb W'=>(b= .bool true/\I (i+13) W')∨(b= .bool false/\S W'))):
 aG pg iU #[GM lp,.pointer (some ⟨box,0,none⟩),.pointer (some ⟨bn,0,none⟩)] w (λr W=>r= .tuple #[]/\((∃i,l.length<=i/\I i W)∨S W)):=by
 refine Jq ?_
 obtain⟨RR,hRR⟩:∃RR:aL1->aL0->Prop,RR=λr W=>r= .tuple #[]/\((∃i,l.length<=i/\I i W)∨S W):=⟨_,rfl⟩
 rw[<-hRR]
 unfold DT Bk Bj mB
 try simp only[true_and]
 refine bM.rule (λm (t:aL1) w'=>∃i:Nat,m=l.length-i/\t= .int .i64 (i:Nat)/\i<=l.length+13/\I i w') l.length ⟨0,rfl,rfl,by omega,h0⟩ ?_
 rintro m t w1 ⟨i,rfl,rfl,hi,hIw⟩
 obtain⟨o,on,hb,hlp⟩:=hI _ _ hIw
 obtain⟨a,c,rfl,hc⟩:=hb.len
 rw[aJC]at hb hc o
 have c1:=o.cell (off:=0)
 have c1d:=(dB o).cell (off:=0)
 have c2:=on.cell (off:=0)
 have c2d:=(dB on).cell (off:=0)
 simp only[aJD]at c1 c1d c2 c2d
 unfold rK
 by_cases hlt:i<l.length
 .have d1:decide ((i:Int)<(l.length:Int))=true:=by simp;omega
  obtain⟨q,hq⟩:∃q,q=min 13 (l.length-i):=⟨_,rfl⟩
  have e1:((l.length-i:Nat):Int)=((l.length-i:Nat):Int):=rfl
  have e2:(if((l.length-i:Nat):Int)<(13:Int)then((l.length-i:Nat):Int)else(13:Int))=(q:Int):=by split<;>omega
  have e3:(i:Int)+(q:Int)=((i+q:Nat):Int):=by omega
  have l1:=λw=>auX (P:=pg) (w:=w) (k:= .i64) (k':= .i64) (k'':= .i64) (lo:=(i:Int)) (hi:=((i+q:Nat):Int)) (mx:=((i+q:Nat):Int)) Tryz.underlying22 Mh a l.length c (by omega) (by omega) (by omega) (by omega)
  rw[aJC]at hI hs
  obtain⟨pv,hpv⟩:∃pv,pv=Value.slice (dD a (i+q) i 1) (i+q-i) (i+q-i):=⟨_,rfl⟩
  have l1:∀w,(dH 22 (.slice a l.length c) (some (.int .i64 (i:Nat))) (some (.int .i64 ((i+q:Nat):Int))) (some (.int .i64 ((i+q:Nat):Int)))).run pg w= .ok (.value pv) w:=λw=>by rw[hpv];exact l1 w
  have hpb:Bs w1 pv ((l.drop i).take 13):=by
   have:=aHi hb (i:=i) (j:=i+q) (by omega) (by omega)
   rw[<-aLj,<-aLD]at this
   rw[hpv]
   have e:(l.drop i).take 13=(l.drop i).take (i+q-i):=by
    rw[hq]
    by_cases h13:13<=l.length-i
    .rw [aJ5 h13,aKG]
    .rw [Nat.min_eq_right (by omega),aJH (by rw[aJS];omega),aJH (by rw[aJS];omega)]
   rw[e];exact this
  have hpn:∀M:Nat->Prop,fK pv M->fK (.slice a l.length c) M:=λM h=>aFj (i:=i) (j:=i+q) (by omega) (by omega) (by rw[hpv]at h;exact h)
  have qd:(dr w1).heap[lp]?=some (.loop r0):=hlp
  have q1:=aqP (P:=pg) (args:=[pv]) hlp (by rw[hp]<;>rfl)
  have q1d:=aqP (P:=pg) (args:=[pv]) qd (by rw[hp]<;>rfl)
  simp(disch:=omega)only[aA,Co,c1,bK,uS,true_and,aI,mK,eX,d1,c2d,c1d,yY,aJI,aoA,e2,fT,e3,dG,l1,q1d,abW,cN]
  obtain⟨b',w2,hret,hR⟩:=hs i (dr w1) pv hlt (hD _ _ hIw) (hpb.ext (aL.dr _ aT) (bC _)) hpn
  refine⟨b',w2,hret, ?_⟩
  rcases hR with⟨rfl,hI2⟩|⟨rfl,hS⟩
  .obtain ⟨_,on2,_,_⟩:=hI _ _ hI2
   have c3:=on2.cell (off:=0)
   simp only[aJD]at c3
   have e4:(i:Int)+13=((i+13:Nat):Int):=by omega
   simp(disch:=omega)only[UD,aKS,aI,c3,bK,fT,e4,dG,bH]
   exact⟨l.length-(i+13),by omega,i+13,rfl,rfl,by omega,hI2⟩
  .simp (disch:=omega)only[UD,aKC,aI,cN]
   rw[hRR]
   exact⟨rfl,.inr hS⟩
 .have d1:decide ((i:Int)<(l.length:Int))=false:=by simp;omega
  simp(disch:=omega)only[aA,Co,c1,bK,uS,true_and,aI,mK,eX,d1,bH]
  rw[hRR]
  exact⟨rfl,.inl ⟨i,by omega,hIw⟩⟩
end Go.Proofs.YteelnmpbnaohpaaGreatDoor
namespace Go.Proofs.YteelnmpbnaohpaaGreatDoor
open Go Go.En Go.Pu
set_option maxRecDepth 4000
theorem aFd{ox oy:Operand}(a b a' b':Int)(w:aL0):(aE .eql 109 ox oy (.agg #[.int .u8 a,.int .u64 b]) (.agg #[.int .u8 a',.int .u64 b'])).run pg w= .ok (.value (.bool (a==a'&&b==b'))) w:=by
 have a3:∀w,(isAgg 26).run pg w= .ok false w:=λw=>by kernel_rfl
 have a5:∀w,(isAgg 5).run pg w= .ok false w:=λw=>by kernel_rfl
 have u3:=Tryz.underlying26
 have u5:=Tryz.underlying5
 have g0:pg.eqGuardType pg.depth 109=false:=by kernel_rfl
 have g1:pg.underlying 109=some (.struct (pg.fieldsOf 109)):=by kernel_rfl
 have g2:pg.stoodInHeld 109=false:=by kernel_rfl
 unfold aE
 simp only[Eo,jJ,Sem.run_bind,run_eqGuard_agg w .eql 109 ox oy _ _ g0,Result.andThen_ok,run_eql_struct]
 rw[run_equalIn_agg w 9999 109 _ _ g1 g2]
 simp only[Program.fieldsOf,Tryz.underlying109,Op.eqFields]
 simp[part,a3,a5,run_equalIn_int w 9998 26 _ _ _ _ u3,run_equalIn_int w 9998 5 _ _ _ _ u5]
 by_cases h1:a=a'<;>by_cases h2:b=b'<;>simp[h1,h2]
theorem Zp(cf:List UInt8->Nat):∀(n m:Nat) (b:List UInt8),b.length<=n->b.length<=m->P6 cf n b=P6 cf m b
 |0,m,b,h,_=>by
  have:b=[]:=aKd.1 (by omega)
  subst this
  cases m<;>simp[P6]
 |n+1,0,b,_,h=>by
  have:b=[]:=aKd.1 (by omega)
  subst this
  simp[P6]
 |n+1,m+1,b,h,h'=>by
  rw[P6,P6]
  by_cases hb:b=[]
  .rw [if_pos hb,if_pos hb]
  .have hl:0<b.length:=List.length_pos_iff.2 hb
   rw[if_neg hb,if_neg hb,Zp cf n m (b.drop 13) (by rw[aJS];omega) (by rw[aJS];omega)]
theorem Zq{cf:List UInt8->Nat}{b:List UInt8}(h:b≠[]):gB cf b=if Me cf (b.take 13)then(rdK (b.take 13),rdV (b.take 13))::gB cf (b.drop 13)else[]:=by
 have hl:0<b.length:=List.length_pos_iff.2 h
 unfold gB
 rw[Zp cf b.length (b.length-1+1) b (aJO _) (by omega),P6,if_neg h,Zp cf (b.length-1) (b.drop 13).length (b.drop 13) (by rw[aJS];omega) (aJO _)]
theorem tk1 {p:List UInt8}(h:0<p.length):tkR p 0 1=(p.take 1,p.drop 1,0):=by
 unfold tkR;rw[if_neg (by decide),if_neg (by omega)]
theorem tk8 {p:List UInt8}:DL (tkR (p.drop 1) 0 8).1=rdV p:=by
 unfold tkR rdV
 rw[if_neg (by decide),aJS]
 by_cases h:p.length<9
 .rw [if_pos (by omega),if_pos h]<;>rfl
 .rw [if_neg (by omega),if_neg h]
theorem aDu:amI bX= #[13]:=by kernel_rfl
theorem aGU:RS pg fY=46:=by kernel_rfl
def aoD(w:aL0)(base:Nat)(o:aL1)(R:List (Nat×Nat)):Prop:=DJ w (λb=>base<=b) 2 o R.length (R.flatMap qD)
theorem aBG{l:List UInt8}{v:aL1}{w:aL0}(hg:nQ w)(hb:Bs w v l)(hl:l.length<=100000000):
 aG pg fY #[v] w (λr w'=>∃o,r= .tuple #[o,.int .i64 ((13*(gB aY l).length:Nat):Int)]/\aoD w' w.heap.size o (gB aY l)/\aL w w' aT):=by
 refine Zs ?_
 obtain⟨RR,hRR⟩:∃RR:aL1->aL0->Prop,RR=λr w'=>∃o,r= .tuple #[o,.int .i64 ((13*(gB aY l).length:Nat):Int)]/\aoD w' w.heap.size o (gB aY l)/\aL w w' aT:=⟨_,rfl⟩
 rw[<-hRR]
 unfold aaZ O5 O4 IL RJ
 refine Tx λw1 o1 x1 s1=> ?_
 refine aGE λw2 o2 x2 s2=> ?_
 refine DD o2 rfl (by simp) λw3 o3 x3 s3=> ?_
 simp only[aJV]at o3
 unfold IK IJ RI
 refine OG ?_
 unfold Kx FV FU
 obtain⟨va,vn,vc,hv,-⟩:=id hb
 subst hv
 refine cA λw4 o4 x4 s4=> ?_
 simp only[Value.cells]at o4
 refine cA λw5 o5 x5 s5=> ?_
 simp only[Value.cells]at o5
 have c5:=o5.cell (off:=0)
 simp only[aJD]at c5
 have d5:decide ((13:Int)<1)=false:=rfl
 have q1:=λw=>RV (P:=pg) (f:=iU) [] [.pointer (some ⟨w3.heap.size,0,none⟩),.pointer (some ⟨w4.heap.size,0,none⟩)] w
 unfold yZ
 simp(disch:=omega)only[SV,c5,d5,q1]
 unfold II IH
 intro g g4 g5 g12 gm
 generalize hn0:w.heap.size=n0 at*
 have e1:w1.heap.size=n0+1:=by omega
 have e3:w3.heap.size=n0+2:=by omega
 have e4:w4.heap.size=n0+3:=by omega
 have e5:w5.heap.size=n0+4:=by omega
 rw[e1]at o2 o3 x3 g5
 rw[e3]at o4 g12
 rw[e4]at o5 g12
 have x03:aL w w3 aT:=(x1.seq x2).trans x3 λy hy h=>by omega
 have x05:aL w w5 aT:=(x03.seq x4).seq x5
 have b1:bD w5 n0 [.slice none 0 0]:=(((o1.ext x2 (λh=>h)).ext x3 (by omega)).ext x4 (λh=>h)).ext x5 (λh=>h)
 have b2:bD w5 (n0+1) [.int .i64 0]:=(o3.ext x4 (λh=>h)).ext x5 (λh=>h)
 have b3:bD w5 (n0+2) [.slice va vn vc]:=o4.ext x5 (λh=>h)
 refine asA (fi:=iU) (cap:= #[.pointer (some ⟨n0+2,0,none⟩),.pointer (some ⟨n0+3,0,none⟩)]) (by show noMark (g 1000003)=true;rw[gm]<;>rfl) g12 Tryz.func111 (by kernel_rfl) (by kernel_rfl) ?_
 obtain⟨x8,s8,d8,l8⟩:=aoL fY (RS pg fY) (amI bX) (aeP bX) (Yh bX) g w5
 rw[e5]at s8 d8 l8⊢
 generalize rfW fY (RS pg fY) (amI bX) (aeP bX) (Yh bX) g w5=w8 at*
 obtain⟨r0,hr0⟩:∃r0:Loop,r0={state:= .ready,pending:=none,fn:=fY,tmps:=tmpsOf (RS pg fY) g,params:=amI bX,assign:=aeP bX,body:=Yh bX,defers:=n0+4}:=⟨_,rfl⟩
 rw[<-hr0]at l8
 have x08:aL w w8 aT:=x05.seq x8
 let M:Nat->Prop:=λy=>y=n0+5∨y=n0∨y=n0+1∨n0+5<y
 let Q:Nat->aL0->List (Nat×Nat)->Prop:=λbase W R=>∃ov,aL w8 W M/\bD W n0 [ov]/\bD W (n0+1) [.int .i64 ((13*R.length:Nat):Int)]/\DJ W (λb=>n0+5<b) 2 ov R.length (R.flatMap qD)
 let I:Nat->aL0->Prop:=λi W=>∃R,gB aY l=R++gB aY (l.drop i)/\W.heap[n0+5]?=some (.loop r0)/\R.length<=i/\Q n0 W R
 let S:aL0->Prop:=λW=>W.heap[n0+5]?=some (.loop {r0 with state:= .done,pending:=some (.exit 0)})/\Q n0 W (gB aY l)
 have hQd:∀{W R},Q n0 W R->Q n0 (dr W) R:=λ{W R} ⟨ov,h1,h2,h3,h4⟩=>⟨ov,h1.seq (aL.dr _ _),h2.ext (aL.dr _ aT) (λh=>h),h3.ext (aL.dr _ aT) (λh=>h),h4.ext (aL.dr _ aT) (λ_ _ h=>h)⟩
 have hmain:=aE3 (l:=l) (v:= .slice va vn vc) (box:=n0+2) (bn:=n0+3) (lp:=n0+5) (r0:=r0) (w:=w8) I S ?hI ?hD ?hp (by omega) ?h0 ?hs
 case hI=>
  rintro i W ⟨R,hR,hlp,hRl,ov,hx,q1,q2,q3⟩
  exact⟨(b3.ext x8 (λh=>h)).ext hx (by omega),(o5.ext x8 (λh=>h)).ext hx (by omega),hb.ext (x08.trans hx λy hy h=>by omega) (bC _),hlp⟩
 case hD=>
  rintro i W ⟨R,hR,hlp,hRl,hq⟩
  exact⟨R,hR,hlp,hRl,hQd hq⟩
 case hp=>rw[hr0,aDu]<;>rfl
 case h0=>exact⟨[],rfl,l8,aJO _,_,aL.refl _ _,b1.ext x8 (λh=>h),b2.ext x8 (λh=>h),⟨rfl,.inl ⟨rfl,rfl⟩⟩⟩
 case hs=>
  rintro i W pv hi ⟨R,hR,hlp,hRl,ov,hx,q1,q2,q3⟩ hpb hpn
  have zW:=hx.size
  have y08:aL w W aT:=x08.trans hx λy hy h=>by omega
  have hT:VI r0 [pv]=(tmpsOf 46 g).setIfInBounds 13 pv:=aAQ (by rw[hr0];exact aDu) (by rw[hr0];simp only;rw[aGU]) _
  have hE:∀{x:Nat} {u v:aL1},x<13->g x=u->KT ((tmpsOf 46 g).setIfInBounds 13 v) x=u:=λ{x u v} h1 h2=>by
   rw[WA (by simp[tmpsOf]),if_neg (by omega),anL (by omega),h2]
  have hE13:∀{v:aL1},KT ((tmpsOf 46 g).setIfInBounds 13 v) 13=v:=λ{v}=>by
   rw[WA (by simp[tmpsOf]),if_pos rfl]
  rw[hT]
  subst hr0
  refine WS (by simp[tmpsOf]) ?_
  rw[hE (by omega) g4,hE (by omega) g5,hE13]
  unfold O6 Da
  refine aoC hlp rfl λW1 l1 y1 z1=> ?_
  obtain⟨p,hp⟩:∃p,p=(l.drop i).take 13:=⟨_,rfl⟩
  rw[<-hp]at hpb
  have hpl:p.length=min 13 (l.length-i):=by rw[hp,aJP,aJS]
  have hne:l.drop i≠[]:=λh=>by have:=congrArg List.length h;rw[aJS]at this;simp at this;omega
  have hstep:=Zq (cf:=aY) hne
  rw[<-hp,aLf]at hstep
  have y01:aL w W1 aT:=y08.trans y1 λy hy h=>by omega
  have hpv0:∀{N:Nat->Prop},(∀y,N y->n0<=y)->¬fK pv N:=λ{N} hN h=>hb.old (bO (hpn _ h) λy hy=>by rw[hn0];exact hN y hy)
  have hp1:Bs W1 pv p:=hpb.ext y1 (hpv0 λy hy=>by omega)
  have q1:=q1.ext y1 (by omega)
  have q2:=q2.ext y1 (by omega)
  have q3:=q3.ext y1 (λb hb h=>by omega)
  unfold xN
  refine(auF hp1 (by omega)).mono ?_
  rintro r W2 ⟨pr,rfl,hr2,y2⟩
  refine(agZ (n:=1) hr2 (by omega) ⟨by omega,by omega⟩).mono ?_
  rintro r W3 ⟨rfl,hr3,y3⟩
  have tk:=tk1 (p:=p) (by omega)
  rw[tk]at hr3⊢
  have hk1:DL (p.take 1)=rdK p:=rfl
  have hk256:rdK p<256:=by
   have:=Hl (p.take 1)
   rw[aJP,aJ5 (by omega)]at this
   rw[<-hk1];simpa using this
  rw[hk1]
  obtain⟨K,hK⟩:∃K,K=rdK p:=⟨_,rfl⟩
  rw[<-hK]at hk256⊢
  have e6:IntKind.u8.wrap (K:Int)=(K:Int):=azW (by omega) (by omega)
  simp(disch:=omega)only[SV,e6]
  refine(agZ (n:=8) hr3 (by rw[aJS];omega) ⟨by omega,by omega⟩).mono ?_
  rintro r W4 ⟨rfl,hr4,y4⟩
  rw[tk8]
  obtain⟨V,hV⟩:∃V,V=rdV p:=⟨_,rfl⟩
  have hV64:V<2^64:=by
   rw[hV]
   unfold rdV
   split
   .omega
   .have:=Hl ((p.drop 1).take 8)
    rw[aJP,aJS,aJ5 (by omega)]at this
    omega
  rw[<-hV]
  obtain⟨hr0a,hr0b,_⟩:=hr2
  have zW1:=y1.size
  have zW2:=y2.size
  have zW3:=y3.size
  have zW4:=y4.size
  have y14:aL W1 W4 aT:=(y2.trans y3 λy hy h=>by omega).trans y4 λy hy h=>by omega
  simp(disch:=omega)only[SV]
  refine Ed λW5 o5 y5 z5=> ?_
  refine DF o5 rfl (by simp[one]) (by decide) λW6 o6 y6 z6=> ?_
  obtain⟨pc,hpc⟩:∃pc,pc=W4.heap.size:=⟨_,rfl⟩
  rw[<-hpc]at o6 y6⊢
  have o6:bD W6 pc (qD (K,V)):=o6
  have y16:aL W1 W6 aT:=(y14.seq y5).trans y6 λy hy h=>by omega
  have y06:aL w W6 aT:=y01.seq y16
  have lr:=xM (off:=0) o6 (by simp)
  have lr:(aB 109 (.pointer (some ⟨pc,0,none⟩))).run pg W6= .ok (.value (amC K V)) W6:=lr
  have hz:=λox oy=>aFd (ox:=ox) (oy:=oy) (K:Int) (V:Int) 0 0 W6
  have q1:=q1.ext y16 (λh=>h)
  have q2:=q2.ext y16 (λh=>h)
  have q3:=q3.ext y16 (λ_ _ h=>h)
  have l6:=wM l1 y16 (λh=>h)
  have x86:aL w8 W6 M:=(hx.trans y1 λy hy h=> .inl h).seq (y16.mono λ_ _ h=>h.elim)
  have hbad:Me aY p=false->∀W7,aL W6 W7 aT->agE (n0+5) (some (.exit 0)) (λb W'=>(b= .bool true/\I (i+13) W')∨(b= .bool false/\S W')) W7:=by
   intro hbd W7 y7
   have hLR:gB aY l=R:=by rw[hR,hstep,if_neg (by rw[hbd];decide),aKf]
   refine VG (wM l6 y7 (λh=>h)) λW8 l8' y8 z8=> .inr ⟨rfl,l8', ?_⟩
   rw[hLR]
   exact⟨ov,(x86.trans y7 λy hy h=>h.elim).trans y8 λy hy h=> .inl h,(q1.ext y7 (λh=>h)).ext y8 (by omega),(q2.ext y7 (λh=>h)).ext y8 (by omega),(q3.ext y7 (λ_ _ h=>h)).ext y8 (λb hb h=>by omega)⟩
  have hgd:Me aY p=((K==1||K==2)&&pA aY K V==p):=by rw[hK,hV]<;>rfl
  by_cases hz0:K=0/\V=0
  .have d1:(((K:Nat):Int)==0&&((V:Nat):Int)==0)=true:=by rw[hz0.1,hz0.2]<;>rfl
   simp only[d1]at hz
   simp(disch:=omega)only[SV,lr,hz]
   exact hbad (by rw[hgd,hz0.1]<;>rfl) W6 (aL.refl _ _)
  have d1:(((K:Nat):Int)==0&&((V:Nat):Int)==0)=false:=by
   rw[aLR,beq_eq_false_iff_ne,beq_eq_false_iff_ne]
   omega
  simp only[d1]at hz
  simp(disch:=omega)only[SV,lr,hz]
  refine(atX (hg.ext y06) hk256 hV64).mono ?_
  rintro r W7 ⟨hr7,y7⟩
  by_cases hk12:K=1∨K=2
  rotate_left
  .rw [if_neg hk12]at hr7
   subst hr7
   have n1:((1:Int) !=0)=true:=rfl
   simp(disch:=omega)only[SV,n1]
   refine hbad ?_ W7 y7
   rw[hgd]
   have:(K==1||K==2)=false:=by rw[aLm,beq_eq_false_iff_ne,beq_eq_false_iff_ne];omega
   rw[this]<;>rfl
  rw[if_pos hk12]at hr7
  obtain⟨pb,rfl,hpbs⟩:=hr7
  have h13:=oX aY K V
  have n0':((0:Int) !=0)=false:=rfl
  have y17:aL W1 W7 aT:=y16.seq y7
  simp(disch:=omega)only[SV,n0']
  refine(aBz (show Bs W7 pb (pA aY K V)from hpbs.sl) (hp1.ext y17 (bC _)) (by omega) (by omega)).mono ?_
  rintro r W8 ⟨rfl,y8⟩
  have y68:aL W6 W8 aT:=y7.seq y8
  cases hq:(pA aY K V==p)with
  |false=>
   simp(disch:=omega)only[SV]
   exact hbad (by rw[hgd,hq,Bool.and_false]) W8 y68
  |true=>
   have hgood:Me aY p=true:=by
    rw[hgd,hq,Bool.and_true,aKu,beq_iff_eq,beq_iff_eq];exact hk12
   have hp13:=Tk aY hgood
   have q1:=q1.ext y68 (λh=>h)
   have q2:=q2.ext y68 (λh=>h)
   have q3:=q3.ext y68 (λ_ _ h=>h)
   have l8:=wM l6 y68 (λh=>h)
   have lr8:=xM (off:=0) (o6.ext y68 (λh=>h)) (by simp)
   have lr8:(aB 109 (.pointer (some ⟨pc,0,none⟩))).run pg W8= .ok (.value (amC K V)) W8:=lr8
   have c1:=q1.cell (off:=0)
   simp only[aJD]at c1
   simp(disch:=omega)only[SV,c1,lr8]
   refine TE (cells:= #[.int .u8 (K:Nat),.int .u64 (V:Nat)]) (by decide) (by decide) (by kernel_rfl) λW9 o9 y9 z9=> ?_
   have o9:bD W9 W8.heap.size (qD (K,V)):=o9
   have z85:n0+5<W8.heap.size:=by
    have:=y17.size
    have:=y8.size
    have:=aDx l1
    omega
   obtain⟨oa,oc,rfl⟩:=yQ q3
   have q3:=q3.ext y9 (λ_ _ h=>h)
   refine zP (m:=1) (news:=qD (K,V)) (i:=Tryz.t109) Tryz.underlying104 Tryz.underlying104 Vv rfl rfl rfl q3 (o9.cl (off:=0) (n:=1) rfl (λi hi=>by rw[aJG])) (by simp[one]) (λb hb=>by omega) (by omega) (by rw[show Tryz.t109.bytes=16 from rfl];omega) (by decide) λv' W10 o' y10=> ?_
   obtain⟨oa',oc',rfl⟩:=yQ o'
   have q1:=(q1.ext y9 (λh=>h)).ext y10 (by omega)
   have q2:=(q2.ext y9 (λh=>h)).ext y10 (by omega)
   refine Ui q1 rfl (by simp) λW11 q1 y11 z11=> ?_
   simp only[aJV]at q1
   have q2:=q2.ext y11 (by omega)
   have o':=Df o' y11 (λb hb h=>by omega)
   have c2:=q2.cell (off:=0)
   simp only[aJD]at c2
   have e13:((13*R.length:Nat):Int)+13=((13*(R.length+1):Nat):Int):=by omega
   simp(disch:=omega)only[SV,c2,e13]
   refine DD q2 rfl (by simp) λW12 q2 y12 z12=> ?_
   simp only[aJV]at q2
   have y812:aL W8 W12 M:=(((y9.mono λ_ _ h=>h.elim).seq (y10.mono λy _ h=> .inr (.inr (.inr h)))).seq (y11.mono λy _ h=> .inr (.inl h))).seq (y12.mono λy _ h=> .inr (.inr (.inl h)))
   have l12:=wM (wM (wM (wM l8 y9 (λh=>h)) y10 (by omega)) y11 (by omega)) y12 (by omega)
   refine VG l12 λW13 l13 y13 z13=> .inl ⟨rfl,R++[(K,V)], ?_,l13, ?_,_,((x86.trans y68 λy hy h=>h.elim).seq y812).seq (y13.mono λy _ h=> .inl h),q1.ext y12 (by omega)|>.ext y13 (by omega), ?_, ?_⟩
   .rw [hR,hstep,if_pos hgood,aJW,<-hK,<-hV]<;>rfl
   .rw [aJF];simp;omega
   .rw [aJF];exact q2.ext y13 (by omega)
   .rw [aJF,List.flatMap_append]
    exact Df (Df o' y12 (λb hb h=>by omega)) y13 (λb hb h=>by omega)
 refine hmain.mono ?_
 rintro r w9 ⟨rfl,h⟩
 have fin:∀{wa:aL0},wa.heap[n0+4]?=some (.deferred (some []))->Q n0 wa (gB aY l)->sW RR (.pointer (some ⟨n0,0,none⟩)) (.pointer (some ⟨n0+1,0,none⟩)) (.pointer (some ⟨n0+4,0,none⟩)) wa:=λ{wa} hd ⟨ov,hx,q1,q2,q3⟩=>by
  unfold sW
  have c1:=(dB q1).cell (off:=0)
  have c2:=(dB q2).cell (off:=0)
  simp only[aJD]at c1 c2
  simp(disch:=omega)only[SV,c1,c2]
  refine akI hd λwe ye ze=> ?_
  rw[hRR]
  refine⟨ov,rfl, ?_,((x08.trans hx λy hy h=>by omega).seq (aL.dr _ _)).trans ye λy hy h=>by omega⟩
  have o':=Df (Df q3 (aL.dr _ aT) (λ_ _ h=>h)) ye (λb hb h=>by omega)
  refine⟨o'.1, ?_⟩
  rcases o'.2 with h|⟨b,c,rest,g1,g2,g3⟩
  .exact .inl h
  .exact .inr ⟨b,c,rest,g1,by omega,g3⟩
 have hz4:put g (some DS) (.pointer (some ⟨n0+4,0,none⟩)) 4=g 4:=rfl
 have hz5:put g (some DS) (.pointer (some ⟨n0+4,0,none⟩)) 5=g 5:=rfl
 have hzm:put g (some DS) (.pointer (some ⟨n0+4,0,none⟩)) 1000003= .pointer (some ⟨n0+4,0,none⟩):=rfl
 have hQx:∀{W W' R},Q n0 W R->aL W W' (λy=>y=n0+5)->Q n0 W' R:=λ{W W' R} ⟨ov,h1,h2,h3,h4⟩ x=>⟨ov,h1.seq (x.mono λy _ h=> .inl h),h2.ext x (by omega),h3.ext x (by omega),Df h4 x (λb hb h=>by omega)⟩
 rcases h with⟨i,hil,R,hR,hlp,hRl,hQ⟩|⟨hlp,hQ⟩
 .have hnil:l.drop i=[]:=List.drop_eq_nil_of_le hil
  have hLR:gB aY l=R:=by rw[hR,hnil];exact aKf _
  obtain⟨ov,hx,_⟩:=id hQ
  refine SB hlp (by rw[hr0];simp) λwa ya za=> ?_
  rw[hr0]
  show sW RR (put g (some DS) (.pointer (some ⟨n0+4,0,none⟩)) 4) (put g (some DS) (.pointer (some ⟨n0+4,0,none⟩)) 5) (put g (some DS) (.pointer (some ⟨n0+4,0,none⟩)) 1000003) wa
  rw[hz4,hz5,hzm,g4,g5]
  refine fin (wM (wM d8 hx (by omega)) ya (by omega)) ?_
  rw[hLR]
  exact hQx hQ ya
 .obtain ⟨ov,hx,_⟩:=id hQ
  refine SB hlp (by simp) λwa ya za=> ?_
  show sW RR (put g (some DS) (.pointer (some ⟨n0+4,0,none⟩)) 4) (put g (some DS) (.pointer (some ⟨n0+4,0,none⟩)) 5) (put g (some DS) (.pointer (some ⟨n0+4,0,none⟩)) 1000003) wa
  rw[hz4,hz5,hzm,g4,g5]
  exact fin (wM (wM d8 hx (by omega)) ya (by omega)) (hQx hQ ya)
def Aq(s:ByteArray):Bool:=decide (1<=s.size/\s.size<=32)
theorem aDC(s:ByteArray)(w:aL0):aG pg Eb #[.string s] w (λr w'=>r= .bool (Aq s)/\w'=w):=by
 refine alS ?_
 unfold asZ aaN Aq
 by_cases h1:1<=s.size
 .have d1:decide ((1:Int)<=(s.size:Int))=true:=by simp;omega
  by_cases h2:s.size<=32
  .have d2:decide ((s.size:Int)<=32)=true:=by simp;omega
   rw[decide_eq_true ⟨h1,h2⟩]
   simp(disch:=omega)only[SV,d1,d2]
  .have d2:decide ((s.size:Int)<=32)=false:=by simp;omega
   rw[decide_eq_false (λh=>h2 h.2)]
   simp(disch:=omega)only[SV,d1,d2]
 .have d1:decide ((1:Int)<=(s.size:Int))=false:=by simp;omega
  rw[decide_eq_false (λh=>h1 h.1)]
  simp(disch:=omega)only[SV,d1]
theorem aHg{m:Nat}{X:Nat->Prop}{ls:List (ByteArray×aL1)}{c:cO}{w:aL0}(hm:Mp w m Rb ls)(hf:FD w X ls c)(hs:bN c<=1099511627776):
 aG pg wW #[.map (some m)] w (λr w'=>r= .int .i64 (bN c:Nat)/\aL w w' aT):=by
 refine Q9 ?_
 unfold OW Iq Ip BU BT Io
 have hlt:=hm.lt
 refine U2 hm λw1 hi x1 s1=> ?_
 unfold uH
 have hf1:FD w1 (λb=>X b∨w.heap.size<=b) ls c:=(hf.sub (Y:=λb=>X b∨w.heap.size<=b) λ_ h=>h).ext x1 λ_ h=>h.elim
 refine bM.rule (λk (t:aL1) w'=>∃(rest:List (ByteArray×aL1)) (cr:cO) (n:Nat),k=rest.length/\t= .int .i64 n/\Itr w' w.heap.size m Rb rest/\FD w' (λb=>X b∨w.heap.size<=b) rest cr/\n+bN cr=bN c/\aL w1 w' (λy=>y=w.heap.size)) ls.length
  ⟨ls,c,0,rfl,rfl,hi,hf1,by omega,aL.refl _ _⟩ ?_
 rintro k t w2 ⟨rest,cr,n,rfl,rfl,hi2,hf2,hn,x2⟩
 unfold BS
 refine awL hi2 (by omega) (λh0=> ?_) λw3 j hj hi3 hc x3 s3=> ?_
 .have hl:=hf2.len
  rw[h0]at hl
  have hcr:cr=[]:=aKd.1 hl.symm
  have hz:bN cr=0:=by rw[hcr]<;>rfl
  unfold BR
  have e1:n=bN c:=by omega
  simp(disch:=omega)only[SV,e1]
  exact x1.new x2 (aJO _)
 .have hl:=hf2.len
  have hat:=hf2.at hj (by omega)
  obtain⟨va,vc,hv,_⟩:=hat.2.1.len
  rw[aJC]at hv
  have he:=aAJ (P:=pg) hc
  rw[hv]at he
  have hse:=atG (c:=cr) (j:=j) (by omega)
  generalize(cr[j]'(by omega)).2.length=q at*
  have e1:(n:Int)+(q:Int)=((n+q:Nat):Int):=by omega
  simp(disch:=omega)only[SV,he,e1]
  refine⟨(rest.eraseIdx j).length,by rw[List.length_eraseIdx_of_lt hj];omega,_,cr.eraseIdx j,n+q,rfl,rfl,hi3,(hf2.erase j).ext x3 (λb h=> .inr (by omega)),by omega,x2.seq x3⟩
theorem azI(cs:List aL1)(n:Nat):eI cs n []=cs:=by unfold eI;rfl
theorem aAh(n:Nat):(List.replicate n (0:UInt8)).map gT=List.replicate n (Value.int .u8 0):=by rw[aLK]<;>rfl
theorem aHS{m:Nat}{X:Nat->Prop}{ls:List (ByteArray×aL1)}{c:cO}{o:LP}{va:Option Addr}{vc:Nat}{w:aL0}(hm:Mp w m Rb ls)(hmX:X m)(hX:∀b,X b->b<w.heap.size)(hf:FD w X ls c)
 (hd:JN w X (.slice va o.bytes.length vc) o.bytes) (hs:bN c<=1099511627776) (ha:o.at'<=1099511627776) (hb:o.bytes.length<=1099511627776):
 aG pg vH #[.map (some m),.agg (YP o (.slice va o.bytes.length vc)).toArray] w (λr w'=>r= .tuple #[]/\∃ls',Mp w' m Rb ls'/\FD w' X ls' (TS o c)/\aL w w' (λb=>b=m)):=by
 refine Vu ?_
 unfold Un Mb
 refine cA λw1 o1 x1 s1=> ?_
 have o1:bD w1 w.heap.size [.int .i64 o.kind,.string o.name,.string o.other,.int .i64 o.at',.slice va o.bytes.length vc]:=o1
 have hlt:=hm.lt
 have hm1:=hm.ext x1 (λh=>h)
 have fin:∀{w':aL0} {ls':List (ByteArray×aL1)},Mp w' m Rb ls'->FD w' X ls' (TS o c)->aL w w' (λb=>b=m)->∃ls',Mp w' m Rb ls'/\FD w' X ls' (TS o c)/\aL w w' (λb=>b=m):=λh1 h2 h3=>⟨_,h1,h2,h3⟩
 have hfx:∀{w':aL0},aL w w' (λb=>b=m)->FD w' X ls c:=λx=>hf.ext x λb h=>h▸hmX
 obtain⟨oa,oc,ob,th,l0,hbo,hnx,hob,hth⟩:∃(oa:Option Addr) (oc:Nat) (ob:List UInt8) (th:Bool),(Dp 73 (.map (some m)) (.string o.name) true).run pg w1= .ok (.value (.tuple #[.slice oa ob.length oc,.bool th])) w1/\Bs w (.slice oa ob.length oc) ob/\¬fK (.slice oa ob.length oc) X/\
  (bF o.name c).getD []=ob/\(th=true/\bF o.name c=some ob∨th=false/\bF o.name c=none):=by
  have l0:=Fj hm1 o.name
  rcases hf.get o.name with⟨h1,h2⟩|⟨v,b,h1,h2,h3⟩
  .rw [h1]at l0
   exact⟨none,0,[],false,l0,Sl.nil _,λh=>h,by rw[h2]<;>rfl,.inr ⟨rfl,h2⟩⟩
  .obtain ⟨a',c',hv,_⟩:=h3.1.len
   rw[aJC]at hv
   subst hv
   rw[h1]at l0
   exact⟨a',c',b,true,l0,h3.1,h3.2,by rw[h2]<;>rfl,.inl ⟨rfl,h2⟩⟩
 have c0:=o1.cell (off:=0)
 have c1:=o1.cell (off:=1)
 have c2:=o1.cell (off:=2)
 have c3:=o1.cell (off:=3)
 have c4:=o1.cell (off:=4)
 simp only[aJD,aJJ]at c0 c1 c2 c3 c4
 have holdlen:ob.length<=1099511627776:=by rw[<-hob];have:=sS (k:=o.name) (c:=c);omega
 by_cases k0:o.kind=0
 .have n1:(((o.kind:Nat):Int)==0)=true:=by rw[k0]<;>rfl
  obtain⟨M,hM⟩:∃M,M=max ob.length (o.at'+o.bytes.length):=⟨_,rfl⟩
  have e1:(o.at':Int)+(o.bytes.length:Int)=((o.at'+o.bytes.length:Nat):Int):=by omega
  have hmax:(if((o.at'+o.bytes.length:Nat):Int)>(ob.length:Int)then((o.at'+o.bytes.length:Nat):Int)else(ob.length:Int))=((M:Nat):Int):=by
   split<;>omega
  simp(disch:=omega)only[SV,c0,c1,c3,c4,l0,n1,e1,hmax]
  refine RQ (by omega) (by omega) λw2 o2 x2 s2=> ?_
  rw[aJI]at o2⊢
  have x02:=x1.seq x2
  have hnb:¬fK (.slice oa ob.length oc) (λy=>y=w1.heap.size):=λh=>hbo.old (bO h λb hb=>by omega)
  refine J6 o2 (by rw[aJ9];omega) (hbo.ext x02 (bC _)) (Eg _) λw3 o3 x3 s3=> ?_
  have P3:eI (List.replicate M (Value.int .u8 0)) 0 ((ob.map gT).take (min (ob.map gT).length M))=(ob++List.replicate (M-ob.length) 0).map gT:=by
   rw[aJC,aJ5 (by omega),aJH (by rw[aJC];omega)]
   have:=jN (ob.map gT) [] (List.replicate M (Value.int .u8 0)) (by rw[aJC,aJ9];omega)
   rw[aJ1,aJ1,aKD]at this
   rw[this,aKb,aAh,List.drop_replicate,aJC]
  rw[P3]at o3
  have x03:aL w w3 aT:=x02.new x3 (by omega)
  have o13:=(o1.ext x2 (λh=>h)).ext x3 (by omega)
  have hm3:=hm.ext x03 (λh=>h)
  have q1:=o13.cell (off:=1)
  have q3:=o13.cell (off:=3)
  have q4:=o13.cell (off:=4)
  have q3d:=(dB o13).cell (off:=3)
  have q4d:=(dB o13).cell (off:=4)
  simp only[aJD,aJJ]at q1 q3 q4 q3d q4d
  have hbd:Bs (dr w3) (.slice va o.bytes.length vc) o.bytes:=(hd.1.ext x03 (bC _)).ext (aL.dr _ aT) (bC _)
  have hhm:o.at'<=M:=by omega
  have hP:(ob++List.replicate (M-ob.length) (0:UInt8)).length=M:=by rw[aJF,aJ9];omega
  have hov:over ob o.at' o.bytes=(ob++List.replicate (M-ob.length) 0).take o.at'++o.bytes++(ob++List.replicate (M-ob.length) 0).drop (o.at'+o.bytes.length):=by unfold over;rw[<-hM]
  have hol:=yR ob o.at' o.bytes
  generalize ob++List.replicate (M-ob.length) (0:UInt8)=P at*
  have ending:∀(w4:aL0),bD w4 w1.heap.size ((over ob o.at' o.bytes).map gT)->aL w w4 aT→
      aA pg (VT 73 (.map (some m)) (.string o.name) (.slice (some ⟨w1.heap.size,0,none⟩) M M)) w4 λ_ w'=>∃ls',Mp w' m Rb ls'/\FD w' X ls' (TS o c)/\aL w w' (λb=>b=m):=λw4 o4 x4=>by
   refine UB (hm.ext x4 (λh=>h)) o.name _ λw5 hm5 x5 s5=> ?_
   have x05:aL w w5 (λb=>b=m):=(x4.mono λ_ _ h=>h.elim).seq x5
   have hdo:TS o c=nR o.name (over ob o.at' o.bytes) c:=by unfold TS;rw[if_pos k0,hob]
   rw[hdo]
   refine⟨_,hm5,FD.set ⟨?_,λh=> ?_⟩ (hfx x05),x05⟩
   .have:=bD.whole (c:=M) (o4.ext x5 (by omega)) (by omega)
    rw[hol,<-hM]at this
    exact this
   .obtain ⟨M',hM'⟩:∃M',M=M'+1∨M=0:=⟨M-1,by omega⟩
    rcases hM' with h'|h'
    .rw [h']at h
     have h:X w1.heap.size:=h
     have:=hX _ h
     omega
    .rw [h']at h
     exact h
  by_cases hat:o.at'<M
  .have hsh:dD (some ⟨w1.heap.size,0,none⟩) M o.at' 1=some ⟨w1.heap.size,0+o.at',none⟩:=azJ (by omega)
   simp(disch:=omega)only[SV,q3,q4,q3d,q4d,hsh]
   refine J6 (off:=o.at') (dB o3) (by rw[aJC];omega) hbd (Eg _) λw4 o4 x4 s4=> ?_
   have P4:eI (P.map gT) o.at' ((o.bytes.map gT).take (min (o.bytes.map gT).length (M-o.at')))=(over ob o.at' o.bytes).map gT:=by
    rw[aJC,aJ5 (by omega),aJH (by rw[aJC];omega)]
    have:=jN (o.bytes.map gT) ((P.take o.at').map gT) ((P.drop o.at').map gT) (by rw[aJC,aJC,aJS];omega)
    rw[<-aKb,aKN,aJC,aJP,aJ5 (by omega)]at this
    rw[this,hov,aJC,aKb,aKb,<-aLj,aLf]
   rw[P4]at o4
   have x34:aL w3 w4 (λy=>y=w1.heap.size):=(aL.dr _ _).seq x4
   have x04:aL w w4 aT:=x03.new x34 (by omega)
   have o14:=o13.ext x34 (by omega)
   have q1:=o14.cell (off:=1)
   have q1d:=(dB o14).cell (off:=1)
   simp only[aJD,aJJ]at q1 q1d
   have e4:=ending w4 o4 x04
   simp(disch:=omega)only[SV,q1,q1d]
   exact e4
  .have hE:o.at'=M:=by omega
   have hb0:o.bytes=[]:=aKd.1 (by omega)
   have hsh:dD (some ⟨w1.heap.size,0,none⟩) M o.at' 1=some ⟨w1.heap.size,0,none⟩:=by unfold dD;rw[if_pos hE.symm]
   simp(disch:=omega)only[SV,q3,q4,q3d,q4d,hsh]
   refine J6 (off:=0) (dB o3) (by rw[aJC];omega) hbd (Eg _) λw4 o4 x4 s4=> ?_
   have P4:eI (P.map gT) 0 ((o.bytes.map gT).take (min (o.bytes.map gT).length (M-o.at')))=(over ob o.at' o.bytes).map gT:=by
    rw[hov,hb0]
    show eI (P.map gT) 0 (List.take (min 0 (M-o.at')) [])=_
    rw[List.take_nil,azI,aKf,aKD,aLX,aKN]
   rw[P4]at o4
   have x34:aL w3 w4 (λy=>y=w1.heap.size):=(aL.dr _ _).seq x4
   have x04:aL w w4 aT:=x03.new x34 (by omega)
   have o14:=o13.ext x34 (by omega)
   have q1:=o14.cell (off:=1)
   have q1d:=(dB o14).cell (off:=1)
   simp only[aJD,aJJ]at q1 q1d
   have e4:=ending w4 o4 x04
   simp(disch:=omega)only[SV,q1,q1d]
   exact e4
 have n1:(((o.kind:Nat):Int)==0)=false:=beq_eq_false_iff_ne.2 (by omega)
 have self:aL w w1 (λb=>b=m):=x1.mono λ_ _ h=>h.elim
 by_cases k1:o.kind=1
 .have n2:(((o.kind:Nat):Int)==1)=true:=by rw[k1]<;>rfl
  rcases hth with⟨rfl,hg⟩|⟨rfl,hg⟩
  .have hdo:TS o c=nR o.other ob (yM o.name c):=by unfold TS;rw[if_neg k0,if_pos k1,hg]
   simp(disch:=omega)only[SV,c0,c1,c2,c3,c4,l0,n1,n2]
   refine Uo hm1 o.name λw2 hm2 x2 s2=> ?_
   have x02:=self.seq x2
   have q2:=(o1.ext x2 (by omega)).cell (off:=2)
   simp only[aJD,aJJ]at q2
   simp(disch:=omega)only[SV,q2]
   refine UB hm2 o.other _ λw3 hm3 x3 s3=> ?_
   have x03:=x02.seq x3
   rw[hdo]
   refine fin (w':=w3) hm3 ?_ x03|>λh=>by rw[hdo]at h;exact h
   rw[hdo]
   exact FD.set ⟨hbo.ext x03 (λh=>hnx (bO h λb hb=>by rw[hb];exact hmX)),hnx⟩ (FD.del (hfx x03))
  .have hdo:TS o c=c:=by unfold TS;rw[if_neg k0,if_pos k1,hg]
   simp(disch:=omega)only[SV,c0,c1,c2,c3,c4,l0,n1,n2]
   exact fin hm1 (by rw[hdo];exact hfx self) self
 have n2:(((o.kind:Nat):Int)==1)=false:=beq_eq_false_iff_ne.2 (by omega)
 by_cases k2:o.kind=2
 .have n3:(((o.kind:Nat):Int)==2)=true:=by rw[k2]<;>rfl
  have hdo:TS o c=yM o.name c:=by unfold TS;rw[if_neg k0,if_neg k1,if_pos k2]
  simp(disch:=omega)only[SV,c0,c1,c2,c3,c4,l0,n1,n2,n3]
  refine Uo hm1 o.name λw2 hm2 x2 s2=> ?_
  have x02:=self.seq x2
  exact fin hm2 (by rw[hdo];exact FD.del (hfx x02)) x02
 .have n3:(((o.kind:Nat):Int)==2)=false:=beq_eq_false_iff_ne.2 (by omega)
  have hdo:TS o c=c:=by unfold TS;rw[if_neg k0,if_neg k1,if_neg k2]
  simp(disch:=omega)only[SV,c0,c1,c2,c3,c4,l0,n1,n2,n3]
  exact fin hm1 (by rw[hdo];exact hfx self) self
abbrev dP(p:Nat):aL1:= .pointer (some ⟨p,0,none⟩)
def CA(w:aL0)(p:Nat)(X D:Nat->Prop)(S':cG)(w':aL0):Prop:=∃X' D',fS w' p X' D' S'/\(∀b,X' b->X b∨w.heap.size<=b)/\(∀b,D b->D' b)/\aL w w' X
theorem CA.refl {w:aL0}{p:Nat}{X D:Nat->Prop}{S:cG}(h:fS w p X D S):CA w p X D S w:=⟨X,D,h,λ_ h=> .inl h,λ_ h=>h,aL.refl _ _⟩
theorem CA.step {w w1 w2:aL0}{p:Nat}{X D X1 D1:Nat->Prop}{S2:cG}(x:aL w w1 X)(hX:∀b,X1 b->X b∨w.heap.size<=b)(hD:∀b,D b->D1 b)(h:CA w1 p X1 D1 S2 w2):CA w p X D S2 w2:=by
 obtain⟨X2,D2,h1,h2,h4,h3⟩:=h
 have z:=x.size
 refine⟨X2,D2,h1,λb hb=> ?_,λb hb=>h4 b (hD b hb),x.trans h3 λb hb hx=> ?_⟩
 .rcases h2 b hb with h|h
  .exact hX b h
  .exact .inr (by omega)
 .rcases hX b hx with h|h
  .exact h
  .omega
theorem afT{w:aL0}{S T:Nat->Prop}{sz n:Nat}{v:aL1}{l:List aL1}(h:DJ w S sz v n l)(hT:∀b,S b->T b):DJ w T sz v n l:=by
 refine⟨h.1, ?_⟩
 rcases h.2 with h2|⟨b,c,rest,h1,h2,h3⟩
 .exact .inl h2
 .exact .inr ⟨b,c,rest,h1,hT b h2,h3⟩
theorem aqI{w:aL0}{S:Nat->Prop}{sz n:Nat}{v:aL1}{l:List aL1}(h:DJ w S sz v n l):DJ w (λb=>S b/\b<w.heap.size) sz v n l:=by
 refine⟨h.1, ?_⟩
 rcases h.2 with h2|⟨b,c,rest,h1,h2,h3,h4⟩
 .exact .inl h2
 .exact .inr ⟨b,c,rest,h1,⟨h2,h3.lt⟩,h3,h4⟩
theorem aEv{p:Nat}{X D:Nat->Prop}{S:cG}{w:aL0}(h:fS w p X D S):aG pg mC #[dP p] w (λr w'=>r= .int .i64 (if S.down then 20 else 0)/\w'=w):=by
 refine Wx ?_
 unfold Ww OV
 obtain⟨ms,mn,sv,ls,ln,cs,h1,h2,h3,h4,h5,h6,hXD,hDl,o,hms,hmn,hfs,hfn,hu,ho⟩:=h
 have c5:=o.cell (off:=5)
 simp only[aJD,aJJ]at c5
 cases hd:S.down with
 |true=>
  rw[hd]at c5
  simp(disch:=omega)only[SV,c5]
 |false=>
  rw[hd]at c5
  simp(disch:=omega)only[SV,c5]
def Cp(l:Int):Int:=if 0<l then l-1 else l
def dnB(S:cG):Bool:=S.down||S.left==0
theorem aA5 {p:Nat}{a b c d:aL1}{left:Int}{down:Bool}{w:aL0}(o:bD w p [a,b,c,d,.int .i64 left,.bool down])(hl: -1<=left/\left<=9223372036854775807):
 aG pg qM #[dP p] w (λr w'=>r= .bool (down||left==0)/\bD w' p [a,b,c,d,.int .i64 (Cp left),.bool (down||left==0)]/\aL w w' (λy=>y=p)):=by
 refine Q8 ?_
 unfold OU Im Il Cp
 have c4:=o.cell (off:=4)
 simp only[aJD,aJJ]at c4
 by_cases h0:left=0
 .subst h0
  have n1:((0:Int)==0)=true:=rfl
  simp(disch:=omega)only[SV,c4,n1]
  refine vD o rfl (by simp) λw1 o1 x1 s1=> ?_
  simp only[aJV,aKi]at o1
  have c5:=o1.cell (off:=5)
  simp only[aJD,aJJ]at c5
  unfold pE
  simp(disch:=omega)only[SV,c5]
  rw[Bool.or_true]
  exact⟨rfl,o1,x1⟩
 have n1:(left==0)=false:=beq_eq_false_iff_ne.2 h0
 rw[n1,aLB]
 by_cases h1:0<left
 .have d1:decide (0<left)=true:=by simpa using h1
  simp(disch:=omega)only[SV,c4,n1,d1]
  refine DD o rfl (by simp) λw1 o1 x1 s1=> ?_
  simp only[aJV,aKi]at o1
  have c5:=o1.cell (off:=5)
  simp only[aJD,aJJ]at c5
  unfold pE
  rw[if_pos h1]
  simp(disch:=omega)only[SV,c5]
  exact⟨o1,x1⟩
 .have d1:decide (0<left)=false:=by simpa using h1
  have c5:=o.cell (off:=5)
  simp only[aJD,aJJ]at c5
  unfold pE
  rw[if_neg h1]
  simp(disch:=omega)only[SV,c4,c5,n1,d1]
  exact⟨o,aL.refl _ _⟩
def yL(S:cG)(o:LP):cG×Int:=
 if dnB S then({S with left:=Cp S.left,down:=dnB S},20)
 else({S with left:=Cp S.left,down:=dnB S,under:=S.under++[o],seen:=TS o S.seen},0)
theorem axU{p:Nat}{X D:Nat->Prop}{S:cG}{o:LP}{va:Option Addr}{vc:Nat}{w:aL0}(h:fS w p X D S)(hd:JN w D (.slice va o.bytes.length vc) o.bytes)(hl: -1<=S.left/\S.left<=9223372036854775807)
 (hs:bN S.seen<=1099511627776) (ha:o.at'<=1099511627776) (hb:o.bytes.length<=1099511627776) (hu:S.under.length<=1000000):
 aG pg oZ #[dP p,.agg (YP o (.slice va o.bytes.length vc)).toArray] w (λr w'=>r= .int .i64 (yL S o).2/\CA w p X D (yL S o).1 w'):=by
 refine TR ?_
 unfold Q7 Kf
 refine cA λw1 o1 x1 s1=> ?_
 have o1:bD w1 w.heap.size (YP o (.slice va o.bytes.length vc)):=o1
 obtain⟨ms,mn,sv,ls,ln,cs,h1,h2,h3,h4,h5,h6,hXD,hDl,op,hms,hmn,hfs,hfn,hun,hop⟩:=h.new x1
 have h7:=λb (hb:X b)=>hDl b (hXD b hb)
 have hX0:∀b,X b->b<w.heap.size:=by obtain⟨_,_,_,_,_,_,_,_,_,_,_,_,q1,q2,_⟩:=h;exactλb hb=>q2 b (q1 b hb)
 refine(aA5 op hl).mono ?_
 rintro r w2 ⟨rfl,op2,x2⟩
 have x2X:aL w1 w2 X:=x2.mono λb _ hb=>hb▸h1
 have x2D:aL w1 w2 D:=x2X.mono λb _ hb=>hXD b hb
 have x02:aL w w2 X:=(x1.mono λ_ _ h=>h.elim).seq x2X
 have z2:=x2.size
 have hms2:=hms.ext x2 (λh=>h4 h.symm)
 have hmn2:=hmn.ext x2 (λh=>h5 h.symm)
 have hfs2:=hfs.ext x2D (λb h=>h)
 have hfn2:=hfn.ext x2D (λb h=>h)
 have hun2:=hun.ext x2 (λb hb h=>hb.2.1 h)
 have hop2:=hop.ext x2D (λb h=>h)
 have h72:∀b,X b->b<w2.heap.size:=λb hb=>by have:=h7 b hb;omega
 have hD2:∀b,D b->b<w2.heap.size:=λb hb=>by have:=hDl b hb;omega
 have hdn:(S.down||S.left==0)=dnB S:=rfl
 rw[hdn]at*
 cases hD:dnB S with
 |true=>
  have hE:yL S o=({S with left:=Cp S.left,down:=dnB S},20):=by unfold yL;rw[if_pos hD]
  rw[hE]
  simp(disch:=omega)only[SV]
  exact⟨X,D,⟨ms,mn,sv,ls,ln,cs,h1,h2,h3,h4,h5,h6,hXD,hD2,op2,hms2,hmn2,hfs2,hfn2,hun2,hop2⟩,λ_ h=> .inl h,λ_ h=>h,x02⟩
 |false=>
  have hE:yL S o=({S with left:=Cp S.left,down:=dnB S,under:=S.under++[o],seen:=TS o S.seen},0):=by unfold yL;rw[if_neg (by rw[hD];decide)]
  rw[hE]
  have hb3:¬(w.heap.size=p):=λh=>by have:=hX0 p h1;omega
  have o12:=dB (o1.ext x2 hb3)
  have l1:=pG (off:=0) o12 (by unfold YP;simp)
  have l1':((YP o (.slice va o.bytes.length vc)).drop 0).take 5=YP o (.slice va o.bytes.length vc):=rfl
  rw[l1']at l1
  have op2d:=dB op2
  have q3:=op2d.cell (off:=3)
  simp only[aJD,aJJ]at q3
  simp(disch:=omega)only[SV,q3,l1]
  refine QM (cells:=(YP o (.slice va o.bytes.length vc)).toArray) (by decide) (by decide) (by kernel_rfl) λw3 o3 x3 s3=> ?_
  have x3:aL w2 w3 aT:=(aL.dr _ _).seq x3
  have z3:=x3.size
  have s3:w3.heap.size=w2.heap.size+1:=s3
  have x03:aL w w3 X:=x02.trans x3 λ_ _ h=>h.elim
  have op3:=op2.ext x3 (λh=>h)
  have q3:=op3.cell (off:=3)
  have q3d:=(dB op3).cell (off:=3)
  simp only[aJD,aJJ]at q3 q3d
  have hu3:DJ w3 (λb=>(X b/\b≠p/\b≠ms/\b≠mn)∨w3.heap.size<=b) 5 sv S.under.length cs:=afT (hun2.ext x3 (λb _ h=>h)) λb h=> .inl h
  have o3:bD w3 w2.heap.size (YP o (.slice va o.bytes.length vc)):=o3
  simp(disch:=omega)only[SV,q3,q3d]
  refine zP (m:=1) (news:=YP o (.slice va o.bytes.length vc)) (i:=Tryz.t137) Tryz.underlying74 Tryz.underlying74 Zj rfl rfl rfl hu3 (o3.cl (off:=0) (n:=1) rfl (λi hi=>by rw[aJG])) (by unfold YP;simp[one]) (λb hb=> .inr hb) (by omega) (by rw[show Tryz.t137.bytes=72 from rfl];omega) (by decide) λv4 w4 o4 x4=> ?_
  have z4:=x4.size
  have hp3:p<w3.heap.size:=op3.lt
  have hms3:=hms2.ext x3 (λh=>h)
  have hmn3:=hmn2.ext x3 (λh=>h)
  have hmsl:=hms3.lt
  have hmnl:=hmn3.lt
  have op4:=op3.ext x4 (by rintro(⟨_,h,_⟩|h)<;>omega)
  have hms4:=hms3.ext x4 (by rintro(⟨_,_,h,_⟩|h)<;>omega)
  have hmn4:=hmn3.ext x4 (by rintro(⟨_,_,_,h⟩|h)<;>omega)
  obtain⟨Y,hY⟩:∃Y:Nat->Prop,Y=λb=>X b∨(w3.heap.size<=b/\b<w4.heap.size):=⟨_,rfl⟩
  have hYX:∀b,X b->Y b:=λb h=>by rw[hY];exact .inl h
  have hY3:∀b,Y b->X b∨w3.heap.size<=b:=λb h=>by rw[hY]at h;rcases h with h|h;exact .inl h;exact .inr h.1
  have hY4:∀b,Y b->b<w4.heap.size:=λb h=>by
   rw[hY]at h
   rcases h with h|h
   .have:=h72 b h;omega
   .exact h.2
  obtain⟨E,hE'⟩:∃E:Nat->Prop,E=λb=>D b∨(w3.heap.size<=b/\b<w4.heap.size):=⟨_,rfl⟩
  have hED:∀b,D b->E b:=λb h=>by rw[hE'];exact .inl h
  have hYE:∀b,Y b->E b:=λb h=>by
   rw[hY]at h;rw[hE']
   rcases h with h|h
   .exact .inl (hXD b h)
   .exact .inr h
  have hE3:∀b,E b->D b∨w3.heap.size<=b:=λb h=>by rw[hE']at h;rcases h with h|h;exact .inl h;exact .inr h.1
  have hE4:∀b,E b->b<w4.heap.size:=λb h=>by
   rw[hE']at h
   rcases h with h|h
   .have:=hD2 b h;omega
   .exact h.2
  have dat4:∀v b,JN w3 D v b->JN w4 E v b:=λv b hd=>by
   have h1:=(hd.sub (Y:=λb=>D b∨w3.heap.size<=b) λ_ h=>h).ext x4 (λb h=>by rcases h with h|h;exact .inl (hXD b h.1);exact .inr h)
   exact h1.sub λb h=> .inl (hE3 b h)
  have dat0:∀v b,JN w2 D v b->JN w4 E v b:=λv b hd=>dat4 v b (hd.ext x3 λ_ h=>h.elim)
  refine zM op4 (by obtain⟨a,c,e⟩:=o4.len;rw[e]<;>rfl) (by simp) λw5 op5 x5 s5=> ?_
  simp only[aJV,aKi]at op5
  have hne4:p≠ms/\p≠mn:=⟨h4,h5⟩
  have hms5:=hms4.ext x5 (λh=>h4 h.symm)
  have hmn5:=hmn4.ext x5 (λh=>h5 h.symm)
  have x5Y:aL w4 w5 E:=x5.mono λb _ h=>by rw[h];exact hYE _ (hYX _ h1)
  have dat5:∀v b,JN w2 D v b->JN w5 E v b:=λv b hd=>(dat0 v b hd).ext x5Y λ_ h=>h
  have o15:bD w5 w.heap.size (YP o (.slice va o.bytes.length vc)):=by
   have h1:=(o1.ext x2 hb3).ext x3 (λh=>h)
   have h2:=h1.ext x4 (by rintro(⟨h,_⟩|h);exact absurd (hX0 _ h) (by omega);omega)
   exact h2.ext x5 hb3
  have l5:=pG (off:=0) (dB o15) (by unfold YP;simp)
  rw[l1']at l5
  have r2:=(dB op5).cell (off:=2)
  simp only[aJD,aJJ]at r2
  simp(disch:=omega)only[SV,r2,l5]
  have hd5:JN w5 E (.slice va o.bytes.length vc) o.bytes:=dat5 _ _ ((hd.ext x1 λ_ h=>h.elim).ext x2D λ_ h=>h)
  have hE5:∀b,E b->b<w5.heap.size:=λb h=>by rw[s5];exact hE4 b h
  refine(aHS (X:=E) (c:=S.seen) (o:=o) (hmn5.dr) (hYE _ (hYX _ h3)) hE5 ((hfn2.map dat5).ext (aL.dr _ aT) λ_ h=>h.elim) (hd5.ext (aL.dr _ aT) λ_ h=>h.elim) hs ha hb).mono ?_
  rintro r w6 ⟨rfl,ln',hmn6,hfn6,x6⟩
  have x6:aL w5 w6 (λb=>b=mn):=(aL.dr _ _).seq x6
  have x6Y:aL w5 w6 E:=x6.mono λb _ h=>by rw[h];exact hYE _ (hYX _ h3)
  have z6:=x6.size
  have hou:DJ w4 (λb=>Y b/\b≠p/\b≠ms/\b≠mn) 5 v4 (S.under.length+1) (cs++YP o (.slice va o.bytes.length vc)):=afT (aqI o4) λb h=>by
   rw[hY]
   rcases h with⟨h|h,h'⟩
   .exact ⟨.inl h.1,h.2⟩
   .exact ⟨.inr ⟨h,h'⟩,by omega,by omega,by omega⟩
  refine⟨Y,E,⟨ms,mn,v4,ls,ln',cs++YP o (.slice va o.bytes.length vc),hYX _ h1,hYX _ h2,hYX _ h3,h4,h5,h6,hYE,λb h=>by have:=hE5 b h;omega,op5.ext x6 (λh=>h5 h),hms5.ext x6 (λh=>h6 h),hmn6,(hfs2.map dat5).ext x6Y λ_ h=>h,hfn6, ?_, ?_⟩,λb h=> ?_,hED, ?_⟩
  .show DJ w6 _ 5 v4 (S.under++[o]).length _
   rw[aJF]
   exact(hou.ext x5 (λb h e=>h.2.1 e)).ext x6 (λb h e=>h.2.2.2 e)
  .exact (OpR.snoc ⟨_,_,_,rfl⟩ hd5 (hop2.map dat5)).ext x6Y λ_ h=>h
  .rcases hY3 b h with h|h
   .exact .inl h
   .exact .inr (by omega)
  .refine ((x03.trans x4 λb hb h=> ?_).trans x5 λb hb h=>by rw[h];exact h1).trans x6 λb hb h=>by rw[h];exact h3
   rcases h with h|h
   .exact h.1
   .omega
end Go.Proofs.YteelnmpbnaohpaaGreatDoor
namespace Go.Proofs.YteelnmpbnaohpaaGreatDoor
open Go Go.En
def aJc:Go.Shelf.Ren:=⟨λx=>if x=5 then wX else if x=7 then apC else x,λx=>if x=23 then 73 else if x=25 then 9 else if x=3 then 22 else if x=4 then 4 else 20,λx=>x⟩
theorem aJa:SlLaysW.n5 pg aJc where
 mixed:=Tryz.checked.mixed
 f5:=⟨Tryz.f69.name,by kernel_rfl,by kernel_rfl⟩
 f7:=by kernel_rfl
 t4:=by kernel_rfl
 a4:=λw=>by kernel_rfl
 z4:=λw=>by kernel_rfl
 v4:=λw=>by kernel_rfl
 t20:=by kernel_rfl
 a20:=λw=>by kernel_rfl
 z20:=λw=>by kernel_rfl
 v20:=λw=>by kernel_rfl
 t23:=by kernel_rfl
 a23:=λw=>by kernel_rfl
 z23:=λw=>by kernel_rfl
 v23:=λw=>by kernel_rfl
theorem auC{m:Nat}{l:List (ByteArray×aL1)}{w:aL0}(hm:Mp w m Rb l):
 aG pg wX #[.map (some m)] w (λr w'=>r= .map (some w.heap.size)/\Mp w' w.heap.size Rb l/\aL w w' aT/\w'.heap.size=w.heap.size+1):=by
 obtain⟨es,c,hb,he,hg,hnd⟩:=hm
 refine⟨_,_,AnyW.maps_Clone aJa m es c w hb,rfl,⟨es,c, ?_,he,hg,hnd⟩,aL.alloc _ _ _, ?_⟩
 .show (w.heap.push _)[w.heap.size]?=_
  simp
 .show (w.heap.push _).size=_
  simp
end Go.Proofs.YteelnmpbnaohpaaGreatDoor
namespace Go.Proofs.YteelnmpbnaohpaaGreatDoor
open Go Go.En Go.Pu
set_option maxRecDepth 4000
def Xd(room:Int):cG:=⟨room,[],[],[],-1,false⟩
theorem aGK{room:Int}{w:aL0}(h0:0<=room)(h1:room<=16777216):aG pg Ea #[.int .i64 room] w (λr w'=>∃p X,r= .tuple #[dP p,.int .i64 0]/\fS w' p X X (Xd room)/\(∀b,X b->w.heap.size<=b)/\aL w w' aT):=by
 refine alR ?_
 unfold asY aaM
 have d1:decide (room<0)=false:=by simp;omega
 have d2:decide (16777216<room)=false:=by simp;omega
 simp(disch:=omega)only[SV,d1,d2]
 refine UA λw1 m1 x1 s1=> ?_
 refine UA λw2 m2 x2 s2=> ?_
 simp(disch:=omega)only[SV]
 refine cA λw3 o3 x3 s3=> ?_
 have o3:bD w3 w2.heap.size [.int .i64 room,.map (some w.heap.size),.map (some w1.heap.size),.slice none 0 0,.int .i64 (-1),.bool false]:=o3
 refine⟨w2.heap.size,λb=>w.heap.size<=b/\b<w3.heap.size,rfl,⟨w.heap.size,w1.heap.size,.slice none 0 0,[],[],[],⟨by omega,by omega⟩,⟨by omega,by omega⟩,⟨by omega,by omega⟩,by omega,by omega,by omega,λ_ h=>h,λb h=>h.2,o3,(m1.ext x2 (λh=>h)).ext x3 (λh=>h),m2.ext x3 (λh=>h),trivial,trivial,⟨rfl,.inl ⟨rfl,rfl⟩⟩,rfl⟩,λb h=>h.1,(x1.seq x2).seq x3⟩
structure DBd(S:cG):Prop where
 left: -1<=S.left/\S.left<=9223372036854775807
 seen:bN S.seen<=1099511627776
 under:S.under.length<=1000000
 room:0<=S.room/\S.room<=16777216
theorem JN.slice {w:aL0}{X:Nat->Prop}{v:aL1}{b:List UInt8}(h:JN w X v b):∃a c,v= .slice a b.length c:=by
 obtain⟨a,c,e,_⟩:=h.1.len
 rw[aJC]at e
 exact⟨a,c,e⟩
theorem mP.dat {w w0:aL0}{X:Nat->Prop}{v:aL1}{l:List UInt8}(h:mP w w0.heap.size 1 v l.length (l.map gT))(hX:∀b,X b->b<w0.heap.size):JN w X v l:=by
 refine⟨h.sl,λhi=> ?_⟩
 rcases h.2 with⟨rfl,_⟩|⟨b,c,rest,rfl,h2,_⟩
 .exact hi
 .unfold fK at hi
  split at hi
  .rename_i e
   simp only[Value.slice.injEq,aKc]at e
   obtain⟨rfl,_⟩:=e
   have hi:X b:=hi
   have:=hX _ hi
   omega
  .exact hi
theorem fS.lt {w:aL0}{p:Nat}{X D:Nat->Prop}{S:cG}(h:fS w p X D S):∀b,D b->b<w.heap.size:=by
 obtain⟨_,_,_,_,_,_,_,_,_,_,_,_,_,h7,_⟩:=h;exact h7
def nT(S:cG)(name:ByteArray):List UInt8:=(bF name S.seen).getD []
def wrE(S:cG)(name:ByteArray)(a:Int)(n:Nat):Int:=
 if S.down then 20 else if Aq name=false∨a<0 then 1 else if((nT S name).length:Int)<a then 17
 else if S.room<bN S.seen+max (a+n-(nT S name).length) 0 then 22 else 0
def zU(S:cG)(name:ByteArray)(a:Int)(l:List UInt8):cG×Int:=
 if wrE S name a l.length=0 then yL S ⟨0,name,⟨#[]⟩,a.toNat,l⟩else(S,wrE S name a l.length)
theorem Wz{p:Nat}{X D:Nat->Prop}{S:cG}{name:ByteArray}{a:Int}{bv:aL1}{l:List UInt8}{w:aL0}(h:fS w p X D S)(hB:DBd S)(hb:Bs w bv l)(hl:l.length<=1000000000)(ha:a<=9000000000000000000)(ha': -9223372036854775808<=a):
 aG pg gD #[dP p,.string name,.int .i64 a,bv] w (λr w'=>r= .int .i64 (zU S name a l).2/\CA w p X D (zU S name a l).1 w'):=by
 refine Q6 ?_
 unfold OT Ik
 obtain⟨ba,bc,rfl,_⟩:=hb.len
 rw[aJC]at hb
 rw[aJC]
 obtain⟨E,hE⟩:∃E,wrE S name a l.length=E:=⟨_,rfl⟩
 have hW:∀e,E=e->e≠0->zU S name a l=(S,e):=λe h1 h2=>by unfold zU;rw[hE,h1,if_neg h2]
 refine(aEv h).mono ?_
 rintro r w1 ⟨rfl,rfl⟩
 have hE0:=hE
 unfold wrE at hE
 by_cases hd:S.down=true
 .rw [if_pos hd]at hE
  rw[hW 20 hE.symm (by decide),if_pos hd]
  have n1:((20:Int) !=0)=true:=rfl
  simp(disch:=omega)only[SV,n1]
  exact CA.refl h
 rw[if_neg hd]at hE
 rw[if_neg hd]
 have n1:((0:Int) !=0)=false:=rfl
 have h':=h
 obtain⟨ms,mn,sv,ls,ln,cs,h1,h2,h3,h4,h5,h6,hXD,hDl,op,hms,hmn,hfs,hfn,hun,hop⟩:=h'
 have h7:∀b,X b->b<w1.heap.size:=λb hb=>hDl b (hXD b hb)
 have c2:=op.cell (off:=2)
 have c0d:=(dB op).cell (off:=0)
 have c2d:=(dB op).cell (off:=2)
 simp only[aJD,aJJ]at c2 c0d c2d
 obtain⟨oa,oc,ob,l0,hob⟩:∃(oa:Option Addr) (oc:Nat) (ob:List UInt8),(Dp 73 (.map (some mn)) (.string name) false).run pg w1= .ok (.value (.slice oa ob.length oc)) w1/\nT S name=ob:=by
  have l0:=ahU hmn name
  unfold nT
  rcases hfn.get name with⟨q1,q2⟩|⟨v,b,q1,q2,q3⟩
  .rw [q1]at l0
   exact⟨none,0,[],l0,by rw[q2]<;>rfl⟩
  .obtain ⟨a',c',rfl⟩:=JN.slice q3
   rw[q1]at l0
   exact⟨a',c',b,l0,by rw[q2]<;>rfl⟩
 rw[hob]at hE
 have holdlen:ob.length<=1099511627776:=by rw[<-hob];have:=sS (k:=name) (c:=S.seen);have:=hB.seen;unfold nT;omega
 simp(disch:=omega)only[SV,n1,c2,l0]
 refine(aDC name _).mono ?_
 rintro r w2 ⟨rfl,hw⟩
 rw[hw];clear hw w2
 by_cases hmay:Aq name=false
 .rw [if_pos (.inl hmay)]at hE
  rw[hW 1 hE.symm (by decide),hmay]
  simp(disch:=omega)only[SV]
  exact CA.refl h
 have hmay:Aq name=true:=by cases hq:Aq name with|true=>rfl|false=>exact absurd hq hmay
 rw[hmay]at hE⊢
 by_cases ha0:a<0
 .have d1:decide (a<0)=true:=by simpa using ha0
  rw[if_pos (.inr ha0)]at hE
  rw[hW 1 hE.symm (by decide)]
  simp(disch:=omega)only[SV,d1]
  exact CA.refl h
 have d1:decide (a<0)=false:=by simpa using ha0
 rw[if_neg (by rintro(h|h);cases h;exact ha0 h)]at hE
 by_cases ha1:(ob.length:Int)<a
 .have d2:decide ((ob.length:Int)<a)=true:=by simpa using ha1
  rw[if_pos ha1]at hE
  rw[hW 17 hE.symm (by decide)]
  simp(disch:=omega)only[SV,d1,d2]
  exact CA.refl h
 have d2:decide ((ob.length:Int)<a)=false:=by simpa using ha1
 rw[if_neg ha1]at hE
 have hbs:=hB.seen
 have hbr:=hB.room
 obtain⟨k,rfl⟩:∃k:Nat,a=k:=⟨a.toNat,by omega⟩
 simp(disch:=omega)only[SV,d1,d2,c2d]
 refine(aHg (c:=S.seen) hmn.dr (hfn.ext (aL.dr _ aT) λ_ h=>h.elim) hbs).mono ?_
 rintro r w2 ⟨rfl,x2⟩
 have x2:aL w1 w2 aT:=(aL.dr _ _).seq x2
 have op2:=op.ext x2 (λh=>h)
 have r0:=op2.cell (off:=0)
 have r0d:=(dB op2).cell (off:=0)
 simp only[aJD,aJJ]at r0 r0d
 have e1:(k:Int)+(l.length:Int)=((k+l.length:Nat):Int):=by omega
 obtain⟨q,hq⟩:∃q:Nat,max (((k+l.length:Nat):Int)-(ob.length:Int)) 0=q:=⟨(max (((k+l.length:Nat):Int)-(ob.length:Int)) 0).toNat,by omega⟩
 have hmax:(if(0:Int)>((k+l.length:Nat):Int)-(ob.length:Int)then(0:Int)else((k+l.length:Nat):Int)-(ob.length:Int))=(q:Nat):=by
  split<;>omega
 have e2:((bN S.seen:Nat):Int)+(q:Int)=((bN S.seen+q:Nat):Int):=by omega
 rw[e1,hq,e2]at hE
 by_cases hsp:S.room<((bN S.seen+q:Nat):Int)
 .have d3:decide (S.room<((bN S.seen+q:Nat):Int))=true:=by simpa using hsp
  rw[if_pos hsp]at hE
  rw[hW 22 hE.symm (by decide)]
  simp(disch:=omega)only[SV,d1,d2,r0,r0d,c0d,e1,hmax,e2,d3]
  exact⟨X,D,h.new x2,λ_ h=> .inl h,λ_ h=>h,x2.mono λ_ _ h=>h.elim⟩
 have d3:decide (S.room<((bN S.seen+q:Nat):Int))=false:=by simpa using hsp
 rw[if_neg hsp]at hE
 have hW0:zU S name k l=yL S ⟨0,name,⟨#[]⟩,k,l⟩:=by unfold zU;rw[hE0,<-hE,if_pos rfl,aJI]
 rw[hW0]
 simp(disch:=omega)only[SV,d1,d2,r0,r0d,c0d,e1,hmax,e2,d3]
 refine(afK (hb.ext x2 (bC _)) hl).mono ?_
 rintro r w3 ⟨ho,x3⟩
 obtain⟨va,vc,rfl⟩:=ho.len
 have h2':=h.new x2
 have hd3:JN w3 D (.slice va l.length vc) l:=mP.dat ho λb hb=>fS.lt h2' b hb
 have opE:YP ⟨0,name,⟨#[]⟩,k,l⟩ (.slice va l.length vc)=[.int .i64 0,.string name,.string ⟨#[]⟩,.int .i64 k,.slice va l.length vc]:=rfl
 have hdn:=axU (o:=⟨0,name,⟨#[]⟩,k,l⟩) (h2'.new x3) hd3 hB.left hbs (show k<=1099511627776 by omega) (show l.length<=1099511627776 by omega) hB.under
 rw[opE]at hdn
 simp(disch:=omega)only[SV]
 refine hdn.mono ?_
 rintro r w4 ⟨rfl,hp⟩
 exact⟨rfl,CA.step ((x2.seq x3).mono λ_ _ h=>h.elim) (λ_ h=> .inl h) (λ_ h=>h) hp⟩
theorem afN{p:Nat}{X D:Nat->Prop}{S:cG}{name:ByteArray}{w:aL0}(h:fS w p X D S)(hB:DBd S)(hsz:∀b,bF name S.seen=some b->b.length<=1000000000):
 aG pg gV #[dP p,.string name] w (λr w'=>((S.down=true/\r= .tuple #[.slice none 0 0,.int .i64 20])∨(S.down=false/\bF name S.seen=none/\r= .tuple #[.slice none 0 0,.int .i64 21])∨
  (S.down=false/\∃b v,bF name S.seen=some b/\r= .tuple #[v,.int .i64 0]/\mP w' w.heap.size 1 v b.length (b.map gT)))/\aL w w' aT):=by
 refine TO ?_
 obtain⟨RR,hRR⟩:∃RR:aL1->aL0->Prop,RR=λr w'=>((S.down=true/\r= .tuple #[.slice none 0 0,.int .i64 20])∨(S.down=false/\bF name S.seen=none/\r= .tuple #[.slice none 0 0,.int .i64 21])∨
  (S.down=false/\∃b v,bF name S.seen=some b/\r= .tuple #[v,.int .i64 0]/\mP w' w.heap.size 1 v b.length (b.map gT)))/\aL w w' aT:=⟨_,rfl⟩
 rw[<-hRR]
 unfold Q2 Kb
 refine(aEv h).mono ?_
 rintro r w1 ⟨rfl,rfl⟩
 by_cases hd:S.down=true
 .rw [if_pos hd]
  have n1:((20:Int) !=0)=true:=rfl
  simp(disch:=omega)only[SV,n1]
  rw[hRR]
  exact⟨.inl ⟨hd,rfl⟩,aL.refl _ _⟩
 have hd':S.down=false:=by cases hq:S.down with|true=>exact absurd hq hd|false=>rfl
 rw[if_neg hd]
 have n1:((0:Int) !=0)=false:=rfl
 obtain⟨ms,mn,sv,ls,ln,cs,h1,h2,h3,h4,h5,h6,hXD,hDl,op,hms,hmn,hfs,hfn,hun,hop⟩:=h
 have h7:=λb (hb:X b)=>hDl b (hXD b hb)
 have c2:=op.cell (off:=2)
 simp only[aJD,aJJ]at c2
 have l0:=Fj hmn name
 rcases hfn.get name with⟨q1,q2⟩|⟨v,b,q1,q2,q3⟩
 .rw [q1]at l0
  have l0:(Dp 73 (.map (some mn)) (.string name) true).run pg w1= .ok (.value (.tuple #[.slice none 0 0,.bool false])) w1:=l0
  simp(disch:=omega)only[SV,n1,c2,l0]
  rw[hRR]
  exact⟨.inr (.inl ⟨hd',q2,rfl⟩),aL.refl _ _⟩
 .obtain ⟨a',c',rfl⟩:=JN.slice q3
  rw[q1]at l0
  have l0:(Dp 73 (.map (some mn)) (.string name) true).run pg w1= .ok (.value (.tuple #[.slice a' b.length c',.bool true])) w1:=l0
  simp(disch:=omega)only[SV,n1,c2,l0]
  refine(afK q3.1 (hsz b q2)).mono ?_
  rintro r w2 ⟨ho,x2⟩
  rw[hRR]
  exact⟨.inr (.inr ⟨hd',b,r,q2,rfl,ho⟩),x2⟩
theorem aBV{p:Nat}{X D:Nat->Prop}{S:cG}{w:aL0}(h:fS w p X D S):aG pg rO #[dP p] w (λr w'=>r= .int .i64 (S.under.length:Nat)/\w'=w):=by
 refine Nt ?_
 unfold Ka FK
 obtain⟨ms,mn,sv,ls,ln,cs,h1,h2,h3,h4,h5,h6,hXD,hDl,op,hms,hmn,hfs,hfn,hun,hop⟩:=h
 have h7:=λb (hb:X b)=>hDl b (hXD b hb)
 have c3:=op.cell (off:=3)
 simp only[aJD,aJJ]at c3
 obtain⟨ua,uc,rfl⟩:=hun.len
 simp(disch:=omega)only[SV,c3]
def Yj(S:cG)(name:ByteArray):cG×Int:=if S.down then(S,20)else if(bF name S.seen).isNone then(S,21)else yL S ⟨2,name,⟨#[]⟩,0,[]⟩
theorem aBw{p:Nat}{X D:Nat->Prop}{S:cG}{name:ByteArray}{w:aL0}(h:fS w p X D S)(hB:DBd S):
 aG pg tU #[dP p,.string name] w (λr w'=>r= .int .i64 (Yj S name).2/\CA w p X D (Yj S name).1 w'):=by
 refine PS ?_
 unfold L9 GW Yj
 refine(aEv h).mono ?_
 rintro r w1 ⟨rfl,rfl⟩
 by_cases hd:S.down=true
 .rw [if_pos hd,if_pos hd]
  have n1:((20:Int) !=0)=true:=rfl
  simp(disch:=omega)only[SV,n1]
  exact CA.refl h
 rw[if_neg hd,if_neg hd]
 have n1:((0:Int) !=0)=false:=rfl
 have h':=h
 obtain⟨ms,mn,sv,ls,ln,cs,h1,h2,h3,h4,h5,h6,hXD,hDl,op,hms,hmn,hfs,hfn,hun,hop⟩:=h'
 have h7:∀b,X b->b<w1.heap.size:=λb hb=>hDl b (hXD b hb)
 have c2:=op.cell (off:=2)
 simp only[aJD,aJJ]at c2
 have l0:=Fj hmn name
 rcases hfn.get name with⟨q1,q2⟩|⟨v,b,q1,q2,q3⟩
 .rw [q1]at l0
  have l0:(Dp 73 (.map (some mn)) (.string name) true).run pg w1= .ok (.value (.tuple #[.slice none 0 0,.bool false])) w1:=l0
  rw[q2,if_pos (show(none:Option (List UInt8)).isNone=true from rfl)]
  simp(disch:=omega)only[SV,n1,c2,l0]
  exact CA.refl h
 .obtain ⟨a',c',rfl⟩:=JN.slice q3
  rw[q1]at l0
  have l0:(Dp 73 (.map (some mn)) (.string name) true).run pg w1= .ok (.value (.tuple #[.slice a' b.length c',.bool true])) w1:=l0
  rw[q2,if_neg (show¬(some b).isNone=true by simp)]
  have hdn:=axU (o:=⟨2,name,⟨#[]⟩,0,[]⟩) (va:=none) (vc:=0) h ⟨Sl.nil _,λh=>h⟩ hB.left hB.seen (show 0<=_ by omega) (show 0<=_ by omega) hB.under
  have opE:YP ⟨2,name,⟨#[]⟩,0,[]⟩ (.slice none ([]:List UInt8).length 0)=[.int .i64 2,.string name,.string ⟨#[]⟩,.int .i64 0,.slice none 0 0]:=rfl
  rw[opE]at hdn
  simp(disch:=omega)only[SV,n1,c2,l0]
  exact hdn
def JX(S:cG)(old name:ByteArray):cG×Int:=if S.down then(S,20)else if Aq old=false∨Aq name=false then(S,1)else if(bF old S.seen).isNone then(S,21)else yL S ⟨1,old,name,0,[]⟩
theorem aBx{p:Nat}{X D:Nat->Prop}{S:cG}{old name:ByteArray}{w:aL0}(h:fS w p X D S)(hB:DBd S):
 aG pg tV #[dP p,.string old,.string name] w (λr w'=>r= .int .i64 (JX S old name).2/\CA w p X D (JX S old name).1 w'):=by
 refine PT ?_
 unfold Ma GX JX
 refine(aEv h).mono ?_
 rintro r w1 ⟨rfl,rfl⟩
 by_cases hd:S.down=true
 .rw [if_pos hd,if_pos hd]
  have n1:((20:Int) !=0)=true:=rfl
  simp(disch:=omega)only[SV,n1]
  exact CA.refl h
 rw[if_neg hd,if_neg hd]
 have n1:((0:Int) !=0)=false:=rfl
 have h':=h
 obtain⟨ms,mn,sv,ls,ln,cs,h1,h2,h3,h4,h5,h6,hXD,hDl,op,hms,hmn,hfs,hfn,hun,hop⟩:=h'
 have h7:∀b,X b->b<w1.heap.size:=λb hb=>hDl b (hXD b hb)
 have c2:=op.cell (off:=2)
 simp only[aJD,aJJ]at c2
 simp(disch:=omega)only[SV,n1]
 refine(aDC old _).mono ?_
 rintro r w2 ⟨rfl,hw⟩
 rw[hw];clear hw w2
 cases hm1:Aq old with
 |false=>
  rw[if_pos (.inl rfl)]
  simp(disch:=omega)only[SV]
  exact CA.refl h
 |true=>
  simp(disch:=omega)only[SV]
  refine(aDC name _).mono ?_
  rintro r w2 ⟨rfl,hw⟩
  rw[hw];clear hw w2
  cases hm2:Aq name with
  |false=>
   rw[if_pos (.inr rfl)]
   simp(disch:=omega)only[SV]
   exact CA.refl h
  |true=>
   rw[if_neg (by simp)]
   have l0:=Fj hmn old
   rcases hfn.get old with⟨q1,q2⟩|⟨v,b,q1,q2,q3⟩
   .rw [q1]at l0
    have l0:(Dp 73 (.map (some mn)) (.string old) true).run pg w1= .ok (.value (.tuple #[.slice none 0 0,.bool false])) w1:=l0
    rw[q2,if_pos (show(none:Option (List UInt8)).isNone=true from rfl)]
    simp(disch:=omega)only[SV,n1,c2,l0]
    exact CA.refl h
   .obtain ⟨a',c',rfl⟩:=JN.slice q3
    rw[q1]at l0
    have l0:(Dp 73 (.map (some mn)) (.string old) true).run pg w1= .ok (.value (.tuple #[.slice a' b.length c',.bool true])) w1:=l0
    rw[q2,if_neg (show¬(some b).isNone=true by simp)]
    have hdn:=axU (o:=⟨1,old,name,0,[]⟩) (va:=none) (vc:=0) h ⟨Sl.nil _,λh=>h⟩ hB.left hB.seen (show 0<=_ by omega) (show 0<=_ by omega) hB.under
    have opE:YP ⟨1,old,name,0,[]⟩ (.slice none ([]:List UInt8).length 0)=[.int .i64 1,.string old,.string name,.int .i64 0,.slice none 0 0]:=rfl
    rw[opE]at hdn
    simp(disch:=omega)only[SV,n1,c2,l0]
    exact hdn
theorem aHl{p:Nat}{X D:Nat->Prop}{S:cG}{a:Int}{w:aL0}(h:fS w p X D S):aG pg zX #[dP p,.int .i64 a] w (λr w'=>r= .tuple #[]/\CA w p X D {S with left:=max a (-1)} w'):=by
 refine TP ?_
 unfold Q3 Kc
 obtain⟨ms,mn,sv,ls,ln,cs,h1,h2,h3,h4,h5,h6,hXD,hDl,op,hms,hmn,hfs,hfn,hun,hop⟩:=h
 have h7:=λb (hb:X b)=>hDl b (hXD b hb)
 have e1:(if(-1:Int)>a then(-1:Int)else a)=max a (-1):=by split<;>omega
 simp(disch:=omega)only[SV,e1]
 refine DD op rfl (by simp) λw1 o1 x1 s1=> ?_
 simp only[aJV,aKi]at o1
 have xX:aL w w1 X:=x1.mono λb _ h=>h▸h1
 have xD:aL w w1 D:=xX.mono λb _ h=>hXD b h
 exact⟨X,D,⟨ms,mn,sv,ls,ln,cs,h1,h2,h3,h4,h5,h6,hXD,λb hb=>by have:=hDl b hb;omega,o1,hms.ext x1 (λh=>h4 h.symm),hmn.ext x1 (λh=>h5 h.symm),hfs.ext xD λ_ h=>h,hfn.ext xD λ_ h=>h,hun.ext x1 (λb hb h=>hb.2.1 h),hop.ext xD λ_ h=>h⟩,λ_ h=> .inl h,λ_ h=>h,xX⟩
def AP(S:cG):cG×Int:=
 if S.down then(S,20)else if dnB S then({S with left:=Cp S.left,down:=dnB S},20)
 else({S with left:=Cp S.left,down:=dnB S,sure:=S.seen,under:=[]},0)
theorem aHn{p:Nat}{X D:Nat->Prop}{S:cG}{w:aL0}(h:fS w p X D S)(hB:DBd S):
 aG pg dQ #[dP p] w (λr w'=>r= .int .i64 (AP S).2/\CA w p X D (AP S).1 w'):=by
 refine TQ ?_
 unfold Q5 Kd AP
 refine(aEv h).mono ?_
 rintro r w1 ⟨rfl,rfl⟩
 by_cases hd:S.down=true
 .rw [if_pos hd,if_pos hd]
  have n1:((20:Int) !=0)=true:=rfl
  simp(disch:=omega)only[SV,n1]
  exact CA.refl h
 rw[if_neg hd,if_neg hd]
 have n1:((0:Int) !=0)=false:=rfl
 obtain⟨ms,mn,sv,ls,ln,cs,h1,h2,h3,h4,h5,h6,hXD,hDl,op,hms,hmn,hfs,hfn,hun,hop⟩:=h
 have h7:=λb (hb:X b)=>hDl b (hXD b hb)
 simp(disch:=omega)only[SV,n1]
 refine(aA5 op hB.left).mono ?_
 rintro r w2 ⟨rfl,op2,x2⟩
 have hdn:(S.down||S.left==0)=dnB S:=rfl
 rw[hdn]at op2⊢
 have xX:aL w1 w2 X:=x2.mono λb _ h=>h▸h1
 have xD:aL w1 w2 D:=xX.mono λb _ h=>hXD b h
 have z2:=x2.size
 have h72:∀b,X b->b<w2.heap.size:=λb hb=>by have:=h7 b hb;omega
 have hD2:∀b,D b->b<w2.heap.size:=λb hb=>by have:=hDl b hb;omega
 have hms2:=hms.ext x2 (λh=>h4 h.symm)
 have hmn2:=hmn.ext x2 (λh=>h5 h.symm)
 have hfs2:=hfs.ext xD λ_ h=>h
 have hfn2:=hfn.ext xD λ_ h=>h
 cases hD:dnB S with
 |true=>
  rw[hD]at op2
  rw[if_pos rfl]
  simp(disch:=omega)only[SV]
  exact⟨X,D,⟨ms,mn,sv,ls,ln,cs,h1,h2,h3,h4,h5,h6,hXD,hD2,op2,hms2,hmn2,hfs2,hfn2,hun.ext x2 (λb hb h=>hb.2.1 h),hop.ext xD λ_ h=>h⟩,λ_ h=> .inl h,λ_ h=>h,xX⟩
 |false=>
  rw[hD]at op2
  rw[if_neg (by decide)]
  have c2:=op2.cell (off:=2)
  simp only[aJD,aJJ]at c2
  simp(disch:=omega)only[SV,c2]
  refine(auC hmn2).mono ?_
  rintro r w3 ⟨rfl,hmc,x3,s3⟩
  have op3:=op2.ext x3 (λh=>h)
  refine U8 op3 rfl (by simp) λw4 op4 x4 s4=> ?_
  simp only[aJV,aKi]at op4
  refine zM op4 rfl (by simp) λw5 op5 x5 s5=> ?_
  simp only[aJV,aKi]at op5
  have hp2:p<w2.heap.size:=op2.lt
  have hmn2l:=hmn2.lt
  have x45:aL w3 w5 (λy=>y=p):=x4.seq x5
  obtain⟨Y,hY⟩:∃Y:Nat->Prop,Y=λb=>X b∨b=w2.heap.size:=⟨_,rfl⟩
  have hYX:∀b,X b->Y b:=λb h=>by rw[hY];exact .inl h
  have hY2:∀b,Y b->X b∨w2.heap.size<=b:=λb h=>by rw[hY]at h;rcases h with h|h;exact .inl h;exact .inr (by omega)
  obtain⟨E,hE⟩:∃E:Nat->Prop,E=λb=>D b∨b=w2.heap.size:=⟨_,rfl⟩
  have hED:∀b,D b->E b:=λb h=>by rw[hE];exact .inl h
  have hYE:∀b,Y b->E b:=λb h=>by rw[hY]at h;rw[hE];rcases h with h|h;exact .inl (hXD b h);exact .inr h
  have hE2:∀b,E b->D b∨w2.heap.size<=b:=λb h=>by rw[hE]at h;rcases h with h|h;exact .inl h;exact .inr (by omega)
  have x3Y:aL w2 w3 E:=x3.mono λ_ _ h=>h.elim
  have x45Y:aL w3 w5 E:=x45.mono λb _ h=>by rw[h];exact hED _ (hXD _ h1)
  have dat:∀v b,JN w2 D v b->JN w5 E v b:=λv b hd=>((hd.sub hE2).ext x3Y λ_ h=>h).ext x45Y λ_ h=>h
  refine⟨Y,E,⟨w2.heap.size,mn,.slice none 0 0,ln,ln,[],hYX _ h1,by rw[hY];exact .inr rfl,hYX _ h3,by omega,h5,by omega,hYE,λb h=> ?_,op5,hmc.ext x45 (by omega),(hmn2.ext x3 (λh=>h)).ext x45 (λh=>h5 h.symm),hfn2.map dat,hfn2.map dat,⟨rfl,.inl ⟨rfl,rfl⟩⟩,rfl⟩,λb h=> ?_,hED,(xX.trans x3 λ_ _ h=>h.elim).trans x45 λb _ h=>by rw[h];exact h1⟩
  .rw [hE]at h
   rcases h with h|h
   .have:=hD2 b h;omega
   .omega
  .rcases hY2 b h with h|h
   .exact .inl h
   .exact .inr (by omega)
def crN(os:List LP)(ks:List Bool)(c:cO):Nat->cO
 |0=>c
 |i+1=>match os[i]?,ks[i]? with
  |some o,some true=>TS o (crN os ks c i)
  |_,_=>crN os ks c i
def crS(S:cG)(ks:List Bool):cG:={S with sure:=crN S.under ks S.sure S.under.length,seen:=crN S.under ks S.sure S.under.length,under:=[],left:= -1,down:=false}
theorem aE4 {p:Nat}{X D:Nat->Prop}{S:cG}{kv:aL1}{ks:List Bool}{w:aL0}(h:fS w p X D S)(hk:Sl w kv (ks.map Value.bool))(hkX:¬fK kv X)(hkl:ks.length<=9223372036854775807)(hu:S.under.length<=1000000)
 (hs:∀i,i<=S.under.length->bN (crN S.under ks S.sure i)<=1099511627776) (hop':∀o∈S.under,o.at'<=1099511627776/\o.bytes.length<=1099511627776):
 aG pg wU #[dP p,kv] w (λr w'=>r= .tuple #[]/\CA w p X D (crS S ks) w'):=by
 refine Q0 ?_
 unfold OR GV GU
 simp(disch:=omega)only[SV]
 obtain⟨ms,mn,sv,ls,ln,cs,h1,h2,h3,h4,h5,h6,hXD,hDl,op,hms,hmn,hfs,hfn,hun,hop⟩:=h
 have h7:=λb (hb:X b)=>hDl b (hXD b hb)
 have hp:p<w.heap.size:=op.lt
 have hmsl:=hms.lt
 have hmnl:=hmn.lt
 have c3:=op.cell (off:=3)
 simp only[aJD,aJJ]at c3
 obtain⟨ua,uc,rfl⟩:=hun.len
 obtain⟨ka,kc,rfl,_⟩:=hk.len
 rw[aJC]at hk hkX⊢
 unfold BQ BP Ii
 simp(disch:=omega)only[SV,c3]
 unfold uG
 have hol:=hop.len
 refine bM.rule (λm (t:aL1) w'=>∃(i:Nat) (ls':List (ByteArray×aL1)),m=S.under.length-i/\t= .int .i64 i/\i<=S.under.length/\Mp w' ms Rb ls'/\FD w' D ls' (crN S.under ks S.sure i)/\aL w w' (λb=>b=ms)) S.under.length
  ⟨0,ls,rfl,rfl,by omega,hms,hfs,aL.refl _ _⟩ ?_
 rintro m t w1 ⟨i,ls',rfl,rfl,hi,hms1,hf1,x1⟩
 have z1:=x1.size
 have x1X:aL w w1 X:=x1.mono λb _ h=>h▸h2
 have x1D:aL w w1 D:=x1X.mono λb _ h=>hXD b h
 have op1:=op.ext x1 (λh=>h4 h)
 unfold BO Ih
 by_cases hlt:i<S.under.length
 .have d1:decide ((i:Int)<(S.under.length:Int))=true:=by simp;omega
  obtain⟨v,⟨va,vn,vc,rfl⟩,hcs,hdat⟩:=hop.at hlt
  obtain⟨a',c',e'⟩:=JN.slice hdat
  simp only[Value.slice.injEq]at e'
  obtain⟨-,rfl,-⟩:=e'
  rcases hun.2 with⟨hnil,h0⟩|⟨b,c,rest,hsv,hbX,ob,hbl,hbc⟩
  .omega
  simp only[Value.slice.injEq]at hsv
  obtain⟨rfl,-,rfl⟩:=hsv
  have ob1:=ob.ext x1 (λh=>hbX.2.2.1 h)
  have l1:=pG (off:=i*5) ob1 (by rw[aJF];omega)
  have htk:((cs++rest).drop (i*5)).take 5=YP S.under[i] (.slice va S.under[i].bytes.length vc):=by
   rw[aKo (by omega),aKh (by rw[aJS];omega)];exact hcs
  rw[htk]at l1
  have hmem:=hop' _ (aKp hlt)
  have hcr:crN S.under ks S.sure (i+1)=match ks[i]? with|some true=>TS S.under[i] (crN S.under ks S.sure i)|_=>crN S.under ks S.sure i:=by
   rw[crN,aJE hlt]
   cases ks[i]? with
   |none=>rfl
   |some q=>cases q<;>rfl
  have hsi:=hs i hi
  generalize S.under[i]=o at*
  simp(disch:=omega)only[SV,d1,l1]
  refine We λw2 o2 x2 s2=> ?_
  refine V0 o2 rfl (by unfold YP;simp[one]) (by simp) λw3 o3 x3 s3=> ?_
  have o3:bD w3 w1.heap.size (YP o (.slice va o.bytes.length vc)):=o3
  have x13:aL w1 w3 aT:=x2.new x3 (aJO _)
  have x03:=x1.trans x13 λ_ _ h=>h.elim
  have hms3:=hms1.ext x13 (λh=>h)
  have hf3:=hf1.ext x13 λ_ h=>h.elim
  have hd3:JN w3 D (.slice va o.bytes.length vc) o.bytes:=(hdat.ext x1D λ_ h=>h).ext x13 λ_ h=>h.elim
  have op3:=op1.ext x13 (λh=>h)
  have q1d:=(dB op3).cell (off:=1)
  have q1:=op3.cell (off:=1)
  simp only[aJD,aJJ]at q1 q1d
  have l3:=pG (off:=0) o3 (by unfold YP;simp)
  have l3d:=pG (off:=0) (dB o3) (by unfold YP;simp)
  have l3':((YP o (.slice va o.bytes.length vc)).drop 0).take 5=YP o (.slice va o.bytes.length vc):=rfl
  rw[l3']at l3 l3d
  have z3:=x13.size
  unfold BN
  have skip:crN S.under ks S.sure (i+1)=crN S.under ks S.sure i->∃m,m<S.under.length-i/\∃(i':Nat) (ls':List (ByteArray×aL1)),m=S.under.length-i'/\Value.int .i64 ((i+1:Nat):Int)= .int .i64 i'/\i'<=S.under.length/\Mp w3 ms Rb ls'/\FD w3 D ls' (crN S.under ks S.sure i')/\aL w w3 (λb=>b=ms):=λe=>
   ⟨S.under.length-(i+1),by omega,i+1,ls',rfl,rfl,by omega,hms3,by rw[e];exact hf3,x03⟩
  have ei:(i:Int)+1=((i+1:Nat):Int):=by omega
  by_cases hki:i<ks.length
  .have d2:decide ((i:Int)<(ks.length:Int))=true:=by simp;omega
   obtain⟨kb,koff,rfl,hcell⟩:=aJd (hk.ext x03 (λh=>hkX (bO h λb hb=>by rw[hb];exact h2))) (by omega)
   have g1:=hcell i hki
   rw[aJ4,aJE hki]at g1
   simp only[aKs]at g1
   rw[aJE hki]at hcr
   generalize ks[i]=kq at*
   cases kq with
   |false=>
    simp(disch:=omega)only[SV,d2,g1,ei]
    exact skip hcr
   |true=>
    simp(disch:=omega)only[SV,d2,g1,q1,q1d,l3,l3d]
    refine(aHS (X:=D) (c:=crN S.under ks S.sure i) (o:=o) hms3.dr (hXD _ h2) (λb hb=>by have:=hDl b hb;show b<w3.heap.size;omega) (hf3.ext (aL.dr _ aT) λ_ h=>h.elim) (hd3.ext (aL.dr _ aT) λ_ h=>h.elim) hsi hmem.1 hmem.2).mono ?_
    rintro r w4 ⟨rfl,ls4,hms4,hf4,x4⟩
    have x4:aL w3 w4 (λb=>b=ms):=(aL.dr _ _).seq x4
    simp(disch:=omega)only[SV,ei]
    exact⟨S.under.length-(i+1),by omega,i+1,ls4,rfl,rfl,by omega,hms4,by rw[hcr];exact hf4,x03.seq x4⟩
  .have d2:decide ((i:Int)<(ks.length:Int))=false:=by simp;omega
   rw[aKt (by omega)]at hcr
   simp(disch:=omega)only[SV,d2,ei]
   exact skip hcr
 .have d1:decide ((i:Int)<(S.under.length:Int))=false:=by simp;omega
  obtain rfl:i=S.under.length:=by omega
  have c1:=op1.cell (off:=1)
  simp only[aJD,aJJ]at c1
  unfold BM
  simp(disch:=omega)only[SV,d1,c1]
  refine(auC hms1).mono ?_
  rintro r w3 ⟨rfl,hmc,x3,s3⟩
  have op3:=op1.ext x3 (λh=>h)
  refine U8 op3 rfl (by simp) λw4 op4 x4 s4=> ?_
  simp only[aJV,aKi]at op4
  refine zM op4 rfl (by simp) λw5 op5 x5 s5=> ?_
  simp only[aJV,aKi]at op5
  refine DD op5 rfl (by simp) λw6 op6 x6 s6=> ?_
  simp only[aJV,aKi]at op6
  refine vD op6 rfl (by simp) λw7 op7 x7 s7=> ?_
  simp only[aJV,aKi]at op7
  have x37:aL w3 w7 (λy=>y=p):=((x4.seq x5).seq x6).seq x7
  obtain⟨Y,hY⟩:∃Y:Nat->Prop,Y=λb=>X b∨b=w1.heap.size:=⟨_,rfl⟩
  have hYX:∀b,X b->Y b:=λb h=>by rw[hY];exact .inl h
  have hY2:∀b,Y b->X b∨w1.heap.size<=b:=λb h=>by rw[hY]at h;rcases h with h|h;exact .inl h;exact .inr (by omega)
  obtain⟨E,hE⟩:∃E:Nat->Prop,E=λb=>D b∨b=w1.heap.size:=⟨_,rfl⟩
  have hED:∀b,D b->E b:=λb h=>by rw[hE];exact .inl h
  have hYE:∀b,Y b->E b:=λb h=>by rw[hY]at h;rw[hE];rcases h with h|h;exact .inl (hXD b h);exact .inr h
  have hE2:∀b,E b->D b∨w1.heap.size<=b:=λb h=>by rw[hE]at h;rcases h with h|h;exact .inl h;exact .inr (by omega)
  have x3Y:aL w1 w3 E:=x3.mono λ_ _ h=>h.elim
  have x37Y:aL w3 w7 E:=x37.mono λb _ h=>by rw[h];exact hED _ (hXD _ h1)
  have dat:∀v b,JN w1 D v b->JN w7 E v b:=λv b hd=>((hd.sub hE2).ext x3Y λ_ h=>h).ext x37Y λ_ h=>h
  refine⟨Y,E,⟨ms,w1.heap.size,.slice none 0 0,ls',ls',[],hYX _ h1,hYX _ h2,by rw[hY];exact .inr rfl,h4,by omega,by omega,hYE,λb h=> ?_,op7,(hms1.ext x3 (λh=>h)).ext x37 (λh=>h4 h.symm),hmc.ext x37 (by omega),hf1.map dat,hf1.map dat,⟨rfl,.inl ⟨rfl,rfl⟩⟩,rfl⟩,λb h=> ?_,hED,(x1X.trans x3 λ_ _ h=>h.elim).trans x37 λb _ h=>by rw[h];exact h1⟩
  .rw [hE]at h
   rcases h with h|h
   .have:=hDl b h;omega
   .omega
  .rcases hY2 b h with h|h
   .exact .inl h
   .exact .inr (by omega)
end Go.Proofs.YteelnmpbnaohpaaGreatDoor
namespace Go.Proofs.YteelnmpbnaohpaaGreatDoor
open Go Go.En Go.Pu
structure Gh where
 size:Nat
 part:Nat
 leaves:List (List UInt8)
structure eT where
 nm:ByteArray
 man:Gh
 epoch:Nat
 hv:List Bool
 log:Nat
 fin:Bool
 err:Int
def aZ(n:ByteArray):ByteArray:=n++⟨#[46,112,97,114,116]⟩
def cZ(n:ByteArray):ByteArray:=n++⟨#[46,108,111,103]⟩
section
variable(lf:List UInt8->List UInt8)(cf:List UInt8->Nat)
def wT(m:Gh)(i:Nat)(b:List UInt8):Bool:=b.length==U7 m.size m.part i&&lf b==m.leaves.getD i []
def wholeAt(m:Gh)(b:List UInt8)(i:Nat):Bool:=decide (m.part*i+U7 m.size m.part i<=b.length)&&wT lf m i (CB m.size m.part i b)
def bQ(m:Gh)(b:List UInt8):List Bool:=(List.range m.leaves.length).map (wholeAt lf m b)
def Ae(l:List Bool):Bool:= !l.contains false
def bS(S:cG)(n:ByteArray):List UInt8×Bool×Int:=if S.down then([],false,20)else match bF n S.seen with
 |none=>([],false,0)
 |some b=>(b,true,0)
def bZ(S:cG)(s:eT)(k v:Nat):cG×eT×Int:=
 let r:=zU S (cZ s.nm) s.log (pA cf k v)
 if r.2=0 then(r.1,{s with log:=s.log+13},0)else(r.1,s,r.2)
def cC(S:cG)(s:eT):cG×List UInt8×Int:=
 let r:=bS S (aZ s.nm)
 if r.2.2≠0 then(S,[],r.2.2)
 else if s.man.size<r.1.length then
  let d:=Yj S (aZ s.nm)
  if d.2≠0 then(d.1,[],d.2)else
    let e:=zU d.1 (aZ s.nm) 0 (List.replicate s.man.size 0)
    (e.1,[],e.2)
 else if r.1.length<s.man.size∨r.2.1=false then
  let e:=zU S (aZ s.nm) r.1.length (List.replicate (s.man.size-r.1.length) 0)
  (e.1,r.1,e.2)
 else(S,r.1,0)
def nH(l:List (Nat×Nat))(w:List Bool)(n:Nat):List Bool:=(List.range n).map λi=>l.any (λr=>r.1==2&&r.2==i)&&w.getD i false
def sY(S:cG)(n:ByteArray)(m:Gh):cG×Option eT×Int:=
 let r:=bS S n
 if r.2.2≠0 then(S,none,r.2.2)else
 let hv:=bQ lf m r.1
 let fin:=r.2.1&&r.1.length==m.size&&Ae hv
 let g:=bS S (cZ n)
 if g.2.2≠0 then(S,none,g.2.2)else
 let l:=gB cf g.1
 let last:=dU 1 l
 if last=18446744073709551615 then(S,none,23)else
 let s:eT:=⟨n,m,last+1,hv,13*l.length,fin,0⟩
 let q:=bZ cf S s 1 (last+1)
 if q.2.2≠0 then(q.1,none,q.2.2)else
 if fin then
   let y:=AP q.1
   if y.2≠0 then(y.1,none,y.2)else(y.1,some q.2.1,0)
 else
  let f:=cC q.1 q.2.1
  if f.2.2≠0 then(f.1,none,f.2.2)else
  let y:=AP f.1
  if y.2≠0 then(y.1,none,y.2)else(y.1,some {q.2.1 with hv:=nH l (bQ lf m f.2.1) m.leaves.length},0)
def fD(S:cG)(s:eT)(i:Nat)(b:List UInt8):cG×eT×Int:=
 let r:=zU S (aZ s.nm) (s.man.part*i:Nat) b
 if r.2≠0 then(r.1,s,r.2)else
 let y:=AP r.1
 if y.2≠0 then(y.1,s,y.2)else
 let q:=bZ cf y.1 s 2 i
 if q.2.2≠0 then(q.1,q.2.1,q.2.2)else
 let z:=AP q.1
 (z.1,q.2.1,z.2)
def yT(S:cG)(s:eT)(i:Int)(b:List UInt8):cG×eT×Int:=
 if s.err≠0 then(S,s,s.err)
 else if i<0∨(s.hv.length:Int)<=i then(S,s,17)
 else if s.fin||s.hv.getD i.toNat false then(S,s,0)
 else if wT lf s.man i.toNat b=false then(S,s,13)
 else
  let q:=fD cf S s i.toNat b
  (q.1,{q.2.1 with err:=q.2.2,hv:=q.2.1.hv.set i.toNat (q.2.2==0)},q.2.2)
def dV(S:cG)(s:eT):cG×eT×Int:=
 if s.err≠0 then(S,s,s.err)
 else if s.fin then(S,s,0)
 else if Ae s.hv=false then(S,s,30)
 else if S.down then(S,{s with err:=20},20)
 else match bF (aZ s.nm) S.seen with
 |none=>(S,{s with err:=21},21)
 |some b=>
  if Ae (bQ lf s.man b)=false then(S,{s with hv:=bQ lf s.man b},13)
  else
   let r:=JX S (aZ s.nm) s.nm
   if r.2≠0 then(r.1,{s with hv:=bQ lf s.man b,err:=r.2,fin:=false},r.2)else
   let y:=AP r.1
   (y.1,{s with hv:=bQ lf s.man b,err:=y.2,fin:=y.2==0},y.2)
def kC(f:List UInt8)(k:Nat):Gh:=⟨f.length,k,(List.range (lD f.length k)).map λi=>lf (CB f.length k i f)⟩
end
structure GN(n:Nat)(S:cG):Prop where
 bd:DBd S
 sz:bN S.seen<=1000000000
 un:S.under.length+n<=1000000
theorem GN.le {n m:Nat}{S:cG}(h:GN n S)(hm:m<=n):GN m S:=⟨h.bd,h.sz,by have:=h.un;omega⟩
theorem GN.file {n:Nat}{S:cG}(h:GN n S){k:ByteArray}{b:List UInt8}(hb:bF k S.seen=some b):b.length<=1000000000:=by
 have h1:=sS (k:=k) (c:=S.seen)
 rw[hb]at h1
 have:=h.sz
 have h1:b.length<=bN S.seen:=h1
 omega
theorem WT{l:Int}(h: -1<=l/\l<=9223372036854775807): -1<=Cp l/\Cp l<=9223372036854775807:=by
 unfold Cp
 split<;>omega
theorem apY{n:Nat}{S:cG}{o:LP}(h:GN (n+1) S)(hs:bN (TS o S.seen)<=1000000000):GN n (yL S o).1:=by
 have hb:=h.bd
 have hu:=h.un
 have hz:=h.sz
 unfold yL
 split
 .exact ⟨⟨WT hb.left,hb.seen,hb.under,hb.room⟩,hz,by show S.under.length+n<=_;omega⟩
 .refine ⟨⟨WT hb.left,by show bN (TS o S.seen)<=_;omega, ?_,hb.room⟩,hs, ?_⟩
  .show (S.under++[o]).length<=_;rw[aJF];simp;omega
  .show (S.under++[o]).length+n<=_;rw[aJF];simp;omega
theorem awZ{n:Nat}{S:cG}{k:ByteArray}{a:Int}{l:List UInt8}(h:GN (n+1) S):GN n (zU S k a l).1:=by
 unfold zU
 split
 .rename_i h0
  refine apY h ?_
  unfold wrE at h0
  split at h0
  .omega
  split at h0
  .omega
  rename_i h1
  split at h0
  .omega
  split at h0
  .omega
  rename_i h2
  have hr:=h.bd.room
  have e:TS ⟨0,k,⟨#[]⟩,a.toNat,l⟩ S.seen=nR k (over (nT S k) a.toNat l) S.seen:=rfl
  have hs:=sT k (over (nT S k) a.toNat l) S.seen
  rw[yR]at hs
  rw[e]
  unfold nT at*
  generalize((bF k S.seen).getD []).length=q at*
  have:0<=a:=by
   by_cases ha:a<0
   .exact absurd (.inr ha) h1
   .omega
  omega
 .exact h.le (by omega)
theorem aAO{n:Nat}{S:cG}{k:ByteArray}(h:GN (n+1) S):GN n (Yj S k).1:=by
 unfold Yj
 split
 .exact h.le (by omega)
 .split
  .exact h.le (by omega)
  .refine apY h ?_
   have:=HO k S.seen
   have hz:=h.sz
   show bN (yM k S.seen)<=_
   omega
theorem aGt{n:Nat}{S:cG}{k j:ByteArray}(h:GN (n+1) S):GN n (JX S k j).1:=by
 unfold JX
 split
 .exact h.le (by omega)
 .split
  .exact h.le (by omega)
  .split
   .exact h.le (by omega)
   .refine apY h ?_
    have hz:=h.sz
    unfold TS
    rw[if_neg (show¬(1:Nat)=0 by decide),if_pos (show(1:Nat)=1 from rfl)]
    show bN (match bF k S.seen with|none=>S.seen|some old=>nR j old (yM k S.seen))<=_
    have h1:=HO k S.seen
    cases hg:bF k S.seen with
    |none=>exact hz
    |some old=>
     rw[hg]at h1
     have h1:bN (yM k S.seen)+old.length=bN S.seen:=h1
     have h2:=sT j old (yM k S.seen)
     show bN (nR j old (yM k S.seen))<=_
     omega
theorem aGu{n:Nat}{S:cG}(h:GN n S):GN n (AP S).1:=by
 have hb:=h.bd
 have hu:=h.un
 unfold AP
 split
 .exact h
 .split
  .exact ⟨⟨WT hb.left,hb.seen,hb.under,hb.room⟩,h.sz,hu⟩
  .exact ⟨⟨WT hb.left,hb.seen,by simp,hb.room⟩,h.sz,by simp;omega⟩
structure Calm(S:cG):Prop where
 up:S.down=false
 left:S.left= -1
theorem aAk{S:cG}(h:Calm S):dnB S=false:=by unfold dnB;rw[h.up,h.left]<;>rfl
theorem anG{S:cG}(h:Calm S)(o:LP):yL S o=({S with under:=S.under++[o],seen:=TS o S.seen},0):=by
 have h1:=h.up
 have h2:=h.left
 unfold yL
 rw[aAk h,if_neg (by decide)]
 obtain⟨room,sure,seen,under,left,down⟩:=S
 simp only at h1 h2
 subst h1;subst h2
 rfl
theorem YG{S:cG}(h:Calm S):AP S=({S with sure:=S.seen,under:=[]},0):=by
 have h1:=h.up
 have h2:=h.left
 unfold AP
 rw[aAk h,h.up,if_neg (show¬false=true by decide),if_neg (show¬false=true by decide)]
 obtain⟨room,sure,seen,under,left,down⟩:=S
 simp only at h1 h2
 subst h1;subst h2
 rfl
theorem arO{S:cG}{k:ByteArray}{a:Nat}{l:List UInt8}(h:Calm S)(hk:Aq k=true)(ha:a<=(nT S k).length):
 zU S k a l=if S.room<((bN S.seen+(a+l.length-(nT S k).length):Nat):Int)then(S,22)else({S with under:=S.under++[⟨0,k,⟨#[]⟩,a,l⟩],seen:=nR k (over (nT S k) a l) S.seen},0):=by
 have e:wrE S k a l.length=if S.room<((bN S.seen+(a+l.length-(nT S k).length):Nat):Int)then 22 else 0:=by
  unfold wrE
  rw[h.up,if_neg (by decide),hk,if_neg (by rintro(h|h);cases h;omega),if_neg (by omega)]
  have:((bN S.seen:Nat):Int)+max ((a:Int)+(l.length:Int)-((nT S k).length:Int)) 0=((bN S.seen+(a+l.length-(nT S k).length):Nat):Int):=by omega
  rw[this]
 unfold zU
 rw[e]
 by_cases h1:S.room<((bN S.seen+(a+l.length-(nT S k).length):Nat):Int)
 .rw [if_pos h1,if_pos h1,if_neg (by decide)]
 .rw [if_neg h1,if_neg h1,if_pos rfl,anG h,aJI]
  rfl
end Go.Proofs.YteelnmpbnaohpaaGreatDoor

/- Parts of the proof of StorePlays: merged and given short names by a program of ours. -/
import Derived.WalkKit
import Derived.ProofKit
import Derived.OpenShut
import Derived.Laws.Strings
import Derived.Deep.Grids
import Derived.Laws.StructEq
import Derived.Shelf.SlMaps.Clone
import Derived.Test.YteelnmpbnaohpaaGreatDoorZpB
set_option linter.unusedVariables false
set_option linter.unusedSimpArgs false
open Array renaming getElem?_eq_getElem → aJ2, getElem?_setIfInBounds_self_of_lt → aJ4, getElem?_setIfInBounds_ne → aJ6, getD_eq_getD_getElem? → aJN, getElem?_eq_none → aKj
open Bool renaming false_eq_true → aJI, and_eq_true → aJM, not_false → aKD, not_true → aKU, or_eq_true → aKq, and_eq_false_iff → aLN, false_or → aLe, or_eq_false_iff → aLi, or_false → aLx
open Int renaming toNat_natCast → aJE, tdiv_eq_ediv_of_nonneg → aLy
open List renaming getElem?_map → aJ0, mem_cons_self → aJ3, length_replicate → aJ5, map_append → aJ7, length_eq_zero_iff → aJ9, getElem?_eq_getElem → aJA, length_append → aJB, take_of_length_le → aJD, getElem?_cons_succ → aJF, mem_cons → aJG, getD_eq_getElem?_getD → aJH, length_take → aJL, length_drop → aJO, mem_cons_of_mem → aJP, map_cons → aJQ, set_cons_zero → aJR, append_assoc → aJS, length_cons → aJT, drop_zero → aJU, toList_toArray → aJV, getElem?_append_left → aJW, nil_append → aJX, getElem?_append_right → aJY, take_succ_eq_append_getElem → aJZ, length_map → aJy, getElem?_cons_zero → aJz, getElem?_drop → aK1, mem_append_left → aK5, map_congr_left → aKF, size_toArray → aKG, take_append_drop → aKI, eraseIdx_cons_succ → aKM, mem_of_getElem? → aKN, getElem?_toArray → aKP, map_set → aKR, pairwise_cons → aKS, pairwise_append → aKV, nodup_cons → aKY, append_nil → aKb, mem_append → aKc, take_append_of_le_length → aKd, set_cons_succ → aKe, set_append_right → aKf, drop_append_of_le_length → aKk, getElem_mem → aKl, mem_map → aKm, length_set → aKn, getElem?_eq_none → aKp, drop_of_length_le → aKs, flatMap_cons → aKv, length_nil → aKy, getElem?_take_of_lt → aKz, replicate_succ → aLD, length_erase_of_mem → aLF, map_replicate → aLG, take_add_one → aLK, map_nil → aLQ, mem_filter → aLR, replicate_succ' → aLS, cons_append → aLa, drop_drop → aLb, range_succ → aLd, map_drop → aLf, sum_cons → aLg, ext_getElem? → aLh, mem_of_mem_take → aLj, getElem_map → aLm, replicate_zero → aLp, mem_append_right → aLt, ext_getElem → aLv, map_take → aLz
open Nat renaming min_eq_left → aJ1, zero_add → aJC, le_refl → aJK, pow_le_pow_right → aK7, mul_le_mul_left → aK9, add_sub_cancel_left → aKB, sub_self → aKO, le_trans → aKZ, lt_of_lt_of_le → aKa, mod_eq_of_lt → aKh, add_assoc → aKu, lt_or_ge → aKw, div_le_self → aLE, mul_comm → aLH, add_zero → aLT, mul_le_mul_right → aLU, zero_mul → aLV, mod_lt → aLk, pow_succ → aLn
open Option renaming isNone_none → aK3, getD_some → aKA, isNone_some → aKL, map_some → aKo
open Option.some renaming injEq → aJ8
open UInt8 renaming toNat_ofNat' → aKT, lt_iff_toNat_lt → aLP
namespace Go.Proofs.YteelnmpbnaohpaaGreatDoor
open Go Go.En
set_option maxRecDepth 4000
theorem mI{ty:TypeId}(x:Option Addr)(n c:Nat)(w:aLW):(eI .len #[22] ty [.slice x n c]).run pg w= .ok (.value (.int .i64 n)) w:=IF Tryz.underlying22 x n c
theorem GY{k:IntKind}(a:Int)(w:aLW):(cJ 5 3 (.int k a)).run pg w= .ok (.value (.int .i64 (IntKind.i64.wrap a))) w:=D7 Tryz.underlying5 Tryz.underlying3
theorem atD:(pg).info? 30=some Tryz.t30:=by kernel_rfl
theorem sM{w:aLW}{K:aLX->aLW->Prop}(hk:∀w',bD w' w.heap.size [(.int .u64 0),(.int .u32 0),(.slice none 0 0)]->aL w w' aT->w'.heap.size=w.heap.size+1->K (.pointer (some ⟨w.heap.size,0,none⟩)) w'):aA pg (bE 30) w K:=iT (i:=Tryz.t30) atD rfl hk
theorem qG{b off:Nat}{cs:List aLX}{w:aLW}{xs:Array aLX}{K:aLX->aLW->Prop}(ho:bD w b cs)(hs:xs.size=3)(hv:∀x∈xs.toList,one x=true)(h:off+3<=cs.length)(hk:∀w',bD w' b (eF cs off xs.toList)->aL w w' (λx=>x=b)->w'.heap.size=w.heap.size->K undef w'):aA pg (aF 30 (.pointer (some ⟨b,off,none⟩)) (.agg xs)) w K:=kA (v:= .agg xs) atD ho hs hv h hk
theorem KD{k:IntKind}(a:Int)(w:aLW):(cJ 23 3 (.int k a)).run pg w= .ok (.value (.int .i64 (IntKind.i64.wrap a))) w:=D7 Tryz.underlying23 Tryz.underlying3
theorem atF:(pg).info? 40=some Tryz.t40:=by kernel_rfl
theorem aV{w:aLW}{K:aLX->aLW->Prop}(hk:∀w',bD w' w.heap.size [(.int .i64 0),(.slice none 0 0),(.slice none 0 0),(.int .i64 0),(.bool false)]->aL w w' aT->w'.heap.size=w.heap.size+1->K (.pointer (some ⟨w.heap.size,0,none⟩)) w'):aA pg (bE 40) w K:=iT (i:=Tryz.t40) atF rfl hk
theorem dJ{b off:Nat}{cs:List aLX}{w:aLW}{xs:Array aLX}{K:aLX->aLW->Prop}(ho:bD w b cs)(hs:xs.size=5)(hv:∀x∈xs.toList,one x=true)(h:off+5<=cs.length)(hk:∀w',bD w' b (eF cs off xs.toList)->aL w w' (λx=>x=b)->w'.heap.size=w.heap.size->K undef w'):aA pg (aF 40 (.pointer (some ⟨b,off,none⟩)) (.agg xs)) w K:=kA (v:= .agg xs) atF ho hs hv h hk
theorem bW{b off:Nat}{cs:List aLX}{w:aLW}(ho:bD w b cs)(h:off+5<=cs.length):(aB 40 (.pointer (some ⟨b,off,none⟩))).run pg w= .ok (.value (.agg ((cs.drop off).take 5).toArray)) w:=pB Tryz.underlying40 rfl atF ho h
theorem pH(p0:Option Addr)(aEG aEH aEI aIz aIA:aLX)(w:aLW):(bV 49 [(0,(.pointer p0)),(2,(.agg #[aEG,aEH,aEI,aIz,aIA]))]).run pg w= .ok (.value (.agg #[(.pointer p0),(.pointer none),aEG,aEH,aEI,aIz,aIA,(.string ⟨#[]⟩),(.int .u64 0),(.int .u32 0),(.slice none 0 0),(.int .u64 0),(.slice none 0 0),(.int .i64 0),(.bool false),(.int .i64 0)])) w:=by kernel_rfl
theorem fX{b off:Nat}{cs:List aLX}{w:aLW}(ho:bD w b cs)(h:off+3<=cs.length):(aB 30 (.pointer (some ⟨b,off,none⟩))).run pg w= .ok (.value (.agg ((cs.drop off).take 3).toArray)) w:=pB Tryz.underlying30 rfl atD ho h
theorem aAs:(pg).info? 49=some Tryz.t49:=by kernel_rfl
theorem wG{w:aLW}{K:aLX->aLW->Prop}(hk:∀w',bD w' w.heap.size [(.pointer none),(.pointer none),(.int .i64 0),(.slice none 0 0),(.slice none 0 0),(.int .i64 0),(.bool false),(.string ⟨#[]⟩),(.int .u64 0),(.int .u32 0),(.slice none 0 0),(.int .u64 0),(.slice none 0 0),(.int .i64 0),(.bool false),(.int .i64 0)]->aL w w' aT->w'.heap.size=w.heap.size+1->K (.pointer (some ⟨w.heap.size,0,none⟩)) w'):aA pg (bE 49) w K:=iT (i:=Tryz.t49) aAs rfl hk
theorem Qi{b off:Nat}{cs:List aLX}{w:aLW}{xs:Array aLX}{K:aLX->aLW->Prop}(ho:bD w b cs)(hs:xs.size=16)(hv:∀x∈xs.toList,one x=true)(h:off+16<=cs.length)(hk:∀w',bD w' b (eF cs off xs.toList)->aL w w' (λx=>x=b)->w'.heap.size=w.heap.size->K undef w'):aA pg (aF 49 (.pointer (some ⟨b,off,none⟩)) (.agg xs)) w K:=kA (v:= .agg xs) aAs ho hs hv h hk
theorem PT{b off:Nat}{cs:List aLX}{w:aLW}(ho:bD w b cs)(h:off+16<=cs.length):(aB 49 (.pointer (some ⟨b,off,none⟩))).run pg w= .ok (.value (.agg ((cs.drop off).take 16).toArray)) w:=pB Tryz.underlying49 rfl aAs ho h
theorem oC{ty:TypeId}(x:Option Addr)(n c:Nat)(w:aLW):(eI .len #[24] ty [.slice x n c]).run pg w= .ok (.value (.int .i64 n)) w:=IF Tryz.underlying24 x n c
theorem aDb:(pg).info? 54=some Tryz.t54:=by kernel_rfl
theorem oA{k:IntKind}{a:Int}(b o n c:Nat)(w:aLW)(h0:0<=a)(h1:a<n):(aR 24 (.slice (some ⟨b,o,none⟩) n c) (.int k a)).run pg w= .ok (.value (.pointer (some ⟨b,o+a.toNat*8,none⟩))) w:=D8 rfl Tryz.underlying24 aDb b o n c h0 h1
theorem ahD:(pg).info? 22=some Tryz.t22:=by kernel_rfl
theorem lI(b o:Nat)(w:aLW):(aD 54 (.pointer (some ⟨b,o,none⟩)) 2).run pg w= .ok (.value (.pointer (some ⟨b,o+2,none⟩))) w:=bR (i:=2) Tryz.underlying54 rfl ahD (by decide) _
theorem Fl(x:Addr)(w:aLW):(aB 22 (.pointer (some x))).run pg w=ldC (w.cell? x) w (far pg 22 x w):=Nz Tryz.underlying22 rfl x w
theorem Rb:(pg).info? 3=some Tryz.t3:=by kernel_rfl
theorem nQ(b o:Nat)(w:aLW):(aD 54 (.pointer (some ⟨b,o,none⟩)) 7).run pg w= .ok (.value (.pointer (some ⟨b,o+7,none⟩))) w:=bR (i:=7) Tryz.underlying54 rfl Rb (by decide) _
theorem uU(x:Addr)(w:aLW):(aB 3 (.pointer (some x))).run pg w=ldC (w.cell? x) w (far pg 3 x w):=Nz Tryz.underlying3 rfl x w
theorem Me{b off:Nat}{l:List aLX}{w:aLW}(hl:l.length=8)(h:∀j,j<l.length->w.cell? ⟨b,off+j,none⟩=l[j]?):(aB 54 (.pointer (some ⟨b,off,none⟩))).run pg w= .ok (.value (.agg l.toArray)) w:=Xa Tryz.underlying54 rfl aDb hl.symm h
theorem Md{b off:Nat}{cs:List aLX}{w:aLW}(ho:bD w b cs)(h:off+8<=cs.length):(aB 54 (.pointer (some ⟨b,off,none⟩))).run pg w= .ok (.value (.agg ((cs.drop off).take 8).toArray)) w:=pB Tryz.underlying54 rfl aDb ho h
theorem Ma:(pg).info? 5=some Tryz.t5:=by kernel_rfl
theorem kP{n:Nat}{ps:List (Nat×aLX)}{cells:Array aLX}{w:aLW}(h1:¬n*1>2^24)(h0:¬n*1=0)(hf:Go.Instr.fill (λj=>some (j*1,1)) ((Array.range (n*1)).map ((Tryz.t5.zero.get!).cells[·%(Tryz.t5.zero.get!).cells.size]!)) ps=some cells){K:aLX->aLW->Prop}(hk:∀w',bD w' w.heap.size cells.toList->aL w w' aT->w'.heap.size=w.heap.size+1->K (.slice (some ⟨w.heap.size,0,none⟩) n n) w'):aA pg (bB 22 n ps) w K:=pW (i:=Tryz.t5) Tryz.underlying22 Ma rfl h1 h0 hf hk
theorem apP{b off n c:Nat}{cs:List aLX}{w:aLW}(ho:bD w b cs){K:aLX->aLW->Prop}(hk:∀w',bD w' b cs->aL w w' (λy=>y=b)->w'.heap.size=w.heap.size->K (.slice (some ⟨b,off,none⟩) n c) w'):aA pg (cJ 22 22 (.slice (some ⟨b,off,none⟩) n c)) w K:=aFU Tryz.underlying22 Tryz.underlying5 ho hk
theorem Bq{ox oy:Operand}(x:Option Addr)(w:aLW):(aE .eql 43 ox oy (.pointer x) (.pointer none)).run pg w= .ok (.value (.bool x.isNone)) w:=Zv Tryz.underlying43 x
theorem eK{l:List UInt8}{v:aLX}{w:aLW}(h:Bs w v l):(cJ 22 9 v).run pg w= .ok (.value (.string ⟨l.toArray⟩)) w:=aDP Tryz.underlying22 Tryz.underlying9 Tryz.underlying5 h
theorem Nq{ty:TypeId}(x:Option Addr)(n c:Nat)(w:aLW):(eI .len #[45] ty [.slice x n c]).run pg w= .ok (.value (.int .i64 n)) w:=IF Tryz.underlying45 x n c
theorem TN{b off:Nat}{cs:List aLX}{w:aLW}(ho:bD w b cs)(h:off+3<=cs.length){K:aLX->Prop}(hk:K (.agg ((cs.drop off).take 3).toArray)):kD pg 30 (.pointer (some ⟨b,off,none⟩)) w K:=EL Tryz.underlying30 rfl atD ho h hk
theorem jA{k:IntKind}(a:Int)(w:aLW):(cJ 3 26 (.int k a)).run pg w= .ok (.value (.int .u64 (IntKind.u64.wrap a))) w:=D7 Tryz.underlying3 Tryz.underlying26
theorem jM(w:aLW):(bV 30 []).run pg w= .ok (.value (.agg #[(.int .u64 0),(.int .u32 0),(.slice none 0 0)])) w:=by kernel_rfl
theorem ED{k:IntKind}(a:Int)(w:aLW):(cJ 3 27 (.int k a)).run pg w= .ok (.value (.int .u32 (IntKind.u32.wrap a))) w:=D7 Tryz.underlying3 Tryz.underlying27
theorem lV(n0:Int)(n1:Int)(w:aLW):(bV 30 [(0,(.int .u64 n0)),(1,(.int .u32 n1))]).run pg w= .ok (.value (.agg #[(.int .u64 n0),(.int .u32 n1),(.slice none 0 0)])) w:=by kernel_rfl
theorem Wv:(pg).info? 26=some Tryz.t26:=by kernel_rfl
theorem iR(b o:Nat)(w:aLW):(aD 30 (.pointer (some ⟨b,o,none⟩)) 0).run pg w= .ok (.value (.pointer (some ⟨b,o,none⟩))) w:=bR (i:=0) Tryz.underlying30 rfl Wv (by decide) _
theorem BS(x:Addr)(w:aLW):(aB 26 (.pointer (some x))).run pg w=ldC (w.cell? x) w (far pg 26 x w):=Nz Tryz.underlying26 rfl x w
theorem aDa:(pg).info? 28=some Tryz.t28:=by kernel_rfl
theorem gT(b o:Nat)(w:aLW):(aD 30 (.pointer (some ⟨b,o,none⟩)) 2).run pg w= .ok (.value (.pointer (some ⟨b,o+2,none⟩))) w:=bR (i:=2) Tryz.underlying30 rfl aDa (by decide) _
theorem Ar(x:Addr)(w:aLW):(aB 28 (.pointer (some x))).run pg w=ldC (w.cell? x) w (far pg 28 x w):=Nz Tryz.underlying28 rfl x w
theorem rJ{k k':IntKind}{lo hi:Int}(a:Option Addr)(n c:Nat)(w:aLW)(h0:0<=lo)(h1:lo<=hi)(h2:hi<=c):(dG 22 (.slice a n c) (some (.int k lo)) (some (.int k' hi)) none).run pg w= .ok (.value (.slice (dD a c (lo.toNat) 1) (hi.toNat-lo.toNat) (c-lo.toNat))) w:=aqI Tryz.underlying22 Ma _ n c h0 h1 h2
theorem Ww:(pg).info? 70=some Tryz.t70:=by kernel_rfl
theorem alF{n:Nat}{ps:List (Nat×aLX)}{cells:Array aLX}{w:aLW}(h1:¬n*32>2^24)(h0:¬n*32=0)(hf:Go.Instr.fill (λj=>some (j*32,32)) ((Array.range (n*32)).map ((Tryz.t70.zero.get!).cells[·%(Tryz.t70.zero.get!).cells.size]!)) ps=some cells){K:aLX->aLW->Prop}(hk:∀w',bD w' w.heap.size cells.toList->aL w w' aT->w'.heap.size=w.heap.size+1->K (.slice (some ⟨w.heap.size,0,none⟩) n n) w'):aA pg (bB 28 n ps) w K:=pW (i:=Tryz.t70) Tryz.underlying28 Ww rfl h1 h0 hf hk
theorem Ap{base n m:Nat}{ty:TypeId}{w:aLW}{v x:aLX}{l news:List aLX}(h:kW w base 32 v n l)(hx:Cl w 32 x m news)(hone:∀y∈news,one y=true)(hb:base<=w.heap.size)(hbytes:(n+m)*32<=140737488355328){K:aLX->aLW->Prop}(hk:∀v' w',kW w' base 32 v' (n+m) (l++news)->aL w w' (λy=>base<=y)->K v' w'):aA pg (eI .append #[28,28] ty [v,x]) w K:=Jr (i:=Tryz.t70) Tryz.underlying28 Tryz.underlying28 Ww rfl rfl rfl h hx hone hb (by omega) hbytes (by decide) hk
theorem U0 {b off:Nat}{cs:List aLX}{w:aLW}{v:aLX}{K:aLX->aLW->Prop}(ho:bD w b cs)(hv:one v=true)(h:off<cs.length)(hk:∀w',bD w' b (cs.set off v)->aL w w' (λx=>x=b)->w'.heap.size=w.heap.size->K undef w'):aA pg (aF 28 (.pointer (some ⟨b,off,none⟩)) v) w K:=gH aDa rfl ho hv h hk
theorem Ut{w:aLW}{K:aLX->aLW->Prop}(hk:∀w',Mp w' w.heap.size (λs:ByteArray=>Value.string s) ([]:List (ByteArray×aLX))->aL w w' aT->w'.heap.size=w.heap.size+1->K (.map (some w.heap.size)) w'):aA pg (Z0 73 none) w K:=aCa _ hk
theorem wL(n0:Int)(m1:Option Nat)(m2:Option Nat)(n3:Int)(w:aLW):(bV 76 [(0,(.int .i64 n0)),(1,(.map m1)),(2,(.map m2)),(4,(.int .i64 n3))]).run pg w= .ok (.value (.agg #[(.int .i64 n0),(.map m1),(.map m2),(.slice none 0 0),(.int .i64 n3),(.bool false)])) w:=by kernel_rfl
theorem dV{b off:Nat}{cs:List aLX}{w:aLW}(ho:bD w b cs)(h:off+5<=cs.length){K:aLX->Prop}(hk:K (.agg ((cs.drop off).take 5).toArray)):kD pg 40 (.pointer (some ⟨b,off,none⟩)) w K:=EL Tryz.underlying40 rfl atF ho h hk
theorem uO(w:aLW):(bV 40 []).run pg w= .ok (.value (.agg #[(.int .i64 0),(.slice none 0 0),(.slice none 0 0),(.int .i64 0),(.bool false)])) w:=by kernel_rfl
theorem pI(n0:Int)(n1:Int)(w:aLW):(bV 40 [(0,(.int .i64 n0)),(3,(.int .i64 n1))]).run pg w= .ok (.value (.agg #[(.int .i64 n0),(.slice none 0 0),(.slice none 0 0),(.int .i64 n1),(.bool false)])) w:=by kernel_rfl
theorem eS{b off:Nat}{cs:List aLX}{w:aLW}(ho:bD w b cs)(h:off+16<=cs.length){K:aLX->Prop}(hk:K (.agg ((cs.drop off).take 16).toArray)):kD pg 49 (.pointer (some ⟨b,off,none⟩)) w K:=EL Tryz.underlying49 rfl aAs ho h hk
theorem aGb:(pg).info? 34=some Tryz.t34:=by kernel_rfl
theorem sV(b o:Nat)(w:aLW):(aD 49 (.pointer (some ⟨b,o,none⟩)) 0).run pg w= .ok (.value (.pointer (some ⟨b,o,none⟩))) w:=bR (i:=0) Tryz.underlying49 rfl aGb (by decide) _
theorem Ik(x:Addr)(w:aLW):(aB 34 (.pointer (some x))).run pg w=ldC (w.cell? x) w (far pg 34 x w):=Nz Tryz.underlying34 rfl x w
theorem sY(b o:Nat)(w:aLW):(aD 49 (.pointer (some ⟨b,o,none⟩)) 2).run pg w= .ok (.value (.pointer (some ⟨b,o+2,none⟩))) w:=bR (i:=2) Tryz.underlying49 rfl atF (by decide) _
theorem atH:(pg).info? 47=some Tryz.t47:=by kernel_rfl
theorem bP{w:aLW}{K:aLX->aLW->Prop}(hk:∀w',bD w' w.heap.size [(.string ⟨#[]⟩),(.int .u64 0),(.int .u32 0),(.slice none 0 0),(.int .u64 0),(.slice none 0 0),(.int .i64 0),(.bool false),(.int .i64 0)]->aL w w' aT->w'.heap.size=w.heap.size+1->K (.pointer (some ⟨w.heap.size,0,none⟩)) w'):aA pg (bE 47) w K:=iT (i:=Tryz.t47) atH rfl hk
theorem nK{b off:Nat}{cs:List aLX}{w:aLW}{xs:Array aLX}{K:aLX->aLW->Prop}(ho:bD w b cs)(hs:xs.size=9)(hv:∀x∈xs.toList,one x=true)(h:off+9<=cs.length)(hk:∀w',bD w' b (eF cs off xs.toList)->aL w w' (λx=>x=b)->w'.heap.size=w.heap.size->K undef w'):aA pg (aF 47 (.pointer (some ⟨b,off,none⟩)) (.agg xs)) w K:=kA (v:= .agg xs) atH ho hs hv h hk
theorem YT{ox oy:Operand}(c d:Bool)(w:aLW):(aE .neq 4 ox oy (.bool c) (.bool d)).run pg w= .ok (.value (.bool (!(c==d)))) w:=aG0 c d Tryz.underlying4
theorem aGe:(pg).info? 43=some Tryz.t43:=by kernel_rfl
theorem sX(b o:Nat)(w:aLW):(aD 49 (.pointer (some ⟨b,o,none⟩)) 1).run pg w= .ok (.value (.pointer (some ⟨b,o+1,none⟩))) w:=bR (i:=1) Tryz.underlying49 rfl aGe (by decide) _
theorem Z2 {b off:Nat}{cs:List aLX}{w:aLW}{v:aLX}{K:aLX->aLW->Prop}(ho:bD w b cs)(hv:one v=true)(h:off<cs.length)(hk:∀w',bD w' b (cs.set off v)->aL w w' (λx=>x=b)->w'.heap.size=w.heap.size->K undef w'):aA pg (aF 43 (.pointer (some ⟨b,off,none⟩)) v) w K:=gH aGe rfl ho hv h hk
theorem uY{b off:Nat}{cs:List aLX}{w:aLW}(ho:bD w b cs)(h:off+9<=cs.length):(aB 47 (.pointer (some ⟨b,off,none⟩))).run pg w= .ok (.value (.agg ((cs.drop off).take 9).toArray)) w:=pB Tryz.underlying47 rfl atH ho h
theorem sW(b o:Nat)(w:aLW):(aD 49 (.pointer (some ⟨b,o,none⟩)) 3).run pg w= .ok (.value (.pointer (some ⟨b,o+7,none⟩))) w:=bR (i:=3) Tryz.underlying49 rfl atH (by decide) _
theorem G0 {ty:TypeId}(x:Option Addr)(n c:Nat)(w:aLW):(eI .len #[80] ty [.slice x n c]).run pg w= .ok (.value (.int .i64 n)) w:=IF Tryz.underlying80 x n c
theorem rE{ty:TypeId}(x:Option Addr)(n c:Nat)(w:aLW):(eI .len #[37] ty [.slice x n c]).run pg w= .ok (.value (.int .i64 n)) w:=IF Tryz.underlying37 x n c
theorem aGd:(pg).info? 38=some Tryz.t38:=by kernel_rfl
theorem pN(b o:Nat)(w:aLW):(aD 40 (.pointer (some ⟨b,o,none⟩)) 2).run pg w= .ok (.value (.pointer (some ⟨b,o+2,none⟩))) w:=bR (i:=2) Tryz.underlying40 rfl aGd (by decide) _
theorem rB(x:Addr)(w:aLW):(aB 38 (.pointer (some x))).run pg w=ldC (w.cell? x) w (far pg 38 x w):=Nz Tryz.underlying38 rfl x w
theorem rF{ty:TypeId}(x:Option Addr)(n c:Nat)(w:aLW):(eI .len #[38] ty [.slice x n c]).run pg w= .ok (.value (.int .i64 n)) w:=IF Tryz.underlying38 x n c
theorem ahE:(pg).info? 4=some Tryz.t4:=by kernel_rfl
theorem cU(b o:Nat)(w:aLW):(aD 40 (.pointer (some ⟨b,o,none⟩)) 4).run pg w= .ok (.value (.pointer (some ⟨b,o+4,none⟩))) w:=bR (i:=4) Tryz.underlying40 rfl ahE (by decide) _
theorem AO(x:Addr)(w:aLW):(aB 4 (.pointer (some x))).run pg w=ldC (w.cell? x) w (far pg 4 x w):=Nz Tryz.underlying4 rfl x w
theorem Wx:(pg).info? 9=some Tryz.t9:=by kernel_rfl
theorem CD{k:IntKind}{a:Int}(b o n c:Nat)(w:aLW)(h0:0<=a)(h1:a<n):(aR 80 (.slice (some ⟨b,o,none⟩) n c) (.int k a)).run pg w= .ok (.value (.pointer (some ⟨b,o+a.toNat,none⟩))) w:=Tk rfl Tryz.underlying80 Wx b o n c h0 h1
theorem kZ(x:Addr)(w:aLW):(aB 9 (.pointer (some x))).run pg w=ldC (w.cell? x) w (far pg 9 x w):=Nz Tryz.underlying9 rfl x w
theorem ahF:(pg).info? 85=some Tryz.t85:=by kernel_rfl
theorem iS{k:IntKind}{a:Int}(b o n c:Nat)(w:aLW)(h0:0<=a)(h1:a<n):(aR 37 (.slice (some ⟨b,o,none⟩) n c) (.int k a)).run pg w= .ok (.value (.pointer (some ⟨b,o+a.toNat*2,none⟩))) w:=D8 rfl Tryz.underlying37 ahF b o n c h0 h1
theorem nW(b o:Nat)(w:aLW):(aD 85 (.pointer (some ⟨b,o,none⟩)) 0).run pg w= .ok (.value (.pointer (some ⟨b,o,none⟩))) w:=bR (i:=0) Tryz.underlying85 rfl Wx (by decide) _
theorem gE(b o:Nat)(w:aLW):(aD 85 (.pointer (some ⟨b,o,none⟩)) 1).run pg w= .ok (.value (.pointer (some ⟨b,o+1,none⟩))) w:=bR (i:=1) Tryz.underlying85 rfl Wx (by decide) _
theorem DZ(x:Addr)(w:aLW):(aB 43 (.pointer (some x))).run pg w=ldC (w.cell? x) w (far pg 43 x w):=Nz Tryz.underlying43 rfl x w
theorem aAr:(pg).info? 45=some Tryz.t45:=by kernel_rfl
theorem nY(b o:Nat)(w:aLW):(aD 47 (.pointer (some ⟨b,o,none⟩)) 3).run pg w= .ok (.value (.pointer (some ⟨b,o+5,none⟩))) w:=bR (i:=3) Tryz.underlying47 rfl aAr (by decide) _
theorem Vp(x:Addr)(w:aLW):(aB 45 (.pointer (some x))).run pg w=ldC (w.cell? x) w (far pg 45 x w):=Nz Tryz.underlying45 rfl x w
theorem mW(b o:Nat)(w:aLW):(aD 47 (.pointer (some ⟨b,o,none⟩)) 2).run pg w= .ok (.value (.pointer (some ⟨b,o+4,none⟩))) w:=bR (i:=2) Tryz.underlying47 rfl Wv (by decide) _
theorem nX(b o:Nat)(w:aLW):(aD 47 (.pointer (some ⟨b,o,none⟩)) 5).run pg w= .ok (.value (.pointer (some ⟨b,o+7,none⟩))) w:=bR (i:=5) Tryz.underlying47 rfl ahE (by decide) _
theorem atE:(pg).info? 31=some Tryz.t31:=by kernel_rfl
theorem tA(b o:Nat)(w:aLW):(aD 47 (.pointer (some ⟨b,o,none⟩)) 6).run pg w= .ok (.value (.pointer (some ⟨b,o+8,none⟩))) w:=bR (i:=6) Tryz.underlying47 rfl atE (by decide) _
theorem GZ(x:Addr)(w:aLW):(aB 31 (.pointer (some x))).run pg w=ldC (w.cell? x) w (far pg 31 x w):=Nz Tryz.underlying31 rfl x w
theorem H7 {k:IntKind}{a:Int}(b o n c:Nat)(w:aLW)(h0:0<=a)(h1:a<n):(aR 45 (.slice (some ⟨b,o,none⟩) n c) (.int k a)).run pg w= .ok (.value (.pointer (some ⟨b,o+a.toNat,none⟩))) w:=Tk rfl Tryz.underlying45 ahE b o n c h0 h1
theorem lY(b o:Nat)(w:aLW):(aD 54 (.pointer (some ⟨b,o,none⟩)) 0).run pg w= .ok (.value (.pointer (some ⟨b,o,none⟩))) w:=bR (i:=0) Tryz.underlying54 rfl Rb (by decide) _
theorem Ra:(pg).info? 27=some Tryz.t27:=by kernel_rfl
theorem qT(b o:Nat)(w:aLW):(aD 30 (.pointer (some ⟨b,o,none⟩)) 1).run pg w= .ok (.value (.pointer (some ⟨b,o+1,none⟩))) w:=bR (i:=1) Tryz.underlying30 rfl Ra (by decide) _
theorem iA(x:Addr)(w:aLW):(aB 27 (.pointer (some x))).run pg w=ldC (w.cell? x) w (far pg 27 x w):=Nz Tryz.underlying27 rfl x w
theorem KE{k:IntKind}(a:Int)(w:aLW):(cJ 27 3 (.int k a)).run pg w= .ok (.value (.int .i64 (IntKind.i64.wrap a))) w:=D7 Tryz.underlying27 Tryz.underlying3
theorem mA(b o:Nat)(w:aLW):(aD 54 (.pointer (some ⟨b,o,none⟩)) 1).run pg w= .ok (.value (.pointer (some ⟨b,o+1,none⟩))) w:=bR (i:=1) Tryz.underlying54 rfl Rb (by decide) _
theorem mB(b o:Nat)(w:aLW):(aD 54 (.pointer (some ⟨b,o,none⟩)) 5).run pg w= .ok (.value (.pointer (some ⟨b,o+5,none⟩))) w:=bR (i:=5) Tryz.underlying54 rfl Rb (by decide) _
theorem nT(b o:Nat)(w:aLW):(aD 40 (.pointer (some ⟨b,o,none⟩)) 3).run pg w= .ok (.value (.pointer (some ⟨b,o+3,none⟩))) w:=bR (i:=3) Tryz.underlying40 rfl Rb (by decide) _
theorem Db{b off:Nat}{cs:List aLX}{w:aLW}{v:aLX}{K:aLX->aLW->Prop}(ho:bD w b cs)(hv:one v=true)(h:off<cs.length)(hk:∀w',bD w' b (cs.set off v)->aL w w' (λx=>x=b)->w'.heap.size=w.heap.size->K undef w'):aA pg (aF 3 (.pointer (some ⟨b,off,none⟩)) v) w K:=gH Rb rfl ho hv h hk
theorem lX(b o:Nat)(w:aLW):(aD 54 (.pointer (some ⟨b,o,none⟩)) 4).run pg w= .ok (.value (.pointer (some ⟨b,o+4,none⟩))) w:=bR (i:=4) Tryz.underlying54 rfl aAr (by decide) _
theorem lZ(b o:Nat)(w:aLW):(aD 54 (.pointer (some ⟨b,o,none⟩)) 6).run pg w= .ok (.value (.pointer (some ⟨b,o+6,none⟩))) w:=bR (i:=6) Tryz.underlying54 rfl Ma (by decide) _
theorem As(x:Addr)(w:aLW):(aB 5 (.pointer (some x))).run pg w=ldC (w.cell? x) w (far pg 5 x w):=Nz Tryz.underlying5 rfl x w
theorem mS(s0:ByteArray)(n1:Int)(s2:ByteArray)(w:aLW):(bV 96 [(1,(.string s0)),(3,(.int .i64 n1)),(4,(.string s2))]).run pg w= .ok (.value (.agg #[(.int .i64 0),(.string s0),(.string ⟨#[]⟩),(.int .i64 n1),(.string s2)])) w:=by kernel_rfl
theorem D5 {ox oy:Operand}(x:Option Addr)(w:aLW):(aE .eql 34 ox oy (.pointer x) (.pointer none)).run pg w= .ok (.value (.bool x.isNone)) w:=Zv Tryz.underlying34 x
theorem mM{ty:TypeId}(x:ByteArray)(w:aLW):(eI .len #[9] ty [.string x]).run pg w= .ok (.value (.int .i64 x.size)) w:=aG4 Tryz.underlying9 x
theorem KV{ty:TypeId}(x:Option Addr)(n c:Nat)(w:aLW):(eI .len #[28] ty [.slice x n c]).run pg w= .ok (.value (.int .i64 n)) w:=IF Tryz.underlying28 x n c
theorem wN(p0:Option Addr)(s1:ByteArray)(aIB aIC aID:aLX)(w:aLW):(bV 99 [(0,(.pointer p0)),(1,(.string s1)),(2,(.agg #[aIB,aIC,aID]))]).run pg w= .ok (.value (.agg #[(.pointer p0),(.string s1),aIB,aIC,aID,(.int .u64 0),(.slice none 0 0),(.int .i64 0),(.bool false),(.int .i64 0)])) w:=by kernel_rfl
theorem zR(b o:Nat)(w:aLW):(aD 99 (.pointer (some ⟨b,o,none⟩)) 4).run pg w= .ok (.value (.pointer (some ⟨b,o+6,none⟩))) w:=bR (i:=4) Tryz.underlying99 rfl aAr (by decide) _
theorem Et{b off:Nat}{cs:List aLX}{w:aLW}{v:aLX}{K:aLX->aLW->Prop}(ho:bD w b cs)(hv:one v=true)(h:off<cs.length)(hk:∀w',bD w' b (cs.set off v)->aL w w' (λx=>x=b)->w'.heap.size=w.heap.size->K undef w'):aA pg (aF 45 (.pointer (some ⟨b,off,none⟩)) v) w K:=gH aAr rfl ho hv h hk
theorem zQ(b o:Nat)(w:aLW):(aD 99 (.pointer (some ⟨b,o,none⟩)) 6).run pg w= .ok (.value (.pointer (some ⟨b,o+8,none⟩))) w:=bR (i:=6) Tryz.underlying99 rfl ahE (by decide) _
theorem tP{b off:Nat}{cs:List aLX}{w:aLW}{v:aLX}{K:aLX->aLW->Prop}(ho:bD w b cs)(hv:one v=true)(h:off<cs.length)(hk:∀w',bD w' b (cs.set off v)->aL w w' (λx=>x=b)->w'.heap.size=w.heap.size->K undef w'):aA pg (aF 4 (.pointer (some ⟨b,off,none⟩)) v) w K:=gH ahE rfl ho hv h hk
theorem ahS{k:IntKind}{n:Int}{w:aLW}{K:aLX->aLW->Prop}(h0:0<=n)(hn:1*n<=2^48)(hk:∀w',bD w' w.heap.size (List.replicate n.toNat (.bool false))->aL w w' aT->w'.heap.size=w.heap.size+1->K (.slice (some ⟨w.heap.size,0,none⟩) n.toNat n.toNat) w'):aA pg (xP 45 (.int k n) (.int k n)) w K:=awG (i:=Tryz.t4) Tryz.underlying45 ahE rfl rfl rfl h0 hn (by omega) hk
theorem zZ{ty:TypeId}(x:Option Addr)(n c:Nat)(w:aLW):(eI .len #[104] ty [.slice x n c]).run pg w= .ok (.value (.int .i64 n)) w:=IF Tryz.underlying104 x n c
theorem Vn:(pg).info? 109=some Tryz.t109:=by kernel_rfl
theorem zT{k:IntKind}{a:Int}(b o n c:Nat)(w:aLW)(h0:0<=a)(h1:a<n):(aR 104 (.slice (some ⟨b,o,none⟩) n c) (.int k a)).run pg w= .ok (.value (.pointer (some ⟨b,o+a.toNat*2,none⟩))) w:=D8 rfl Tryz.underlying104 Vn b o n c h0 h1
theorem WD{b off:Nat}{l:List aLX}{w:aLW}(hl:l.length=2)(h:∀j,j<l.length->w.cell? ⟨b,off+j,none⟩=l[j]?):(aB 109 (.pointer (some ⟨b,off,none⟩))).run pg w= .ok (.value (.agg l.toArray)) w:=Xa Tryz.underlying109 rfl Vn hl.symm h
theorem vR{b off:Nat}{cs:List aLX}{w:aLW}(ho:bD w b cs)(h:off+2<=cs.length):(aB 109 (.pointer (some ⟨b,off,none⟩))).run pg w= .ok (.value (.agg ((cs.drop off).take 2).toArray)) w:=pB Tryz.underlying109 rfl Vn ho h
theorem DK{w:aLW}{K:aLX->aLW->Prop}(hk:∀w',bD w' w.heap.size [(.int .u8 0),(.int .u64 0)]->aL w w' aT->w'.heap.size=w.heap.size+1->K (.pointer (some ⟨w.heap.size,0,none⟩)) w'):aA pg (bE 109) w K:=iT (i:=Tryz.t109) Vn rfl hk
theorem De{b off:Nat}{cs:List aLX}{w:aLW}{xs:Array aLX}{K:aLX->aLW->Prop}(ho:bD w b cs)(hs:xs.size=2)(hv:∀x∈xs.toList,one x=true)(h:off+2<=cs.length)(hk:∀w',bD w' b (eF cs off xs.toList)->aL w w' (λx=>x=b)->w'.heap.size=w.heap.size->K undef w'):aA pg (aF 109 (.pointer (some ⟨b,off,none⟩)) (.agg xs)) w K:=kA (v:= .agg xs) Vn ho hs hv h hk
theorem uR(b o:Nat)(w:aLW):(aD 109 (.pointer (some ⟨b,o,none⟩)) 0).run pg w= .ok (.value (.pointer (some ⟨b,o,none⟩))) w:=bR (i:=0) Tryz.underlying109 rfl Ma (by decide) _
theorem sU(b o:Nat)(w:aLW):(aD 109 (.pointer (some ⟨b,o,none⟩)) 1).run pg w= .ok (.value (.pointer (some ⟨b,o+1,none⟩))) w:=bR (i:=1) Tryz.underlying109 rfl Wv (by decide) _
theorem DX(b o:Nat)(w:aLW):(aD 99 (.pointer (some ⟨b,o,none⟩)) 2).run pg w= .ok (.value (.pointer (some ⟨b,o+2,none⟩))) w:=bR (i:=2) Tryz.underlying99 rfl atD (by decide) _
theorem amW{w:aLW}{K:aLX->aLW->Prop}(hk:∀w',bD w' w.heap.size [(.int .u64 0)]->aL w w' aT->w'.heap.size=w.heap.size+1->K (.pointer (some ⟨w.heap.size,0,none⟩)) w'):aA pg (bE 26) w K:=iT (i:=Tryz.t26) Wv rfl hk
theorem MM{b off:Nat}{cs:List aLX}{w:aLW}{v:aLX}{K:aLX->aLW->Prop}(ho:bD w b cs)(hv:one v=true)(h:off<cs.length)(hk:∀w',bD w' b (cs.set off v)->aL w w' (λx=>x=b)->w'.heap.size=w.heap.size->K undef w'):aA pg (aF 26 (.pointer (some ⟨b,off,none⟩)) v) w K:=gH Wv rfl ho hv h hk
theorem DV(b o:Nat)(w:aLW):(aD 99 (.pointer (some ⟨b,o,none⟩)) 0).run pg w= .ok (.value (.pointer (some ⟨b,o,none⟩))) w:=bR (i:=0) Tryz.underlying99 rfl aGb (by decide) _
theorem aGf:(pg).info? 60=some Tryz.t60:=by kernel_rfl
theorem Cr{n:Nat}{ps:List (Nat×aLX)}{cells:Array aLX}{w:aLW}(h1:¬n*1>2^24)(h0:¬n*1=0)(hf:Go.Instr.fill (λj=>some (j*1,1)) ((Array.range (n*1)).map ((Tryz.t60.zero.get!).cells[·%(Tryz.t60.zero.get!).cells.size]!)) ps=some cells){K:aLX->aLW->Prop}(hk:∀w',bD w' w.heap.size cells.toList->aL w w' aT->w'.heap.size=w.heap.size+1->K (.slice (some ⟨w.heap.size,0,none⟩) n n) w'):aA pg (bB 151 n ps) w K:=pW (i:=Tryz.t60) Tryz.underlying151 aGf rfl h1 h0 hf hk
theorem DW(b o:Nat)(w:aLW):(aD 99 (.pointer (some ⟨b,o,none⟩)) 7).run pg w= .ok (.value (.pointer (some ⟨b,o+9,none⟩))) w:=bR (i:=7) Tryz.underlying99 rfl atE (by decide) _
theorem tO{b off:Nat}{cs:List aLX}{w:aLW}{v:aLX}{K:aLX->aLW->Prop}(ho:bD w b cs)(hv:one v=true)(h:off<cs.length)(hk:∀w',bD w' b (cs.set off v)->aL w w' (λx=>x=b)->w'.heap.size=w.heap.size->K undef w'):aA pg (aF 31 (.pointer (some ⟨b,off,none⟩)) v) w K:=gH atE rfl ho hv h hk
theorem zS(b o:Nat)(w:aLW):(aD 99 (.pointer (some ⟨b,o,none⟩)) 1).run pg w= .ok (.value (.pointer (some ⟨b,o+1,none⟩))) w:=bR (i:=1) Tryz.underlying99 rfl Wx (by decide) _
theorem aDc:(pg).info? 73=some Tryz.t73:=by kernel_rfl
theorem CB(b o:Nat)(w:aLW):(aD 76 (.pointer (some ⟨b,o,none⟩)) 2).run pg w= .ok (.value (.pointer (some ⟨b,o+2,none⟩))) w:=bR (i:=2) Tryz.underlying76 rfl aDc (by decide) _
theorem KT(x:Addr)(w:aLW):(aB 73 (.pointer (some x))).run pg w=ldC (w.cell? x) w (far pg 73 x w):=Nz Tryz.underlying73 rfl x w
theorem EM{w:aLW}{m:Nat}{l:List (ByteArray×aLX)}(hm:Mp w m (λs:ByteArray=>Value.string s) l)(k:ByteArray):(CT 73 (.map (some m)) ((λs:ByteArray=>Value.string s) k) true).run pg w= .ok (.value (.tuple #[(OI k l).getD (.slice none 0 0),.bool (OI k l).isSome])) w:=aG5 Tryz.underlying73 ahD rfl (Te Tryz.underlying9) hm k
theorem ahN{w:aLW}{m:Nat}{l:List (ByteArray×aLX)}(hm:Mp w m (λs:ByteArray=>Value.string s) l)(k:ByteArray):(CT 73 (.map (some m)) ((λs:ByteArray=>Value.string s) k) false).run pg w= .ok (.value ((OI k l).getD (.slice none 0 0))) w:=aFF Tryz.underlying73 ahD rfl (Te Tryz.underlying9) hm k
theorem wT(b o:Nat)(w:aLW):(aD 99 (.pointer (some ⟨b,o,none⟩)) 3).run pg w= .ok (.value (.pointer (some ⟨b,o+5,none⟩))) w:=bR (i:=3) Tryz.underlying99 rfl Wv (by decide) _
theorem Br{ox oy:Operand}(x:Option Addr)(w:aLW):(aE .neq 43 ox oy (.pointer x) (.pointer none)).run pg w= .ok (.value (.bool (!x.isNone))) w:=aDU Tryz.underlying43 x
theorem mH{k:IntKind}(a:Int)(w:aLW):(cJ 26 3 (.int k a)).run pg w= .ok (.value (.int .i64 (IntKind.i64.wrap a))) w:=D7 Tryz.underlying26 Tryz.underlying3
theorem Fm{b off:Nat}{cs:List aLX}{w:aLW}(ho:bD w b cs)(h:off+32<=cs.length){K:aLX->Prop}(hk:K (.agg ((cs.drop off).take 32).toArray)):kD pg 70 (.pointer (some ⟨b,off,none⟩)) w K:=EL Tryz.underlying70 rfl Ww ho h hk
theorem A0 {w:aLW}{K:aLX->aLW->Prop}(hk:∀w',bD w' w.heap.size [(.int .u8 0),(.int .u8 0),(.int .u8 0),(.int .u8 0),(.int .u8 0),(.int .u8 0),(.int .u8 0),(.int .u8 0),(.int .u8 0),(.int .u8 0),(.int .u8 0),(.int .u8 0),(.int .u8 0),(.int .u8 0),(.int .u8 0),(.int .u8 0),(.int .u8 0),(.int .u8 0),(.int .u8 0),(.int .u8 0),(.int .u8 0),(.int .u8 0),(.int .u8 0),(.int .u8 0),(.int .u8 0),(.int .u8 0),(.int .u8 0),(.int .u8 0),(.int .u8 0),(.int .u8 0),(.int .u8 0),(.int .u8 0)]->aL w w' aT->w'.heap.size=w.heap.size+1->K (.pointer (some ⟨w.heap.size,0,none⟩)) w'):aA pg (bE 70) w K:=iT (i:=Tryz.t70) Ww rfl hk
theorem iQ{base n m:Nat}{ty:TypeId}{w:aLW}{v x:aLX}{l news:List aLX}(h:kW w base 1 v n l)(hx:Cl w 1 x m news)(hone:∀y∈news,one y=true)(hb:base<=w.heap.size)(hbytes:(n+m)*1<=140737488355328){K:aLX->aLW->Prop}(hk:∀v' w',kW w' base 1 v' (n+m) (l++news)->aL w w' (λy=>base<=y)->K v' w'):aA pg (eI .append #[22,22] ty [v,x]) w K:=Jr (i:=Tryz.t5) Tryz.underlying22 Tryz.underlying22 Ma rfl rfl rfl h hx hone hb (by omega) hbytes (by decide) hk
theorem FL{b off:Nat}{cs:List aLX}{w:aLW}{xs:Array aLX}{K:aLX->aLW->Prop}(ho:bD w b cs)(hs:xs.size=32)(hv:∀x∈xs.toList,one x=true)(h:off+32<=cs.length)(hk:∀w',bD w' b (eF cs off xs.toList)->aL w w' (λx=>x=b)->w'.heap.size=w.heap.size->K undef w'):aA pg (aF 70 (.pointer (some ⟨b,off,none⟩)) (.agg xs)) w K:=kA (v:= .agg xs) Ww ho hs hv h hk
theorem jU{b off:Nat}{cs:List aLX}{w:aLW}(ho:bD w b cs)(h:off+9<=cs.length){K:aLX->Prop}(hk:K (.agg ((cs.drop off).take 9).toArray)):kD pg 47 (.pointer (some ⟨b,off,none⟩)) w K:=EL Tryz.underlying47 rfl atH ho h hk
theorem uP(w:aLW):(bV 47 []).run pg w= .ok (.value (.agg #[(.string ⟨#[]⟩),(.int .u64 0),(.int .u32 0),(.slice none 0 0),(.int .u64 0),(.slice none 0 0),(.int .i64 0),(.bool false),(.int .i64 0)])) w:=by kernel_rfl
theorem nS(b o:Nat)(w:aLW):(aD 44 (.pointer (some ⟨b,o,none⟩)) 0).run pg w= .ok (.value (.pointer (some ⟨b,o,none⟩))) w:=bR (i:=0) Tryz.underlying44 rfl Wv (by decide) _
theorem nR(b o:Nat)(w:aLW):(aD 44 (.pointer (some ⟨b,o,none⟩)) 1).run pg w= .ok (.value (.pointer (some ⟨b,o+1,none⟩))) w:=bR (i:=1) Tryz.underlying44 rfl Ra (by decide) _
theorem mD(b o:Nat)(w:aLW):(aD 44 (.pointer (some ⟨b,o,none⟩)) 2).run pg w= .ok (.value (.pointer (some ⟨b,o+2,none⟩))) w:=bR (i:=2) Tryz.underlying44 rfl aDa (by decide) _
theorem atG:(pg).info? 44=some Tryz.t44:=by kernel_rfl
theorem iB{b off:Nat}{cs:List aLX}{w:aLW}(ho:bD w b cs)(h:off+3<=cs.length):(aB 44 (.pointer (some ⟨b,off,none⟩))).run pg w= .ok (.value (.agg ((cs.drop off).take 3).toArray)) w:=pB Tryz.underlying44 rfl atG ho h
theorem pM(s0:ByteArray)(aEG aEH aEI:aLX)(w:aLW):(bV 47 [(0,(.string s0)),(1,(.agg #[aEG,aEH,aEI]))]).run pg w= .ok (.value (.agg #[(.string s0),aEG,aEH,aEI,(.int .u64 0),(.slice none 0 0),(.int .i64 0),(.bool false),(.int .i64 0)])) w:=by kernel_rfl
theorem pO(b o:Nat)(w:aLW):(aD 47 (.pointer (some ⟨b,o,none⟩)) 4).run pg w= .ok (.value (.pointer (some ⟨b,o+6,none⟩))) w:=bR (i:=4) Tryz.underlying47 rfl Rb (by decide) _
theorem rG{ty:TypeId}(x:Option Addr)(n c:Nat)(w:aLW):(eI .len #[120] ty [.slice x n c]).run pg w= .ok (.value (.int .i64 n)) w:=IF Tryz.underlying120 x n c
theorem Zc:(pg).info? 123=some Tryz.t123:=by kernel_rfl
theorem qY{k:IntKind}{a:Int}(b o n c:Nat)(w:aLW)(h0:0<=a)(h1:a<n):(aR 120 (.slice (some ⟨b,o,none⟩) n c) (.int k a)).run pg w= .ok (.value (.pointer (some ⟨b,o+a.toNat*2,none⟩))) w:=D8 rfl Tryz.underlying120 Zc b o n c h0 h1
theorem fH(b o:Nat)(w:aLW):(aD 123 (.pointer (some ⟨b,o,none⟩)) 0).run pg w= .ok (.value (.pointer (some ⟨b,o,none⟩))) w:=bR (i:=0) Tryz.underlying123 rfl Ma (by decide) _
theorem fB(b o:Nat)(w:aLW):(aD 123 (.pointer (some ⟨b,o,none⟩)) 1).run pg w= .ok (.value (.pointer (some ⟨b,o+1,none⟩))) w:=bR (i:=1) Tryz.underlying123 rfl Wv (by decide) _
theorem pL(n0:Int)(n1:Int)(w:aLW):(bV 123 [(0,(.int .u8 n0)),(1,(.int .u64 n1))]).run pg w= .ok (.value (.agg #[(.int .u8 n0),(.int .u64 n1)])) w:=by kernel_rfl
theorem PX{b off:Nat}{cs:List aLX}{w:aLW}(ho:bD w b cs)(h:off+3<=cs.length){K:aLX->Prop}(hk:K (.agg ((cs.drop off).take 3).toArray)):kD pg 44 (.pointer (some ⟨b,off,none⟩)) w K:=EL Tryz.underlying44 rfl atG ho h hk
theorem Qu{w:aLW}{K:aLX->aLW->Prop}(hk:∀w',bD w' w.heap.size [(.int .u64 0),(.int .u32 0),(.slice none 0 0)]->aL w w' aT->w'.heap.size=w.heap.size+1->K (.pointer (some ⟨w.heap.size,0,none⟩)) w'):aA pg (bE 44) w K:=iT (i:=Tryz.t44) atG rfl hk
theorem mQ(n0:Int)(n1:Int)(a2:Option Addr)(l2 c2:Nat)(w:aLW):(bV 44 [(0,(.int .u64 n0)),(1,(.int .u32 n1)),(2,(.slice a2 l2 c2))]).run pg w= .ok (.value (.agg #[(.int .u64 n0),(.int .u32 n1),(.slice a2 l2 c2)])) w:=by kernel_rfl
theorem Qj{b off:Nat}{cs:List aLX}{w:aLW}{xs:Array aLX}{K:aLX->aLW->Prop}(ho:bD w b cs)(hs:xs.size=3)(hv:∀x∈xs.toList,one x=true)(h:off+3<=cs.length)(hk:∀w',bD w' b (eF cs off xs.toList)->aL w w' (λx=>x=b)->w'.heap.size=w.heap.size->K undef w'):aA pg (aF 44 (.pointer (some ⟨b,off,none⟩)) (.agg xs)) w K:=kA (v:= .agg xs) atG ho hs hv h hk
theorem aGc:(pg).info? 37=some Tryz.t37:=by kernel_rfl
theorem nV(b o:Nat)(w:aLW):(aD 40 (.pointer (some ⟨b,o,none⟩)) 1).run pg w= .ok (.value (.pointer (some ⟨b,o+1,none⟩))) w:=bR (i:=1) Tryz.underlying40 rfl aGc (by decide) _
theorem rA(x:Addr)(w:aLW):(aB 37 (.pointer (some x))).run pg w=ldC (w.cell? x) w (far pg 37 x w):=Nz Tryz.underlying37 rfl x w
theorem atJ:(pg).info? 96=some Tryz.t96:=by kernel_rfl
theorem qX{k:IntKind}{a:Int}(b o n c:Nat)(w:aLW)(h0:0<=a)(h1:a<n):(aR 38 (.slice (some ⟨b,o,none⟩) n c) (.int k a)).run pg w= .ok (.value (.pointer (some ⟨b,o+a.toNat*5,none⟩))) w:=D8 rfl Tryz.underlying38 atJ b o n c h0 h1
theorem PW{b off:Nat}{l:List aLX}{w:aLW}(hl:l.length=5)(h:∀j,j<l.length->w.cell? ⟨b,off+j,none⟩=l[j]?):(aB 96 (.pointer (some ⟨b,off,none⟩))).run pg w= .ok (.value (.agg l.toArray)) w:=Xa Tryz.underlying96 rfl atJ hl.symm h
theorem uW{b off:Nat}{cs:List aLX}{w:aLW}(ho:bD w b cs)(h:off+5<=cs.length):(aB 96 (.pointer (some ⟨b,off,none⟩))).run pg w= .ok (.value (.agg ((cs.drop off).take 5).toArray)) w:=pB Tryz.underlying96 rfl atJ ho h
theorem aGg:(pg).info? 74=some Tryz.t74:=by kernel_rfl
theorem Bl(b o:Nat)(w:aLW):(aD 76 (.pointer (some ⟨b,o,none⟩)) 3).run pg w= .ok (.value (.pointer (some ⟨b,o+3,none⟩))) w:=bR (i:=3) Tryz.underlying76 rfl aGg (by decide) _
theorem wZ(x:Addr)(w:aLW):(aB 74 (.pointer (some x))).run pg w=ldC (w.cell? x) w (far pg 74 x w):=Nz Tryz.underlying74 rfl x w
theorem xA{ty:TypeId}(x:Option Addr)(n c:Nat)(w:aLW):(eI .len #[74] ty [.slice x n c]).run pg w= .ok (.value (.int .i64 n)) w:=IF Tryz.underlying74 x n c
theorem mU(b o:Nat)(w:aLW):(aD 54 (.pointer (some ⟨b,o,none⟩)) 3).run pg w= .ok (.value (.pointer (some ⟨b,o+3,none⟩))) w:=bR (i:=3) Tryz.underlying54 rfl ahE (by decide) _
theorem tB(b o:Nat)(w:aLW):(aD 47 (.pointer (some ⟨b,o,none⟩)) 1).run pg w= .ok (.value (.pointer (some ⟨b,o+1,none⟩))) w:=bR (i:=1) Tryz.underlying47 rfl atG (by decide) _
theorem nZ(b o:Nat)(w:aLW):(aD 47 (.pointer (some ⟨b,o,none⟩)) 0).run pg w= .ok (.value (.pointer (some ⟨b,o,none⟩))) w:=bR (i:=0) Tryz.underlying47 rfl Wx (by decide) _
theorem A5 {base n m:Nat}{ty:TypeId}{w:aLW}{v x:aLX}{l news:List aLX}(h:kW w base 1 v n l)(hx:Cl w 1 x m news)(hone:∀y∈news,one y=true)(hb:base<=w.heap.size)(hbytes:(n+m)*1<=140737488355328){K:aLX->aLW->Prop}(hk:∀v' w',kW w' base 1 v' (n+m) (l++news)->aL w w' (λy=>base<=y)->K v' w'):aA pg (eI .append #[45,45] ty [v,x]) w K:=Jr (i:=Tryz.t4) Tryz.underlying45 Tryz.underlying45 ahE rfl rfl rfl h hx hone hb (by omega) hbytes (by decide) hk
theorem mR(n0:Int)(s1:ByteArray)(s2:ByteArray)(w:aLW):(bV 96 [(0,(.int .i64 n0)),(1,(.string s1)),(2,(.string s2))]).run pg w= .ok (.value (.agg #[(.int .i64 n0),(.string s1),(.string s2),(.int .i64 0),(.string ⟨#[]⟩)])) w:=by kernel_rfl
theorem D6 {ox oy:Operand}(x:Option Addr)(w:aLW):(aE .neq 34 ox oy (.pointer x) (.pointer none)).run pg w= .ok (.value (.bool (!x.isNone))) w:=aDU Tryz.underlying34 x
theorem Cz(b o:Nat)(w:aLW):(aD 76 (.pointer (some ⟨b,o,none⟩)) 4).run pg w= .ok (.value (.pointer (some ⟨b,o+4,none⟩))) w:=bR (i:=4) Tryz.underlying76 rfl Rb (by decide) _
theorem Zd:(pg).info? 137=some Tryz.t137:=by kernel_rfl
theorem wW{k:IntKind}{a:Int}(b o n c:Nat)(w:aLW)(h0:0<=a)(h1:a<n):(aR 74 (.slice (some ⟨b,o,none⟩) n c) (.int k a)).run pg w= .ok (.value (.pointer (some ⟨b,o+a.toNat*5,none⟩))) w:=D8 rfl Tryz.underlying74 Zd b o n c h0 h1
theorem mY{b off:Nat}{cs:List aLX}{w:aLW}(ho:bD w b cs)(h:off+5<=cs.length):(aB 137 (.pointer (some ⟨b,off,none⟩))).run pg w= .ok (.value (.agg ((cs.drop off).take 5).toArray)) w:=pB Tryz.underlying137 rfl Zd ho h
theorem V6 {w:aLW}{K:aLX->aLW->Prop}(hk:∀w',bD w' w.heap.size [(.int .i64 0),(.string ⟨#[]⟩),(.string ⟨#[]⟩),(.int .i64 0),(.slice none 0 0)]->aL w w' aT->w'.heap.size=w.heap.size+1->K (.pointer (some ⟨w.heap.size,0,none⟩)) w'):aA pg (bE 137) w K:=iT (i:=Tryz.t137) Zd rfl hk
theorem VT{b off:Nat}{cs:List aLX}{w:aLW}{xs:Array aLX}{K:aLX->aLW->Prop}(ho:bD w b cs)(hs:xs.size=5)(hv:∀x∈xs.toList,one x=true)(h:off+5<=cs.length)(hk:∀w',bD w' b (eF cs off xs.toList)->aL w w' (λx=>x=b)->w'.heap.size=w.heap.size->K undef w'):aA pg (aF 137 (.pointer (some ⟨b,off,none⟩)) (.agg xs)) w K:=kA (v:= .agg xs) Zd ho hs hv h hk
theorem CC(b o:Nat)(w:aLW):(aD 76 (.pointer (some ⟨b,o,none⟩)) 1).run pg w= .ok (.value (.pointer (some ⟨b,o+1,none⟩))) w:=bR (i:=1) Tryz.underlying76 rfl aDc (by decide) _
theorem UZ{b off:Nat}{cs:List aLX}{w:aLW}{v:aLX}{K:aLX->aLW->Prop}(ho:bD w b cs)(hv:one v=true)(h:off<cs.length)(hk:∀w',bD w' b (cs.set off v)->aL w w' (λx=>x=b)->w'.heap.size=w.heap.size->K undef w'):aA pg (aF 73 (.pointer (some ⟨b,off,none⟩)) v) w K:=gH aDc rfl ho hv h hk
theorem yE{b off:Nat}{cs:List aLX}{w:aLW}{v:aLX}{K:aLX->aLW->Prop}(ho:bD w b cs)(hv:one v=true)(h:off<cs.length)(hk:∀w',bD w' b (cs.set off v)->aL w w' (λx=>x=b)->w'.heap.size=w.heap.size->K undef w'):aA pg (aF 74 (.pointer (some ⟨b,off,none⟩)) v) w K:=gH aGg rfl ho hv h hk
theorem Cy(b o:Nat)(w:aLW):(aD 76 (.pointer (some ⟨b,o,none⟩)) 5).run pg w= .ok (.value (.pointer (some ⟨b,o+5,none⟩))) w:=bR (i:=5) Tryz.underlying76 rfl ahE (by decide) _
theorem BY{b off:Nat}{cs:List aLX}{w:aLW}{v:aLX}{K:aLX->aLW->Prop}(ho:bD w b cs)(hv:one v=true)(h:off<cs.length)(hk:∀w',bD w' b (cs.set off v)->aL w w' (λx=>x=b)->w'.heap.size=w.heap.size->K undef w'):aA pg (aF 37 (.pointer (some ⟨b,off,none⟩)) v) w K:=gH aGc rfl ho hv h hk
theorem rM{b off:Nat}{cs:List aLX}{w:aLW}{v:aLX}{K:aLX->aLW->Prop}(ho:bD w b cs)(hv:one v=true)(h:off<cs.length)(hk:∀w',bD w' b (cs.set off v)->aL w w' (λx=>x=b)->w'.heap.size=w.heap.size->K undef w'):aA pg (aF 38 (.pointer (some ⟨b,off,none⟩)) v) w K:=gH aGd rfl ho hv h hk
theorem CA(b o:Nat)(w:aLW):(aD 76 (.pointer (some ⟨b,o,none⟩)) 0).run pg w= .ok (.value (.pointer (some ⟨b,o,none⟩))) w:=bR (i:=0) Tryz.underlying76 rfl Rb (by decide) _
theorem nO(n0:Int)(s1:ByteArray)(n2:Int)(a3:Option Addr)(l3 c3:Nat)(w:aLW):(bV 137 [(0,(.int .i64 n0)),(1,(.string s1)),(3,(.int .i64 n2)),(4,(.slice a3 l3 c3))]).run pg w= .ok (.value (.agg #[(.int .i64 n0),(.string s1),(.string ⟨#[]⟩),(.int .i64 n2),(.slice a3 l3 c3)])) w:=by kernel_rfl
theorem Wc{n:Nat}{ps:List (Nat×aLX)}{cells:Array aLX}{w:aLW}(h1:¬n*1>2^24)(h0:¬n*1=0)(hf:Go.Instr.fill (λj=>some (j*1,1)) ((Array.range (n*1)).map ((Tryz.t9.zero.get!).cells[·%(Tryz.t9.zero.get!).cells.size]!)) ps=some cells){K:aLX->aLW->Prop}(hk:∀w',bD w' w.heap.size cells.toList->aL w w' aT->w'.heap.size=w.heap.size+1->K (.slice (some ⟨w.heap.size,0,none⟩) n n) w'):aA pg (bB 80 n ps) w K:=pW (i:=Tryz.t9) Tryz.underlying80 Wx rfl h1 h0 hf hk
theorem iP{base n m:Nat}{ty:TypeId}{w:aLW}{v x:aLX}{l news:List aLX}(h:kW w base 5 v n l)(hx:Cl w 5 x m news)(hone:∀y∈news,one y=true)(hb:base<=w.heap.size)(hbytes:(n+m)*64<=140737488355328){K:aLX->aLW->Prop}(hk:∀v' w',kW w' base 5 v' (n+m) (l++news)->aL w w' (λy=>base<=y)->K v' w'):aA pg (eI .append #[38,38] ty [v,x]) w K:=Jr (i:=Tryz.t96) Tryz.underlying38 Tryz.underlying38 atJ rfl rfl rfl h hx hone hb (by omega) hbytes (by decide) hk
theorem LN{n:Nat}{ps:List (Nat×aLX)}{cells:Array aLX}{w:aLW}(h1:¬n*5>2^24)(h0:¬n*5=0)(hf:Go.Instr.fill (λj=>some (j*5,5)) ((Array.range (n*5)).map ((Tryz.t96.zero.get!).cells[·%(Tryz.t96.zero.get!).cells.size]!)) ps=some cells){K:aLX->aLW->Prop}(hk:∀w',bD w' w.heap.size cells.toList->aL w w' aT->w'.heap.size=w.heap.size+1->K (.slice (some ⟨w.heap.size,0,none⟩) n n) w'):aA pg (bB 38 n ps) w K:=pW (i:=Tryz.t96) Tryz.underlying38 atJ rfl h1 h0 hf hk
theorem Pg{ox oy:Operand}(x:Option Addr)(n c:Nat)(w:aLW):(aE .eql 28 ox oy (.slice x n c) (.slice none 0 0)).run pg w= .ok (.value (.bool x.isNone)) w:=aqH Tryz.underlying28 x n c
theorem Bm(b o:Nat)(w:aLW):(aD 99 (.pointer (some ⟨b,o,none⟩)) 5).run pg w= .ok (.value (.pointer (some ⟨b,o+7,none⟩))) w:=bR (i:=5) Tryz.underlying99 rfl Rb (by decide) _
theorem wM(n0:Int)(n1:Int)(w:aLW):(bV 109 [(0,(.int .u8 n0)),(1,(.int .u64 n1))]).run pg w= .ok (.value (.agg #[(.int .u8 n0),(.int .u64 n1)])) w:=by kernel_rfl
theorem RL{k:IntKind}{n:Int}{w:aLW}{K:aLX->aLW->Prop}(h0:0<=n)(hn:1*n<=2^48)(hk:∀w',bD w' w.heap.size (List.replicate n.toNat (.int .u8 0))->aL w w' aT->w'.heap.size=w.heap.size+1->K (.slice (some ⟨w.heap.size,0,none⟩) n.toNat n.toNat) w'):aA pg (xP 22 (.int k n) (.int k n)) w K:=awG (i:=Tryz.t5) Tryz.underlying22 Ma rfl rfl rfl h0 hn (by omega) hk
theorem KJ{k:IntKind}{a:Int}(b o n c:Nat)(w:aLW)(h0:0<=a)(h1:a<n):(aR 28 (.slice (some ⟨b,o,none⟩) n c) (.int k a)).run pg w= .ok (.value (.pointer (some ⟨b,o+a.toNat*32,none⟩))) w:=D8 rfl Tryz.underlying28 Ww b o n c h0 h1
theorem aaR{b off:Nat}{l:List aLX}{w:aLW}(hl:l.length=32)(h:∀j,j<l.length->w.cell? ⟨b,off+j,none⟩=l[j]?):(aB 70 (.pointer (some ⟨b,off,none⟩))).run pg w= .ok (.value (.agg l.toArray)) w:=Xa Tryz.underlying70 rfl Ww hl.symm h
theorem aaQ{b off:Nat}{cs:List aLX}{w:aLW}(ho:bD w b cs)(h:off+32<=cs.length):(aB 70 (.pointer (some ⟨b,off,none⟩))).run pg w= .ok (.value (.agg ((cs.drop off).take 32).toArray)) w:=pB Tryz.underlying70 rfl Ww ho h
theorem tG{ty:TypeId}(x:Option Addr)(n c:Nat)(w:aLW):(eI .len #[151] ty [.slice x n c]).run pg w= .ok (.value (.int .i64 n)) w:=IF Tryz.underlying151 x n c
theorem tE{k:IntKind}{a:Int}(b o n c:Nat)(w:aLW)(h0:0<=a)(h1:a<n):(aR 151 (.slice (some ⟨b,o,none⟩) n c) (.int k a)).run pg w= .ok (.value (.pointer (some ⟨b,o+a.toNat,none⟩))) w:=Tk rfl Tryz.underlying151 aGf b o n c h0 h1
theorem zX(x:Addr)(w:aLW):(aB 60 (.pointer (some x))).run pg w=ldC (w.cell? x) w (far pg 60 x w):=Nz Tryz.underlying60 rfl x w
theorem qJ(n0:Int)(s1:ByteArray)(s2:ByteArray)(w:aLW):(bV 137 [(0,(.int .i64 n0)),(1,(.string s1)),(2,(.string s2))]).run pg w= .ok (.value (.agg #[(.int .i64 n0),(.string s1),(.string s2),(.int .i64 0),(.slice none 0 0)])) w:=by kernel_rfl
theorem Az{ox oy:Operand}(x:Option Addr)(n c:Nat)(w:aLW):(aE .eql 22 ox oy (.slice x n c) (.slice none 0 0)).run pg w= .ok (.value (.bool x.isNone)) w:=aqH Tryz.underlying22 x n c
theorem Ow{ox oy:Operand}(x:Option Addr)(n c:Nat)(w:aLW):(aE .eql 45 ox oy (.slice x n c) (.slice none 0 0)).run pg w= .ok (.value (.bool x.isNone)) w:=aqH Tryz.underlying45 x n c
theorem axH{n:Nat}{ps:List (Nat×aLX)}{cells:Array aLX}{w:aLW}(h1:¬n*1>2^24)(h0:¬n*1=0)(hf:Go.Instr.fill (λj=>some (j*1,1)) ((Array.range (n*1)).map ((Tryz.t4.zero.get!).cells[·%(Tryz.t4.zero.get!).cells.size]!)) ps=some cells){K:aLX->aLW->Prop}(hk:∀w',bD w' w.heap.size cells.toList->aL w w' aT->w'.heap.size=w.heap.size+1->K (.slice (some ⟨w.heap.size,0,none⟩) n n) w'):aA pg (bB 45 n ps) w K:=pW (i:=Tryz.t4) Tryz.underlying45 ahE rfl h1 h0 hf hk
theorem C6 {k k':IntKind}{lo hi:Int}(x:ByteArray)(w:aLW)(h0:0<=lo)(h1:lo<=hi)(h2:hi<=x.size):(dG 9 (.string x) (some (.int k lo)) (some (.int k' hi)) none).run pg w= .ok (.value (.string (x.extract lo.toNat hi.toNat))) w:=alU Tryz.underlying9 x h0 h1 h2
theorem Hn{k:IntKind}{lo:Int}(x:ByteArray)(w:aLW)(h0:0<=lo)(h1:lo<=x.size):(dG 9 (.string x) (some (.int k lo)) none none).run pg w= .ok (.value (.string (x.extract lo.toNat x.size))) w:=auS Tryz.underlying9 x h0 h1
theorem lU(s0:ByteArray)(w:aLW):(bV 158 [(0,(.string s0))]).run pg w= .ok (.value (.agg #[(.string s0),(.int .i64 0)])) w:=by kernel_rfl
theorem apX:(pg).info? 158=some Tryz.t158:=by kernel_rfl
theorem wH{w:aLW}{K:aLX->aLW->Prop}(hk:∀w',bD w' w.heap.size [(.string ⟨#[]⟩),(.int .i64 0)]->aL w w' aT->w'.heap.size=w.heap.size+1->K (.pointer (some ⟨w.heap.size,0,none⟩)) w'):aA pg (bE 158) w K:=iT (i:=Tryz.t158) apX rfl hk
theorem nJ{b off:Nat}{cs:List aLX}{w:aLW}{xs:Array aLX}{K:aLX->aLW->Prop}(ho:bD w b cs)(hs:xs.size=2)(hv:∀x∈xs.toList,one x=true)(h:off+2<=cs.length)(hk:∀w',bD w' b (eF cs off xs.toList)->aL w w' (λx=>x=b)->w'.heap.size=w.heap.size->K undef w'):aA pg (aF 158 (.pointer (some ⟨b,off,none⟩)) (.agg xs)) w K:=kA (v:= .agg xs) apX ho hs hv h hk
theorem BR{k:IntKind}{a:Int}(x:ByteArray)(w:aLW)(h0:0<=a)(h1:a.toNat<x.size):(VL 9 (.string x) (.int k a)).run pg w= .ok (.value (.int .u8 (x[a.toNat]'h1).toNat)) w:=aG3 Tryz.underlying9 x h0 h1
theorem Qv{w:aLW}{K:aLX->aLW->Prop}(hk:∀w',bD w' w.heap.size [(.int .u8 0),(.int .u64 0)]->aL w w' aT->w'.heap.size=w.heap.size+1->K (.pointer (some ⟨w.heap.size,0,none⟩)) w'):aA pg (bE 123) w K:=iT (i:=Tryz.t123) Zc rfl hk
theorem Qk{b off:Nat}{cs:List aLX}{w:aLW}{xs:Array aLX}{K:aLX->aLW->Prop}(ho:bD w b cs)(hs:xs.size=2)(hv:∀x∈xs.toList,one x=true)(h:off+2<=cs.length)(hk:∀w',bD w' b (eF cs off xs.toList)->aL w w' (λx=>x=b)->w'.heap.size=w.heap.size->K undef w'):aA pg (aF 123 (.pointer (some ⟨b,off,none⟩)) (.agg xs)) w K:=kA (v:= .agg xs) Zc ho hs hv h hk
theorem uX{b off:Nat}{cs:List aLX}{w:aLW}(ho:bD w b cs)(h:off+2<=cs.length):(aB 123 (.pointer (some ⟨b,off,none⟩))).run pg w= .ok (.value (.agg ((cs.drop off).take 2).toArray)) w:=pB Tryz.underlying123 rfl Zc ho h
theorem LO{n:Nat}{ps:List (Nat×aLX)}{cells:Array aLX}{w:aLW}(h1:¬n*2>2^24)(h0:¬n*2=0)(hf:Go.Instr.fill (λj=>some (j*2,2)) ((Array.range (n*2)).map ((Tryz.t123.zero.get!).cells[·%(Tryz.t123.zero.get!).cells.size]!)) ps=some cells){K:aLX->aLW->Prop}(hk:∀w',bD w' w.heap.size cells.toList->aL w w' aT->w'.heap.size=w.heap.size+1->K (.slice (some ⟨w.heap.size,0,none⟩) n n) w'):aA pg (bB 120 n ps) w K:=pW (i:=Tryz.t123) Tryz.underlying120 Zc rfl h1 h0 hf hk
theorem pK(n0:Int)(s1:ByteArray)(w:aLW):(bV 96 [(0,(.int .i64 n0)),(1,(.string s1))]).run pg w= .ok (.value (.agg #[(.int .i64 n0),(.string s1),(.string ⟨#[]⟩),(.int .i64 0),(.string ⟨#[]⟩)])) w:=by kernel_rfl
theorem cX(b o:Nat)(w:aLW):(aD 96 (.pointer (some ⟨b,o,none⟩)) 1).run pg w= .ok (.value (.pointer (some ⟨b,o+1,none⟩))) w:=bR (i:=1) Tryz.underlying96 rfl Wx (by decide) _
theorem cV(b o:Nat)(w:aLW):(aD 96 (.pointer (some ⟨b,o,none⟩)) 0).run pg w= .ok (.value (.pointer (some ⟨b,o,none⟩))) w:=bR (i:=0) Tryz.underlying96 rfl Rb (by decide) _
theorem HV{x:ByteArray}{w:aLW}{K:aLX->aLW->Prop}(hk:∀w' c,Sl w' (.slice (some ⟨w.heap.size,0,none⟩) x.size c) (x.data.toList.map gO)->aL w w' aT->w'.heap.size=w.heap.size+1->(∃r,bD w' w.heap.size (x.data.toList.map gO++List.replicate r (.int .u8 0))/\c=x.size+r)->K (.slice (some ⟨w.heap.size,0,none⟩) x.size c) w'):aA pg (cJ 9 22 (.string x)) w K:=azK Tryz.underlying9 Tryz.underlying22 Tryz.underlying5 hk
theorem dA(b o:Nat)(w:aLW):(aD 96 (.pointer (some ⟨b,o,none⟩)) 3).run pg w= .ok (.value (.pointer (some ⟨b,o+3,none⟩))) w:=bR (i:=3) Tryz.underlying96 rfl Rb (by decide) _
theorem mV(b o:Nat)(w:aLW):(aD 96 (.pointer (some ⟨b,o,none⟩)) 4).run pg w= .ok (.value (.pointer (some ⟨b,o+4,none⟩))) w:=bR (i:=4) Tryz.underlying96 rfl Wx (by decide) _
theorem wX{k:IntKind}{a:Int}(b o n c:Nat)(w:aLW)(h0:0<=a)(h1:a<n):(aR 22 (.slice (some ⟨b,o,none⟩) n c) (.int k a)).run pg w= .ok (.value (.pointer (some ⟨b,o+a.toNat,none⟩))) w:=Tk rfl Tryz.underlying22 Ma b o n c h0 h1
theorem akK{b off:Nat}{cs:List aLX}{w:aLW}{v:aLX}{K:aLX->aLW->Prop}(ho:bD w b cs)(hv:one v=true)(h:off<cs.length)(hk:∀w',bD w' b (cs.set off v)->aL w w' (λx=>x=b)->w'.heap.size=w.heap.size->K undef w'):aA pg (aF 5 (.pointer (some ⟨b,off,none⟩)) v) w K:=gH Ma rfl ho hv h hk
theorem pJ(s0:ByteArray)(s1:ByteArray)(w:aLW):(bV 85 [(0,(.string s0)),(1,(.string s1))]).run pg w= .ok (.value (.agg #[(.string s0),(.string s1)])) w:=by kernel_rfl
theorem cO(b o:Nat)(w:aLW):(aD 96 (.pointer (some ⟨b,o,none⟩)) 2).run pg w= .ok (.value (.pointer (some ⟨b,o+2,none⟩))) w:=bR (i:=2) Tryz.underlying96 rfl Wx (by decide) _
theorem sT(b o:Nat)(w:aLW):(aD 137 (.pointer (some ⟨b,o,none⟩)) 1).run pg w= .ok (.value (.pointer (some ⟨b,o+1,none⟩))) w:=bR (i:=1) Tryz.underlying137 rfl Wx (by decide) _
theorem sS(b o:Nat)(w:aLW):(aD 137 (.pointer (some ⟨b,o,none⟩)) 0).run pg w= .ok (.value (.pointer (some ⟨b,o,none⟩))) w:=bR (i:=0) Tryz.underlying137 rfl Rb (by decide) _
theorem wS(b o:Nat)(w:aLW):(aD 137 (.pointer (some ⟨b,o,none⟩)) 3).run pg w= .ok (.value (.pointer (some ⟨b,o+3,none⟩))) w:=bR (i:=3) Tryz.underlying137 rfl Rb (by decide) _
theorem qR(b o:Nat)(w:aLW):(aD 137 (.pointer (some ⟨b,o,none⟩)) 4).run pg w= .ok (.value (.pointer (some ⟨b,o+4,none⟩))) w:=bR (i:=4) Tryz.underlying137 rfl ahD (by decide) _
theorem JP{ty:TypeId}{w:aLW}{b off dl c:Nat}{cs:List aLX}(ho:bD w b cs)(hl:off+dl<=cs.length){v:aLX}{l:List aLX}(h:Sl w v l)(hv:∀x∈l,one x=true){K:aLX->aLW->Prop}(hk:∀w',bD w' b (eF cs off (l.take (min l.length dl)))->aL w w' (λx=>x=b)->w'.heap.size=w.heap.size->K (.int .i64 (min l.length dl:Nat)) w'):aA pg (eI .copy #[22,22] ty [.slice (some ⟨b,off,none⟩) dl c,v]) w K:=awF Tryz.underlying22 Ma rfl ho hl h hv hk
theorem C4 {k:IntKind}{lo:Int}(a:Option Addr)(n c:Nat)(w:aLW)(h0:0<=lo)(h1:lo<=n):(dG 22 (.slice a n c) (some (.int k lo)) none none).run pg w= .ok (.value (.slice (dD a c (lo.toNat) 1) (n-lo.toNat) (c-lo.toNat))) w:=aiB Tryz.underlying22 Ma _ n c h0 h1
theorem Uu{w:aLW}{m:Nat}{l:List (ByteArray×aLX)}(hm:Mp w m (λs:ByteArray=>Value.string s) l)(k:ByteArray)(v:aLX){K:aLX->aLW->Prop}(hk:∀w',Mp w' m (λs:ByteArray=>Value.string s) (upd k v l)->aL w w' (λy=>y=m)->w'.heap.size=w.heap.size->K undef w'):aA pg (VM 73 (.map (some m)) ((λs:ByteArray=>Value.string s) k) v) w K:=aB9 Tryz.underlying73 (Te Tryz.underlying9) hm k v hk
theorem Uh{ty:TypeId}{w:aLW}{m:Nat}{l:List (ByteArray×aLX)}(hm:Mp w m (λs:ByteArray=>Value.string s) l)(k:ByteArray){K:aLX->aLW->Prop}(hk:∀w',Mp w' m (λs:ByteArray=>Value.string s) (del k l)->aL w w' (λy=>y=m)->w'.heap.size=w.heap.size->K (.tuple #[]) w'):aA pg (eI .delete #[73,9] ty [.map (some m),.string k]) w K:=azJ Tryz.underlying73 (Te Tryz.underlying9) hm k hk
theorem qS(b o:Nat)(w:aLW):(aD 137 (.pointer (some ⟨b,o,none⟩)) 2).run pg w= .ok (.value (.pointer (some ⟨b,o+2,none⟩))) w:=bR (i:=2) Tryz.underlying137 rfl Wx (by decide) _
theorem US{w:aLW}{m:Nat}{l:List (ByteArray×aLX)}(hm:Mp w m (λs:ByteArray=>Value.string s) l){K:aLX->aLW->Prop}(hk:∀w',Itr w' w.heap.size m (λs:ByteArray=>Value.string s) l->aL w w' aT->w'.heap.size=w.heap.size+1->K (.pointer (some ⟨w.heap.size,0,none⟩)) w'):aA pg (Z1 73 (.map (some m))) w K:=aCb Tryz.underlying73 hm hk
theorem QH{n:Nat}{ps:List (Nat×aLX)}{cells:Array aLX}{w:aLW}(h1:¬n*5>2^24)(h0:¬n*5=0)(hf:Go.Instr.fill (λj=>some (j*5,5)) ((Array.range (n*5)).map ((Tryz.t137.zero.get!).cells[·%(Tryz.t137.zero.get!).cells.size]!)) ps=some cells){K:aLX->aLW->Prop}(hk:∀w',bD w' w.heap.size cells.toList->aL w w' aT->w'.heap.size=w.heap.size+1->K (.slice (some ⟨w.heap.size,0,none⟩) n n) w'):aA pg (bB 74 n ps) w K:=pW (i:=Tryz.t137) Tryz.underlying74 Zd rfl h1 h0 hf hk
theorem nU(b o:Nat)(w:aLW):(aD 40 (.pointer (some ⟨b,o,none⟩)) 0).run pg w= .ok (.value (.pointer (some ⟨b,o,none⟩))) w:=bR (i:=0) Tryz.underlying40 rfl Rb (by decide) _
theorem aC8:(pg).info? 104=some Tryz.t104:=by kernel_rfl
theorem Tq{w:aLW}{K:aLX->aLW->Prop}(hk:∀w',bD w' w.heap.size [(.slice none 0 0)]->aL w w' aT->w'.heap.size=w.heap.size+1->K (.pointer (some ⟨w.heap.size,0,none⟩)) w'):aA pg (bE 104) w K:=iT (i:=Tryz.t104) aC8 rfl hk
theorem aGA{w:aLW}{K:aLX->aLW->Prop}(hk:∀w',bD w' w.heap.size [(.int .i64 0)]->aL w w' aT->w'.heap.size=w.heap.size+1->K (.pointer (some ⟨w.heap.size,0,none⟩)) w'):aA pg (bE 3) w K:=iT (i:=Tryz.t3) Rb rfl hk
theorem AJ{k:IntKind}(a:Int)(w:aLW):(cJ 26 5 (.int k a)).run pg w= .ok (.value (.int .u8 (IntKind.u8.wrap a))) w:=D7 Tryz.underlying26 Tryz.underlying5
theorem Cq(w:aLW):(bV 109 []).run pg w= .ok (.value (.agg #[(.int .u8 0),(.int .u64 0)])) w:=by kernel_rfl
theorem zY(x:Addr)(w:aLW):(aB 104 (.pointer (some x))).run pg w=ldC (w.cell? x) w (far pg 104 x w):=Nz Tryz.underlying104 rfl x w
theorem Tx{n:Nat}{ps:List (Nat×aLX)}{cells:Array aLX}{w:aLW}(h1:¬n*2>2^24)(h0:¬n*2=0)(hf:Go.Instr.fill (λj=>some (j*2,2)) ((Array.range (n*2)).map ((Tryz.t109.zero.get!).cells[·%(Tryz.t109.zero.get!).cells.size]!)) ps=some cells){K:aLX->aLW->Prop}(hk:∀w',bD w' w.heap.size cells.toList->aL w w' aT->w'.heap.size=w.heap.size+1->K (.slice (some ⟨w.heap.size,0,none⟩) n n) w'):aA pg (bB 104 n ps) w K:=pW (i:=Tryz.t109) Tryz.underlying104 Vn rfl h1 h0 hf hk
theorem Ub{b off:Nat}{cs:List aLX}{w:aLW}{v:aLX}{K:aLX->aLW->Prop}(ho:bD w b cs)(hv:one v=true)(h:off<cs.length)(hk:∀w',bD w' b (cs.set off v)->aL w w' (λx=>x=b)->w'.heap.size=w.heap.size->K undef w'):aA pg (aF 104 (.pointer (some ⟨b,off,none⟩)) v) w K:=gH aC8 rfl ho hv h hk
theorem uN(n0:Int)(s1:ByteArray)(w:aLW):(bV 137 [(0,(.int .i64 n0)),(1,(.string s1))]).run pg w= .ok (.value (.agg #[(.int .i64 n0),(.string s1),(.string ⟨#[]⟩),(.int .i64 0),(.slice none 0 0)])) w:=by kernel_rfl
theorem AK{k:IntKind}(a:Int)(w:aLW):(cJ 5 26 (.int k a)).run pg w= .ok (.value (.int .u64 (IntKind.u64.wrap a))) w:=D7 Tryz.underlying5 Tryz.underlying26
theorem yY{k:IntKind}(a:Int)(w:aLW):(cJ 27 26 (.int k a)).run pg w= .ok (.value (.int .u64 (IntKind.u64.wrap a))) w:=D7 Tryz.underlying27 Tryz.underlying26
theorem lH(n0:Int)(n1:Int)(n2:Int)(n3:Int)(n4:Int)(n5:Int)(n6:Int)(n7:Int)(w:aLW):(bV 182 [(0,(.int .u32 n0)),(1,(.int .u32 n1)),(2,(.int .u32 n2)),(3,(.int .u32 n3)),(4,(.int .u32 n4)),(5,(.int .u32 n5)),(6,(.int .u32 n6)),(7,(.int .u32 n7))]).run pg w= .ok (.value (.agg #[(.int .u32 n0),(.int .u32 n1),(.int .u32 n2),(.int .u32 n3),(.int .u32 n4),(.int .u32 n5),(.int .u32 n6),(.int .u32 n7)])) w:=by kernel_rfl
theorem KA(aIr aIs aIt aIu aIv aIw aIx aIy:aLX)(w:aLW):(bV 185 [(0,(.agg #[aIr,aIs,aIt,aIu,aIv,aIw,aIx,aIy]))]).run pg w= .ok (.value (.agg #[aIr,aIs,aIt,aIu,aIv,aIw,aIx,aIy,(.int .u8 0),(.int .u8 0),(.int .u8 0),(.int .u8 0),(.int .u8 0),(.int .u8 0),(.int .u8 0),(.int .u8 0),(.int .u8 0),(.int .u8 0),(.int .u8 0),(.int .u8 0),(.int .u8 0),(.int .u8 0),(.int .u8 0),(.int .u8 0),(.int .u8 0),(.int .u8 0),(.int .u8 0),(.int .u8 0),(.int .u8 0),(.int .u8 0),(.int .u8 0),(.int .u8 0),(.int .u8 0),(.int .u8 0),(.int .u8 0),(.int .u8 0),(.int .u8 0),(.int .u8 0),(.int .u8 0),(.int .u8 0),(.int .u8 0),(.int .u8 0),(.int .u8 0),(.int .u8 0),(.int .u8 0),(.int .u8 0),(.int .u8 0),(.int .u8 0),(.int .u8 0),(.int .u8 0),(.int .u8 0),(.int .u8 0),(.int .u8 0),(.int .u8 0),(.int .u8 0),(.int .u8 0),(.int .u8 0),(.int .u8 0),(.int .u8 0),(.int .u8 0),(.int .u8 0),(.int .u8 0),(.int .u8 0),(.int .u8 0),(.int .u8 0),(.int .u8 0),(.int .u8 0),(.int .u8 0),(.int .u8 0),(.int .u8 0),(.int .u8 0),(.int .u8 0),(.int .i64 0),(.int .u64 0)])) w:=by kernel_rfl
theorem F8 {ox oy:Operand}(x:Option Addr)(w:aLW):(aE .eql 153 ox oy (.pointer x) (.pointer none)).run pg w= .ok (.value (.bool x.isNone)) w:=Zv Tryz.underlying153 x
theorem F7 (b o:Nat)(w:aLW):(aD 185 (.pointer (some ⟨b,o,none⟩)) 3).run pg w= .ok (.value (.pointer (some ⟨b,o+73,none⟩))) w:=bR (i:=3) Tryz.underlying185 rfl Wv (by decide) _
theorem aC9:(pg).info? 183=some Tryz.t183:=by kernel_rfl
theorem DU(b o:Nat)(w:aLW):(aD 185 (.pointer (some ⟨b,o,none⟩)) 1).run pg w= .ok (.value (.pointer (some ⟨b,o+8,none⟩))) w:=bR (i:=1) Tryz.underlying185 rfl aC9 (by decide) _
theorem KH(b o:Nat)(w:aLW):(aD 185 (.pointer (some ⟨b,o,none⟩)) 2).run pg w= .ok (.value (.pointer (some ⟨b,o+72,none⟩))) w:=bR (i:=2) Tryz.underlying185 rfl Rb (by decide) _
theorem Eo{k:IntKind}{lo:Int}(b o:Nat)(w:aLW)(h0:0<=lo)(h1:lo<=64):(dG 183 (.pointer (some ⟨b,o,none⟩)) (some (.int k lo)) none none).run pg w= .ok (.value (.slice (some (Gp ⟨b,o,none⟩ 64 (lo.toNat) 1)) (64-lo.toNat) (64-lo.toNat))) w:=aaV Tryz.underlying183 Ma _ h0 (by simpa using h1)
theorem ahC:(pg).info? 182=some Tryz.t182:=by kernel_rfl
theorem KI(b o:Nat)(w:aLW):(aD 185 (.pointer (some ⟨b,o,none⟩)) 0).run pg w= .ok (.value (.pointer (some ⟨b,o,none⟩))) w:=bR (i:=0) Tryz.underlying185 rfl ahC (by decide) _
theorem KU{b off:Nat}{cs:List aLX}{w:aLW}(ho:bD w b cs)(h:off+8<=cs.length):(aB 182 (.pointer (some ⟨b,off,none⟩))).run pg w= .ok (.value (.agg ((cs.drop off).take 8).toArray)) w:=pB Tryz.underlying182 rfl ahC ho h
theorem Rw{b off:Nat}{cs:List aLX}{w:aLW}(ho:bD w b cs)(h:off+64<=cs.length):(aB 183 (.pointer (some ⟨b,off,none⟩))).run pg w= .ok (.value (.agg ((cs.drop off).take 64).toArray)) w:=pB Tryz.underlying183 rfl aC9 ho h
theorem Lz{b off:Nat}{cs:List aLX}{w:aLW}{xs:Array aLX}{K:aLX->aLW->Prop}(ho:bD w b cs)(hs:xs.size=8)(hv:∀x∈xs.toList,one x=true)(h:off+8<=cs.length)(hk:∀w',bD w' b (eF cs off xs.toList)->aL w w' (λx=>x=b)->w'.heap.size=w.heap.size->K undef w'):aA pg (aF 182 (.pointer (some ⟨b,off,none⟩)) (.agg xs)) w K:=kA (v:= .agg xs) ahC ho hs hv h hk
theorem ayB:(pg).info? 185=some Tryz.t185:=by kernel_rfl
theorem aqA{b off:Nat}{cs:List aLX}{w:aLW}(ho:bD w b cs)(h:off+74<=cs.length):(aB 185 (.pointer (some ⟨b,off,none⟩))).run pg w= .ok (.value (.agg ((cs.drop off).take 74).toArray)) w:=pB Tryz.underlying185 rfl ayB ho h
theorem arV{w:aLW}{K:aLX->aLW->Prop}(hk:∀w',bD w' w.heap.size [(.int .u32 0),(.int .u32 0),(.int .u32 0),(.int .u32 0),(.int .u32 0),(.int .u32 0),(.int .u32 0),(.int .u32 0),(.int .u8 0),(.int .u8 0),(.int .u8 0),(.int .u8 0),(.int .u8 0),(.int .u8 0),(.int .u8 0),(.int .u8 0),(.int .u8 0),(.int .u8 0),(.int .u8 0),(.int .u8 0),(.int .u8 0),(.int .u8 0),(.int .u8 0),(.int .u8 0),(.int .u8 0),(.int .u8 0),(.int .u8 0),(.int .u8 0),(.int .u8 0),(.int .u8 0),(.int .u8 0),(.int .u8 0),(.int .u8 0),(.int .u8 0),(.int .u8 0),(.int .u8 0),(.int .u8 0),(.int .u8 0),(.int .u8 0),(.int .u8 0),(.int .u8 0),(.int .u8 0),(.int .u8 0),(.int .u8 0),(.int .u8 0),(.int .u8 0),(.int .u8 0),(.int .u8 0),(.int .u8 0),(.int .u8 0),(.int .u8 0),(.int .u8 0),(.int .u8 0),(.int .u8 0),(.int .u8 0),(.int .u8 0),(.int .u8 0),(.int .u8 0),(.int .u8 0),(.int .u8 0),(.int .u8 0),(.int .u8 0),(.int .u8 0),(.int .u8 0),(.int .u8 0),(.int .u8 0),(.int .u8 0),(.int .u8 0),(.int .u8 0),(.int .u8 0),(.int .u8 0),(.int .u8 0),(.int .i64 0),(.int .u64 0)]->aL w w' aT->w'.heap.size=w.heap.size+1->K (.pointer (some ⟨w.heap.size,0,none⟩)) w'):aA pg (bE 185) w K:=iT (i:=Tryz.t185) ayB rfl hk
theorem arA{b off:Nat}{cs:List aLX}{w:aLW}{xs:Array aLX}{K:aLX->aLW->Prop}(ho:bD w b cs)(hs:xs.size=74)(hv:∀x∈xs.toList,one x=true)(h:off+74<=cs.length)(hk:∀w',bD w' b (eF cs off xs.toList)->aL w w' (λx=>x=b)->w'.heap.size=w.heap.size->K undef w'):aA pg (aF 185 (.pointer (some ⟨b,off,none⟩)) (.agg xs)) w K:=kA (v:= .agg xs) ayB ho hs hv h hk
theorem yZ{k:IntKind}{a:Int}(b o:Nat)(w:aLW)(h0:0<=a)(h1:a<8):(aR 182 (.pointer (some ⟨b,o,none⟩)) (.int k a)).run pg w= .ok (.value (.pointer (some ⟨b,o+a.toNat,none⟩))) w:=Ml rfl Tryz.underlying182 Ra b o h0 (by simpa using h1)
theorem F6 {k:IntKind}(a:Int)(w:aLW):(cJ 27 5 (.int k a)).run pg w= .ok (.value (.int .u8 (IntKind.u8.wrap a))) w:=D7 Tryz.underlying27 Tryz.underlying5
theorem Vm{k:IntKind}{a:Int}(b o:Nat)(w:aLW)(h0:0<=a)(h1:a<32):(aR 70 (.pointer (some ⟨b,o,none⟩)) (.int k a)).run pg w= .ok (.value (.pointer (some ⟨b,o+a.toNat,none⟩))) w:=Ml rfl Tryz.underlying70 Ma b o h0 (by simpa using h1)
theorem Dp{b off:Nat}{cs:List aLX}{w:aLW}(ho:bD w b cs)(h:off+2<=cs.length){K:aLX->Prop}(hk:K (.agg ((cs.drop off).take 2).toArray)):kD pg 158 (.pointer (some ⟨b,off,none⟩)) w K:=EL Tryz.underlying158 rfl apX ho h hk
theorem mC(b o:Nat)(w:aLW):(aD 158 (.pointer (some ⟨b,o,none⟩)) 1).run pg w= .ok (.value (.pointer (some ⟨b,o+1,none⟩))) w:=bR (i:=1) Tryz.underlying158 rfl atE (by decide) _
theorem uV{b off:Nat}{cs:List aLX}{w:aLW}(ho:bD w b cs)(h:off+2<=cs.length):(aB 158 (.pointer (some ⟨b,off,none⟩))).run pg w= .ok (.value (.agg ((cs.drop off).take 2).toArray)) w:=pB Tryz.underlying158 rfl apX ho h
theorem JT{k:IntKind}(a:Int)(w:aLW):(cJ 3 194 (.int k a)).run pg w= .ok (.value (.int .u64 (IntKind.u64.wrap a))) w:=D7 Tryz.underlying3 Tryz.underlying194
theorem nA{k:IntKind}{hi:Int}(a:Option Addr)(n c:Nat)(w:aLW)(h0:0<=hi)(h1:hi<=c):(dG 37 (.slice a n c) none (some (.int k hi)) none).run pg w= .ok (.value (.slice (dD a c (0) 2) (hi.toNat-0) (c-0))) w:=ayM Tryz.underlying37 ahF _ n c h0 h1
theorem dH{base n m:Nat}{ty:TypeId}{w:aLW}{v x:aLX}{l news:List aLX}(h:kW w base 2 v n l)(hx:Cl w 2 x m news)(hone:∀y∈news,one y=true)(hb:base<=w.heap.size)(hbytes:(n+m)*32<=140737488355328){K:aLX->aLW->Prop}(hk:∀v' w',kW w' base 2 v' (n+m) (l++news)->aL w w' (λy=>base<=y)->K v' w'):aA pg (eI .append #[37,37] ty [v,x]) w K:=Jr (i:=Tryz.t85) Tryz.underlying37 Tryz.underlying37 ahF rfl rfl rfl h hx hone hb (by omega) hbytes (by decide) hk
theorem PV{b off:Nat}{l:List aLX}{w:aLW}(hl:l.length=2)(h:∀j,j<l.length->w.cell? ⟨b,off+j,none⟩=l[j]?):(aB 85 (.pointer (some ⟨b,off,none⟩))).run pg w= .ok (.value (.agg l.toArray)) w:=Xa Tryz.underlying85 rfl ahF hl.symm h
theorem PU{b off:Nat}{cs:List aLX}{w:aLW}(ho:bD w b cs)(h:off+2<=cs.length):(aB 85 (.pointer (some ⟨b,off,none⟩))).run pg w= .ok (.value (.agg ((cs.drop off).take 2).toArray)) w:=pB Tryz.underlying85 rfl ahF ho h
theorem BK{n:Nat}{ps:List (Nat×aLX)}{cells:Array aLX}{w:aLW}(h1:¬n*2>2^24)(h0:¬n*2=0)(hf:Go.Instr.fill (λj=>some (j*2,2)) ((Array.range (n*2)).map ((Tryz.t85.zero.get!).cells[·%(Tryz.t85.zero.get!).cells.size]!)) ps=some cells){K:aLX->aLW->Prop}(hk:∀w',bD w' w.heap.size cells.toList->aL w w' aT->w'.heap.size=w.heap.size+1->K (.slice (some ⟨w.heap.size,0,none⟩) n n) w'):aA pg (bB 37 n ps) w K:=pW (i:=Tryz.t85) Tryz.underlying37 ahF rfl h1 h0 hf hk
theorem nB{k:IntKind}{lo:Int}(a:Option Addr)(n c:Nat)(w:aLW)(h0:0<=lo)(h1:lo<=n):(dG 37 (.slice a n c) (some (.int k lo)) none none).run pg w= .ok (.value (.slice (dD a c (lo.toNat) 2) (n-lo.toNat) (c-lo.toNat))) w:=aiB Tryz.underlying37 ahF _ n c h0 h1
theorem LM{ox oy:Operand}(c d:Bool)(w:aLW):(aE .eql 4 ox oy (.bool c) (.bool d)).run pg w= .ok (.value (.bool (c==d))) w:=aGZ c d Tryz.underlying4
theorem A6 (a0:Option Addr)(l0 c0:Nat)(w:aLW):(bV 197 [(0,(.slice a0 l0 c0))]).run pg w= .ok (.value (.agg #[(.slice a0 l0 c0),(.int .i64 0)])) w:=by kernel_rfl
theorem xH{ox oy:Operand}(x:Option Addr)(w:aLW):(aE .eql 172 ox oy (.pointer x) (.pointer none)).run pg w= .ok (.value (.bool x.isNone)) w:=Zv Tryz.underlying172 x
theorem Cp(w:aLW):(bV 200 []).run pg w= .ok (.value (.agg #[(.slice none 0 0)])) w:=by kernel_rfl
theorem xI{ox oy:Operand}(x:Option Addr)(w:aLW):(aE .eql 176 ox oy (.pointer x) (.pointer none)).run pg w= .ok (.value (.bool x.isNone)) w:=Zv Tryz.underlying176 x
theorem Bk(b o:Nat)(w:aLW):(aD 200 (.pointer (some ⟨b,o,none⟩)) 0).run pg w= .ok (.value (.pointer (some ⟨b,o,none⟩))) w:=bR (i:=0) Tryz.underlying200 rfl ahD (by decide) _
theorem abN{b off:Nat}{cs:List aLX}{w:aLW}{v:aLX}{K:aLX->aLW->Prop}(ho:bD w b cs)(hv:one v=true)(h:off<cs.length)(hk:∀w',bD w' b (cs.set off v)->aL w w' (λx=>x=b)->w'.heap.size=w.heap.size->K undef w'):aA pg (aF 22 (.pointer (some ⟨b,off,none⟩)) v) w K:=gH ahD rfl ho hv h hk
theorem alQ{b off:Nat}{cs:List aLX}{w:aLW}(ho:bD w b cs)(h:off+8<=cs.length){K:aLX->Prop}(hk:K (.agg ((cs.drop off).take 8).toArray)):kD pg 182 (.pointer (some ⟨b,off,none⟩)) w K:=EL Tryz.underlying182 rfl ahC ho h hk
theorem V7 {w:aLW}{K:aLX->aLW->Prop}(hk:∀w',bD w' w.heap.size [(.int .u32 0),(.int .u32 0),(.int .u32 0),(.int .u32 0),(.int .u32 0),(.int .u32 0),(.int .u32 0),(.int .u32 0)]->aL w w' aT->w'.heap.size=w.heap.size+1->K (.pointer (some ⟨w.heap.size,0,none⟩)) w'):aA pg (bE 182) w K:=iT (i:=Tryz.t182) ahC rfl hk
theorem ayC:(pg).info? 204=some Tryz.t204:=by kernel_rfl
theorem Ck{w:aLW}{K:aLX->aLW->Prop}(hk:∀w',bD w' w.heap.size [(.int .u32 0),(.int .u32 0),(.int .u32 0),(.int .u32 0),(.int .u32 0),(.int .u32 0),(.int .u32 0),(.int .u32 0),(.int .u32 0),(.int .u32 0),(.int .u32 0),(.int .u32 0),(.int .u32 0),(.int .u32 0),(.int .u32 0),(.int .u32 0),(.int .u32 0),(.int .u32 0),(.int .u32 0),(.int .u32 0),(.int .u32 0),(.int .u32 0),(.int .u32 0),(.int .u32 0),(.int .u32 0),(.int .u32 0),(.int .u32 0),(.int .u32 0),(.int .u32 0),(.int .u32 0),(.int .u32 0),(.int .u32 0),(.int .u32 0),(.int .u32 0),(.int .u32 0),(.int .u32 0),(.int .u32 0),(.int .u32 0),(.int .u32 0),(.int .u32 0),(.int .u32 0),(.int .u32 0),(.int .u32 0),(.int .u32 0),(.int .u32 0),(.int .u32 0),(.int .u32 0),(.int .u32 0),(.int .u32 0),(.int .u32 0),(.int .u32 0),(.int .u32 0),(.int .u32 0),(.int .u32 0),(.int .u32 0),(.int .u32 0),(.int .u32 0),(.int .u32 0),(.int .u32 0),(.int .u32 0),(.int .u32 0),(.int .u32 0),(.int .u32 0),(.int .u32 0)]->aL w w' aT->w'.heap.size=w.heap.size+1->K (.pointer (some ⟨w.heap.size,0,none⟩)) w'):aA pg (bE 204) w K:=iT (i:=Tryz.t204) ayC rfl hk
theorem EG{k:IntKind}{a:Int}(cs:Array aLX)(w:aLW)(h0:0<=a)(h1:a<64):(VL 183 (.agg cs) (.int k a)).run pg w=ldC cs[a.toNat]? w (aHR pg 183 cs k a w):=aG2 Tryz.underlying183 Tryz.underlying5 rfl Ma rfl cs h0 (by simpa using h1)
theorem gG{k:IntKind}{a:Int}(b o:Nat)(w:aLW)(h0:0<=a)(h1:a<64):(aR 204 (.pointer (some ⟨b,o,none⟩)) (.int k a)).run pg w= .ok (.value (.pointer (some ⟨b,o+a.toNat,none⟩))) w:=Ml rfl Tryz.underlying204 Ra b o h0 (by simpa using h1)
theorem oI{k:IntKind}(a:Int)(w:aLW):(cJ 5 27 (.int k a)).run pg w= .ok (.value (.int .u32 (IntKind.u32.wrap a))) w:=D7 Tryz.underlying5 Tryz.underlying27
theorem rN{b off:Nat}{cs:List aLX}{w:aLW}{v:aLX}{K:aLX->aLW->Prop}(ho:bD w b cs)(hv:one v=true)(h:off<cs.length)(hk:∀w',bD w' b (cs.set off v)->aL w w' (λx=>x=b)->w'.heap.size=w.heap.size->K undef w'):aA pg (aF 27 (.pointer (some ⟨b,off,none⟩)) v) w K:=gH Ra rfl ho hv h hk
theorem uC{k:IntKind}{lo:Int}(b o:Nat)(w:aLW)(h0:0<=lo)(h1:lo<=8):(dG 182 (.pointer (some ⟨b,o,none⟩)) (some (.int k lo)) none none).run pg w= .ok (.value (.slice (some (Gp ⟨b,o,none⟩ 8 (lo.toNat) 1)) (8-lo.toNat) (8-lo.toNat))) w:=aaV Tryz.underlying182 Ra _ h0 (by simpa using h1)
theorem uB{k:IntKind}{hi:Int}(b o:Nat)(w:aLW)(h0:0<=hi)(h1:hi<=8):(dG 182 (.pointer (some ⟨b,o,none⟩)) none (some (.int k hi)) none).run pg w= .ok (.value (.slice (some (Gp ⟨b,o,none⟩ 8 (0) 1)) (hi.toNat-0) (8-0))) w:=auQ Tryz.underlying182 Ra _ h0 (by simpa using h1)
theorem apN{ty:TypeId}{w:aLW}{b off dl c:Nat}{cs:List aLX}(ho:bD w b cs)(hl:off+dl<=cs.length){v:aLX}{l:List aLX}(h:Sl w v l)(hv:∀x∈l,one x=true){K:aLX->aLW->Prop}(hk:∀w',bD w' b (eF cs off (l.take (min l.length dl)))->aL w w' (λx=>x=b)->w'.heap.size=w.heap.size->K (.int .i64 (min l.length dl:Nat)) w'):aA pg (eI .copy #[206,206] ty [.slice (some ⟨b,off,none⟩) dl c,v]) w K:=awF Tryz.underlying206 Ra rfl ho hl h hv hk
theorem sZ(b o:Nat)(w:aLW):(aD 158 (.pointer (some ⟨b,o,none⟩)) 0).run pg w= .ok (.value (.pointer (some ⟨b,o,none⟩))) w:=bR (i:=0) Tryz.underlying158 rfl Wx (by decide) _
theorem Oy{k:IntKind}{hi:Int}(x:ByteArray)(w:aLW)(h0:0<=hi)(h1:hi<=x.size):(dG 9 (.string x) none (some (.int k hi)) none).run pg w= .ok (.value (.string (x.extract 0 hi.toNat))) w:=auR Tryz.underlying9 x h0 h1
theorem Z3 {b off:Nat}{cs:List aLX}{w:aLW}{v:aLX}{K:aLX->aLW->Prop}(ho:bD w b cs)(hv:one v=true)(h:off<cs.length)(hk:∀w',bD w' b (cs.set off v)->aL w w' (λx=>x=b)->w'.heap.size=w.heap.size->K undef w'):aA pg (aF 9 (.pointer (some ⟨b,off,none⟩)) v) w K:=gH Wx rfl ho hv h hk
theorem Np(x:Addr)(w:aLW):(aB 80 (.pointer (some x))).run pg w=ldC (w.cell? x) w (far pg 80 x w):=Nz Tryz.underlying80 rfl x w
theorem aHS:(pg).info? 80=some Tryz.t80:=by kernel_rfl
theorem aqZ{b off:Nat}{cs:List aLX}{w:aLW}{v:aLX}{K:aLX->aLW->Prop}(ho:bD w b cs)(hv:one v=true)(h:off<cs.length)(hk:∀w',bD w' b (cs.set off v)->aL w w' (λx=>x=b)->w'.heap.size=w.heap.size->K undef w'):aA pg (aF 80 (.pointer (some ⟨b,off,none⟩)) v) w K:=gH aHS rfl ho hv h hk
theorem Cx{k:IntKind}(a:Int)(w:aLW):(cJ 194 27 (.int k a)).run pg w= .ok (.value (.int .u32 (IntKind.u32.wrap a))) w:=D7 Tryz.underlying194 Tryz.underlying27
theorem kO(n0:Int)(n1:Int)(n2:Int)(n3:Int)(n4:Int)(n5:Int)(n6:Int)(n7:Int)(w:aLW):(bV 181 [(0,(.int .u32 n0)),(1,(.int .u32 n1)),(2,(.int .u32 n2)),(3,(.int .u32 n3)),(4,(.int .u32 n4)),(5,(.int .u32 n5)),(6,(.int .u32 n6)),(7,(.int .u32 n7))]).run pg w= .ok (.value (.agg #[(.int .u32 n0),(.int .u32 n1),(.int .u32 n2),(.int .u32 n3),(.int .u32 n4),(.int .u32 n5),(.int .u32 n6),(.int .u32 n7)])) w:=by kernel_rfl
theorem apY:(pg).info? 181=some Tryz.t181:=by kernel_rfl
theorem Ks{w:aLW}{K:aLX->aLW->Prop}(hk:∀w',bD w' w.heap.size [(.int .u32 0),(.int .u32 0),(.int .u32 0),(.int .u32 0),(.int .u32 0),(.int .u32 0),(.int .u32 0),(.int .u32 0)]->aL w w' aT->w'.heap.size=w.heap.size+1->K (.pointer (some ⟨w.heap.size,0,none⟩)) w'):aA pg (bE 181) w K:=iT (i:=Tryz.t181) apY rfl hk
theorem Dc{b off:Nat}{cs:List aLX}{w:aLW}{xs:Array aLX}{K:aLX->aLW->Prop}(ho:bD w b cs)(hs:xs.size=8)(hv:∀x∈xs.toList,one x=true)(h:off+8<=cs.length)(hk:∀w',bD w' b (eF cs off xs.toList)->aL w w' (λx=>x=b)->w'.heap.size=w.heap.size->K undef w'):aA pg (aF 181 (.pointer (some ⟨b,off,none⟩)) (.agg xs)) w K:=kA (v:= .agg xs) apY ho hs hv h hk
theorem Pk{b off:Nat}{cs:List aLX}{w:aLW}{xs:Array aLX}{K:aLX->aLW->Prop}(ho:bD w b cs)(hs:xs.size=64)(hv:∀x∈xs.toList,one x=true)(h:off+64<=cs.length)(hk:∀w',bD w' b (eF cs off xs.toList)->aL w w' (λx=>x=b)->w'.heap.size=w.heap.size->K undef w'):aA pg (aF 204 (.pointer (some ⟨b,off,none⟩)) (.agg xs)) w K:=kA (v:= .agg xs) ayC ho hs hv h hk
theorem Il{b off:Nat}{cs:List aLX}{w:aLW}(ho:bD w b cs)(h:off+8<=cs.length):(aB 181 (.pointer (some ⟨b,off,none⟩))).run pg w= .ok (.value (.agg ((cs.drop off).take 8).toArray)) w:=pB Tryz.underlying181 rfl apY ho h
theorem EF{k:IntKind}{a:Int}(b o:Nat)(w:aLW)(h0:0<=a)(h1:a<8):(aR 181 (.pointer (some ⟨b,o,none⟩)) (.int k a)).run pg w= .ok (.value (.pointer (some ⟨b,o+a.toNat,none⟩))) w:=Ml rfl Tryz.underlying181 Ra b o h0 (by simpa using h1)
theorem Bj(b o:Nat)(w:aLW):(aD 197 (.pointer (some ⟨b,o,none⟩)) 1).run pg w= .ok (.value (.pointer (some ⟨b,o+1,none⟩))) w:=bR (i:=1) Tryz.underlying197 rfl atE (by decide) _
theorem Bi(b o:Nat)(w:aLW):(aD 197 (.pointer (some ⟨b,o,none⟩)) 0).run pg w= .ok (.value (.pointer (some ⟨b,o,none⟩))) w:=bR (i:=0) Tryz.underlying197 rfl ahD (by decide) _
theorem I8 {k k':IntKind}{hi mx:Int}(a:Option Addr)(n c:Nat)(w:aLW)(h0:0<=hi)(h1:hi<=mx)(h2:mx<=c):(dG 22 (.slice a n c) none (some (.int k hi)) (some (.int k' mx))).run pg w= .ok (.value (.slice (dD a mx.toNat 0 1) (hi.toNat-0) (mx.toNat-0))) w:=ayN Tryz.underlying22 Ma a n c h0 h1 h2
theorem EC(n0:Int)(w:aLW):(bV 222 [(0,(.int .u32 n0))]).run pg w= .ok (.value (.agg #[(.int .u32 n0)])) w:=by kernel_rfl
theorem tX{ox oy:Operand}(x:Option Addr)(w:aLW):(aE .eql 201 ox oy (.pointer x) (.pointer none)).run pg w= .ok (.value (.bool x.isNone)) w:=Zv Tryz.underlying201 x
theorem uI(b o:Nat)(w:aLW):(aD 222 (.pointer (some ⟨b,o,none⟩)) 0).run pg w= .ok (.value (.pointer (some ⟨b,o,none⟩))) w:=bR (i:=0) Tryz.underlying222 rfl Ra (by decide) _
theorem wV{k:IntKind}{a:Int}(b o:Nat)(w:aLW)(h0:0<=a)(h1:a<16):(aR 223 (.pointer (some ⟨b,o,none⟩)) (.int k a)).run pg w= .ok (.value (.pointer (some ⟨b,o+a.toNat,none⟩))) w:=Ml rfl Tryz.underlying223 Ra b o h0 (by simpa using h1)
theorem acU{b off:Nat}{cs:List aLX}{w:aLW}(ho:bD w b cs)(h:off+64<=cs.length){K:aLX->Prop}(hk:K (.agg ((cs.drop off).take 64).toArray)):kD pg 204 (.pointer (some ⟨b,off,none⟩)) w K:=EL Tryz.underlying204 rfl ayC ho h hk
theorem aQ(n0:Int)(n1:Int)(n2:Int)(n3:Int)(n4:Int)(n5:Int)(n6:Int)(n7:Int)(n8:Int)(n9:Int)(n10:Int)(n11:Int)(n12:Int)(n13:Int)(n14:Int)(n15:Int)(n16:Int)(n17:Int)(n18:Int)(n19:Int)(n20:Int)(n21:Int)(n22:Int)(n23:Int)(n24:Int)(n25:Int)(n26:Int)(n27:Int)(n28:Int)(n29:Int)(n30:Int)(n31:Int)(n32:Int)(n33:Int)(n34:Int)(n35:Int)(n36:Int)(n37:Int)(n38:Int)(n39:Int)(n40:Int)(n41:Int)(n42:Int)(n43:Int)(n44:Int)(n45:Int)(n46:Int)(n47:Int)(n48:Int)(n49:Int)(n50:Int)(n51:Int)(n52:Int)(n53:Int)(n54:Int)(n55:Int)(n56:Int)(n57:Int)(n58:Int)(n59:Int)(n60:Int)(n61:Int)(n62:Int)(n63:Int)(w:aLW):(bV 204 [(0,(.int .u32 n0)),(1,(.int .u32 n1)),(2,(.int .u32 n2)),(3,(.int .u32 n3)),(4,(.int .u32 n4)),(5,(.int .u32 n5)),(6,(.int .u32 n6)),(7,(.int .u32 n7)),(8,(.int .u32 n8)),(9,(.int .u32 n9)),(10,(.int .u32 n10)),(11,(.int .u32 n11)),(12,(.int .u32 n12)),(13,(.int .u32 n13)),(14,(.int .u32 n14)),(15,(.int .u32 n15)),(16,(.int .u32 n16)),(17,(.int .u32 n17)),(18,(.int .u32 n18)),(19,(.int .u32 n19)),(20,(.int .u32 n20)),(21,(.int .u32 n21)),(22,(.int .u32 n22)),(23,(.int .u32 n23)),(24,(.int .u32 n24)),(25,(.int .u32 n25)),(26,(.int .u32 n26)),(27,(.int .u32 n27)),(28,(.int .u32 n28)),(29,(.int .u32 n29)),(30,(.int .u32 n30)),(31,(.int .u32 n31)),(32,(.int .u32 n32)),(33,(.int .u32 n33)),(34,(.int .u32 n34)),(35,(.int .u32 n35)),(36,(.int .u32 n36)),(37,(.int .u32 n37)),(38,(.int .u32 n38)),(39,(.int .u32 n39)),(40,(.int .u32 n40)),(41,(.int .u32 n41)),(42,(.int .u32 n42)),(43,(.int .u32 n43)),(44,(.int .u32 n44)),(45,(.int .u32 n45)),(46,(.int .u32 n46)),(47,(.int .u32 n47)),(48,(.int .u32 n48)),(49,(.int .u32 n49)),(50,(.int .u32 n50)),(51,(.int .u32 n51)),(52,(.int .u32 n52)),(53,(.int .u32 n53)),(54,(.int .u32 n54)),(55,(.int .u32 n55)),(56,(.int .u32 n56)),(57,(.int .u32 n57)),(58,(.int .u32 n58)),(59,(.int .u32 n59)),(60,(.int .u32 n60)),(61,(.int .u32 n61)),(62,(.int .u32 n62)),(63,(.int .u32 n63))]).run pg w= .ok (.value (.agg #[(.int .u32 n0),(.int .u32 n1),(.int .u32 n2),(.int .u32 n3),(.int .u32 n4),(.int .u32 n5),(.int .u32 n6),(.int .u32 n7),(.int .u32 n8),(.int .u32 n9),(.int .u32 n10),(.int .u32 n11),(.int .u32 n12),(.int .u32 n13),(.int .u32 n14),(.int .u32 n15),(.int .u32 n16),(.int .u32 n17),(.int .u32 n18),(.int .u32 n19),(.int .u32 n20),(.int .u32 n21),(.int .u32 n22),(.int .u32 n23),(.int .u32 n24),(.int .u32 n25),(.int .u32 n26),(.int .u32 n27),(.int .u32 n28),(.int .u32 n29),(.int .u32 n30),(.int .u32 n31),(.int .u32 n32),(.int .u32 n33),(.int .u32 n34),(.int .u32 n35),(.int .u32 n36),(.int .u32 n37),(.int .u32 n38),(.int .u32 n39),(.int .u32 n40),(.int .u32 n41),(.int .u32 n42),(.int .u32 n43),(.int .u32 n44),(.int .u32 n45),(.int .u32 n46),(.int .u32 n47),(.int .u32 n48),(.int .u32 n49),(.int .u32 n50),(.int .u32 n51),(.int .u32 n52),(.int .u32 n53),(.int .u32 n54),(.int .u32 n55),(.int .u32 n56),(.int .u32 n57),(.int .u32 n58),(.int .u32 n59),(.int .u32 n60),(.int .u32 n61),(.int .u32 n62),(.int .u32 n63)])) w:=by kernel_rfl
theorem ahL{b off:Nat}{cs:List aLX}{w:aLW}(ho:bD w b cs)(h:off+8<=cs.length){K:aLX->Prop}(hk:K (.agg ((cs.drop off).take 8).toArray)):kD pg 181 (.pointer (some ⟨b,off,none⟩)) w K:=EL Tryz.underlying181 rfl apY ho h hk
end Go.Proofs.YteelnmpbnaohpaaGreatDoor
namespace Go.En
open Go Go.ChangeShapes Go.WideShapes Go.ChangeAt Go.RowKit
theorem amS{H:Type}{enc:TypeId×aLX->H}{P:Program}(hl:laidOutB P=true){W W':aLW}(hb:Below W.heap.size W W'):∀(ts:List TypeId) (vs:List aLX) (ds:List (DataW H)) (ps:List MemPlace),
 (ts.all λt=>P.readableRec t&&decide (t<P.types.size))=true->DataW.TrodAll enc P W 0 (λ_=>true) true ts vs ds ps->(∀x∈ps,x.block<W.heap.size)→
 DataW.TrodAll enc P W' 0 (λb=>decide (b<W.heap.size)) true ts vs ds ps:=by
 intro ts
 induction ts with
 |nil=>
  intro vs ds ps _ h _
  cases vs<;>cases ds<;>simp[DataW.TrodAll]at h⊢
  exact h
 |cons t ts ih=>
  intro vs ds ps hr h hlt
  cases vs with
  |nil=>simp[DataW.TrodAll]at h
  |cons v vs=>
   cases ds with
   |nil=>simp[DataW.TrodAll]at h
   |cons d ds=>
    obtain⟨p,q,h1,h2,rfl⟩:=h
    rw[List.all_cons,aJM,aJM,decide_eq_true_eq]at hr
    exact⟨p,q,Below.trod hl hr.1.1 hr.1.2 h1 hb (λx hx=>hlt x (aK5 _ hx)),ih _ _ _ hr.2 h2 (λx hx=>hlt x (aLt _ hx)),rfl⟩
theorem aDj{H:Type}{enc:TypeId×aLX->H}{P:Program}{f:Func}{s:ChangeSpec}{apart fresh handsOn:Bool}{tb:TypeId}{W W':aLW}{args:Array aLX}{ds gs:List (DataW H)}{before:List MemPlace}
 (hl:laidOutB P=true) (hr:(f.params.toList.all λt=>P.readableRec t&&decide (t<P.types.size))=true) (hres:f.resultTypes= #[tb]) (hbool:P.underlying tb=some .bool)
 (hW:DataW.Whole enc P f.params.toList s.vars apart W args.toList ds gs before) (hvars:s.vars=[]) (h1:(s.fn H (ds++gs)).results=[.lit (.bool true)]) (h2:(s.fn H (ds++gs)).args=ds) (h3:(s.fn H (ds++gs)).vars=[])
 (hx:aL W W' aT):s.post enc P f apart fresh handsOn false W args (.bool true) W':=by
 have hb:=hx.below
 have hlt:∀x∈before,x.block<W.heap.size:=λx hx=>hW.lt x hx
 have hW':=hW
 obtain⟨p,q,hA,hV,rfl,_,_⟩:=hW
 rw[hvars]at hV
 obtain⟨_,rfl⟩:=trodVars_none hV
 rw[aKb]at hW' hlt
 refine⟨ds,gs,p,[],p,[],hW', ?_, ?_, ?_,hb.frame _,λh=>by cases h⟩
 .rw [h1,hres]
  exact trodAll_cons_mk (shut_bool hbool _) trodAll_mk0
 .rw [h2];exact amS hl hb _ _ _ _ hr hA hlt
 .rw [h3,hvars]<;>rfl
theorem aFx{H:Type}{enc:TypeId×aLX->H}{P:Program}{W:aLW}{base b0:Nat}{r:Reach}{sp:Nat->Bool}{hd:Bool}{t e:TypeId}{k:IntKind}{v:aLX}{d:DataW H}{ps:List MemPlace}(ht:P.underlying t=some (.slice e))(he:P.underlying e=some (.int k))(hc:P.cellsOf e=1)
 (hval:Value.okWide P W r b0 t v) (h:DataW.Trod enc P W base sp hd t v d ps):
 ∃zs:List Int,Sl W v (zs.map (Value.int k))/\zs.length<=9223372036854775807/\∀z∈zs,(Lit.int k z).wf=true:=by
 obtain⟨a0,len,cap,rfl⟩:=okWide_slice ht hval
 obtain⟨fuel,hf⟩:=h
 rcases open_ints ht he hc hf with⟨hcs,-⟩|⟨a,len',cap',zs,hcs,_,hl,hm,hz,-,hcell,hwz⟩
 .have:Value.slice a0 len cap= .slice none 0 0:=by simpa[Value.cells]using hcs
  cases this
  exact⟨[],⟨none,0,0,rfl,rfl,aJK _,λh=>absurd h (by simp)⟩,by simp,by simp⟩
 .have:Value.slice a0 len cap= .slice (some a) len' cap':=by simpa[Value.cells]using hcs
  cases this
  unfold maxLen at hm
  have hle:len<=zs.length:=by rw[hz];split<;>omega
  refine⟨zs.take len,⟨some a,len,cap,rfl,by rw[aJy,aJL];omega,hl,λh0=> ?_⟩,by rw[aJL];omega,λz hz=>hwz z (aLj hz)⟩
  obtain⟨b,off,spot⟩:=a
  have hs:spot=none:=by
   have h0:=hcell 0 (by omega)
   unfold World.cell? at h0
   split at h0
   .cases spot
    .rfl
    .simp [Addr.add]at h0
   .cases h0
  subst hs
  refine⟨b,off,rfl,λi hi=> ?_⟩
  rw[<-Cj,hcell i (by omega),aJ0,aKz hi,aJH,aJA (by omega)]
  rfl
theorem awL(zs:List Int)(h:∀z∈zs,(Lit.int .u8 z).wf=true):∃l:List UInt8,zs.map (Value.int .u8)=l.map gO/\l.length=zs.length:=by
 refine⟨zs.map λz=>UInt8.ofNat z.toNat, ?_,by simp⟩
 rw[List.map_map]
 refine aKF λz hz=> ?_
 have:=h z hz
 have hx:0<=z/\z<=255:=by simpa[Lit.wf,IntKind.min,IntKind.max,IntKind.signed,IntKind.bits]using this
 show _=gO (UInt8.ofNat z.toNat)
 unfold gO
 rw[aKT]
 congr 1
 omega
end Go.En
namespace Go.Proofs.YteelnmpbnaohpaaGreatDoor
open Go Go.En
attribute[seval] aA aO aI fS O2 Xb Xd aiA ahZ aDT Uv auP O1 RP Mm fD aAE vU Dr aDS auM Xc jH auO aDR anU x20 x21 x30 x31 x32 bL Result.ok.injEq Next.value.injEq true_and and_true dI hU Kp aCf aJE uT Rc wY pP gS jS aoW afU cN bH if_true if_false aJI aJC aKL aK3 aKU aKD aJF aJz mI GY KD oC oA lI Fl nQ uU Bq Nq jA jM ED lV iR BS gT Ar rJ wL uO pI sV Ik sY YT sX sW G0 rE pN rB rF cU AO CD kZ iS nW gE DZ nY Vp mW nX tA GZ H7 lY qT iA KE mA mB nT lX lZ As mS D5 mM KV zR zQ zZ zT uR sU DX DV DW zS CB KT wT Br mH uP nS nR mD pM pO rG qY fH fB pL mQ nV rA qX Bl wZ xA mU tB nZ mR D6 Cz wW CC Cy CA nO Bm wM KJ tG tE zX qJ Az Ow lU BR pK cX cV dA mV wX pJ cO sT sS wS qR C4 qS nU AJ Cq zY uN AK yY lH KA F8 F7 DU KH Eo KI yZ F6 Vm mC JT nA nB LM A6 xH Cp xI Bk EG gG oI uC uB sZ Np Cx kO EF Bj Bi I8 EC tX uI wV aQ
end Go.Proofs.YteelnmpbnaohpaaGreatDoor
namespace Go.Pu
section
variable{κ β:Type}[DecidableEq κ]
def bF(k:κ):List (κ×β)->Option β
 |[]=>none
 |p::r=>if k=p.1 then some p.2 else bF k r
def lP(k:κ)(v:β):List (κ×β)->List (κ×β)
 |[]=>[(k,v)]
 |p::r=>if k=p.1 then(k,v)::r else p::lP k v r
def wU(k:κ):List (κ×β)->List (κ×β)
 |[]=>[]
 |p::r=>if k=p.1 then r else p::wU k r
theorem L6 (k j:κ)(v:β):∀l:List (κ×β),bF j (lP k v l)=if j=k then some v else bF j l:=by
 intro l
 induction l with
 |nil=>simp only[lP,bF]
 |cons p r ih=>
  simp only[lP]
  by_cases h:k=p.1
  .rw [if_pos h]
   simp only[bF]
   by_cases hj:j=k
   .rw [if_pos hj,if_pos hj]
   .rw [if_neg hj,if_neg hj,if_neg (λe=>hj (e.trans h.symm))]
  .rw [if_neg h]
   simp only[bF,ih]
   by_cases hj:j=p.1
   .rw [if_pos hj,if_pos hj,if_neg (λe=>h (e.symm.trans hj))]
   .rw [if_neg hj,if_neg hj]
theorem Y9 {k:κ}:∀{l:List (κ×β)},k∉l.map (·.1)->bF k l=none
 |[],_=>rfl
 |p::r,h=>by
  rw[aJQ,aJG,not_or]at h
  rw[bF,if_neg h.1,Y9 h.2]
theorem Q7 {k j:κ}:∀{l:List (κ×β)},(l.map (·.1)).Nodup->bF j (wU k l)=if j=k then none else bF j l
 |[],_=>by simp[wU,bF]
 |p::r,h=>by
  rw[aJQ,aKY]at h
  simp only[wU]
  by_cases hk:k=p.1
  .rw [if_pos hk]
   simp only[bF]
   by_cases hj:j=k
   .rw [if_pos hj,hj,hk,Y9 h.1]
   .rw [if_neg hj,if_neg (λe=>hj (e.trans hk.symm))]
  .rw [if_neg hk]
   simp only[bF,Q7 h.2]
   by_cases hj:j=p.1
   .rw [if_pos hj,if_pos hj,if_neg (λe=>hk (e.symm.trans hj))]
   .rw [if_neg hj,if_neg hj]
theorem anI{k:κ}{v:β}{x:κ}:∀{l:List (κ×β)},x∈(lP k v l).map (·.1)->x=k∨x∈l.map (·.1)
 |[],h=>by simp[lP]at h;exact .inl h
 |p::r,h=>by
  simp only[lP]at h
  split at h
  .rename_i e
   rw[aJQ,aJG]at h
   rcases h with h|h
   .exact .inl h
   .exact .inr (by rw[aJQ];exact aJP _ h)
  .rw [aJQ,aJG]at h
   rcases h with h|h
   .exact .inr (by rw[aJQ,h];exact aJ3)
   .rcases anI h with h|h
    .exact .inl h
    .exact .inr (by rw[aJQ];exact aJP _ h)
theorem tD{k:κ}{v:β}:∀{l:List (κ×β)},(l.map (·.1)).Nodup->((lP k v l).map (·.1)).Nodup
 |[],_=>by simp[lP]
 |p::r,h=>by
  rw[aJQ,aKY]at h
  simp only[lP]
  split
  .rename_i e
   rw[aJQ,aKY]
   exact⟨λhm=>h.1 (e▸hm),h.2⟩
  .rename_i e
   rw[aJQ,aKY]
   refine⟨λhm=> ?_,tD h.2⟩
   rcases anI hm with h1|h1
   .exact e h1.symm
   .exact h.1 h1
theorem atA{k:κ}:∀l:List (κ×β),(wU k l).Sublist l
 |[]=>List.Sublist.slnil
 |p::r=>by
  simp only[wU]
  split
  .exact List.sublist_cons_self _ _
  .exact (atA r).cons_cons _
theorem H6 {k:κ}{l:List (κ×β)}(h:(l.map (·.1)).Nodup):((wU k l).map (·.1)).Nodup:=h.sublist ((atA l).map _)
end
abbrev cI:=List (ByteArray×List UInt8)
def bN(c:cI):Nat:=(c.map λp=>p.2.length).sum
theorem qW(k:ByteArray)(b:List UInt8):∀c:cI,bN (lP k b c)+((bF k c).getD []).length=bN c+b.length
 |[]=>by simp[lP,bF,bN]
 |p::r=>by
  have ih:=qW k b r
  simp only[lP,bF]
  split
  .simp [bN];omega
  .unfold bN at*
   rw[aJQ,aJQ,aLg,aLg];omega
theorem Hw(k:ByteArray):∀c:cI,bN (wU k c)+((bF k c).getD []).length=bN c
 |[]=>by simp[wU,bF,bN]
 |p::r=>by
  have ih:=Hw k r
  simp only[wU,bF]
  split
  .simp [bN];omega
  .unfold bN at*
   rw[aJQ,aJQ,aLg,aLg];omega
theorem asZ{c:cI}{j:Nat}(h:j<c.length):bN (c.eraseIdx j)+c[j].2.length=bN c:=by
 induction c generalizing j with
 |nil=>simp at h
 |cons p r ih=>
  cases j with
  |zero=>simp[bN];omega
  |succ j=>
   have:=ih (j:=j) (by simpa using h)
   unfold bN at*
   rw[aKM,aJQ,aJQ,aLg,aLg,List.getElem_cons_succ];omega
theorem qV{k:ByteArray}{c:cI}:((bF k c).getD []).length<=bN c:=by have:=Hw k c;omega
structure LH where
 kind:Nat
 name:ByteArray
 other:ByteArray
 at':Nat
 bytes:List UInt8
def over(old:List UInt8)(a:Nat)(b:List UInt8):List UInt8:=(old++List.replicate (max old.length (a+b.length)-old.length) 0).take a++b++(old++List.replicate (max old.length (a+b.length)-old.length) 0).drop (a+b.length)
theorem xG(old:List UInt8)(a:Nat)(b:List UInt8):(over old a b).length=max old.length (a+b.length):=by
 unfold over
 simp only[aJB,aJL,aJO,aJ5];omega
def TL(o:LH)(c:cI):cI:=
 if o.kind=0 then lP o.name (over ((bF o.name c).getD []) o.at' o.bytes) c
 else if o.kind=1 then match bF o.name c with
  |none=>c
  |some old=>lP o.other old (wU o.name c)
 else if o.kind=2 then wU o.name c else c
end Go.Pu
namespace Go.En
open Go Go.Pu
theorem aGO{v:aLX}{P Q:Nat->Prop}(h:fI v λb=>P b∨Q b):fI v P∨fI v Q:=by
 unfold fI at*
 split
 .exact h
 .rename_i hne
  split at h
  .exact absurd rfl (hne _ _ _)
  .exact h.elim
def Jw(w:aLW)(X:Nat->Prop)(v:aLX)(b:List UInt8):Prop:=Bs w v b/\¬fI v X
theorem Jw.ext {w w':aLW}{X M:Nat->Prop}{v:aLX}{b:List UInt8}(h:Jw w X v b)(x:aL w w' M)(hM:∀b,M b->X b):Jw w' X v b:=⟨h.1.ext x λh'=>h.2 (bO h' hM),h.2⟩
theorem Jw.sub {w:aLW}{X Y:Nat->Prop}{v:aLX}{b:List UInt8}(h:Jw w X v b)(hY:∀b,Y b->X b∨w.heap.size<=b):Jw w Y v b:=
 ⟨h.1,λh'=>by
   rcases aGO (bO h' hY)with h'|h'
   .exact h.2 h'
   .exact h.1.old h'⟩
def Fc(w:aLW)(X:Nat->Prop):List (ByteArray×aLX)->cI->Prop
 |[],[]=>True
 |p::l,q::c=>p.1=q.1/\Jw w X p.2 q.2/\Fc w X l c
 |_,_=>False
theorem Fc.map {w w':aLW}{X Y:Nat->Prop}(hd:∀v b,Jw w X v b->Jw w' Y v b):∀{l:List (ByteArray×aLX)} {c:cI},Fc w X l c->Fc w' Y l c
 |[],[],_=>trivial
 |p::l,q::c,h=>⟨h.1,hd _ _ h.2.1,Fc.map hd h.2.2⟩
theorem Fc.ext {w w':aLW}{X M:Nat->Prop}{l:List (ByteArray×aLX)}{c:cI}(h:Fc w X l c)(x:aL w w' M)(hM:∀b,M b->X b):Fc w' X l c:=h.map λ_ _ h=>h.ext x hM
theorem Fc.sub {w:aLW}{X Y:Nat->Prop}{l:List (ByteArray×aLX)}{c:cI}(h:Fc w X l c)(hY:∀b,Y b->X b∨w.heap.size<=b):Fc w Y l c:=h.map λ_ _ h=>h.sub hY
theorem Fc.get {w:aLW}{X:Nat->Prop}(k:ByteArray):∀{l:List (ByteArray×aLX)} {c:cI},Fc w X l c->(OI k l=none/\bF k c=none)∨∃v b,OI k l=some v/\bF k c=some b/\Jw w X v b
 |[],[],_=> .inl ⟨rfl,rfl⟩
 |p::l,q::c,h=>by
  obtain⟨h1,h2,h3⟩:=h
  simp only[OI,bF,<-h1]
  by_cases hk:k=p.1
  .rw [if_pos hk,if_pos hk];exact .inr ⟨_,_,rfl,rfl,h2⟩
  .rw [if_neg hk,if_neg hk];exact Fc.get k h3
theorem Fc.set {w:aLW}{X:Nat->Prop}{k:ByteArray}{v:aLX}{b:List UInt8}(hd:Jw w X v b):∀{l:List (ByteArray×aLX)} {c:cI},Fc w X l c->Fc w X (upd k v l) (lP k b c)
 |[],[],_=>⟨rfl,hd,trivial⟩
 |p::l,q::c,h=>by
  obtain⟨h1,h2,h3⟩:=h
  simp only[upd,lP,<-h1]
  by_cases hk:k=p.1
  .rw [if_pos hk,if_pos hk];exact⟨rfl,hd,h3⟩
  .rw [if_neg hk,if_neg hk];exact⟨h1,h2,Fc.set hd h3⟩
theorem Fc.del {w:aLW}{X:Nat->Prop}{k:ByteArray}:∀{l:List (ByteArray×aLX)} {c:cI},Fc w X l c->Fc w X (del k l) (wU k c)
 |[],[],_=>trivial
 |p::l,q::c,h=>by
  obtain⟨h1,h2,h3⟩:=h
  simp only[Go.En.del,wU,<-h1]
  by_cases hk:k=p.1
  .rw [if_pos hk,if_pos hk];exact h3
  .rw [if_neg hk,if_neg hk];exact⟨h1,h2,Fc.del h3⟩
theorem Fc.len {w:aLW}{X:Nat->Prop}:∀{l:List (ByteArray×aLX)} {c:cI},Fc w X l c->l.length=c.length
 |[],[],_=>rfl
 |p::l,q::c,h=>by rw[aJT,aJT,Fc.len h.2.2]
theorem Fc.at {w:aLW}{X:Nat->Prop}:∀{l:List (ByteArray×aLX)} {c:cI} {j:Nat} (h:Fc w X l c) (h1:j<l.length) (h2:j<c.length),l[j].1=c[j].1/\Jw w X l[j].2 c[j].2
 |[],[],j,_,h1,_=>by simp at h1
 |p::l,q::c,0,h,_,_=>⟨h.1,h.2.1⟩
 |p::l,q::c,j+1,h,h1,h2=>Fc.at h.2.2 (by simpa using h1) (by simpa using h2)
theorem Fc.erase {w:aLW}{X:Nat->Prop}:∀{l:List (ByteArray×aLX)} {c:cI} (j:Nat) (h:Fc w X l c),Fc w X (l.eraseIdx j) (c.eraseIdx j)
 |[],[],j,_=>by simp[Fc]
 |p::l,q::c,0,h=>h.2.2
 |p::l,q::c,j+1,h=>by
  rw[aKM,aKM]
  exact⟨h.1,h.2.1,Fc.erase j h.2.2⟩
theorem Fc.keys {w:aLW}{X:Nat->Prop}:∀{l:List (ByteArray×aLX)} {c:cI},Fc w X l c->l.map (·.1)=c.map (·.1)
 |[],[],_=>rfl
 |p::l,q::c,h=>by rw[aJQ,aJQ,h.1,Fc.keys h.2.2]
end Go.En
namespace Go.En
open Go
theorem Di.ext {w w':aLW}{S M:Nat->Prop}{sz n:Nat}{v:aLX}{l:List aLX}(h:Di w S sz v n l)(hx:aL w w' M)(hM:∀b,S b->¬M b):Di w' S sz v n l:=by
 refine⟨h.1, ?_⟩
 rcases h.2 with h2|⟨b,c,rest,h1,h2,h3,h4,h5⟩
 .exact .inl h2
 .exact .inr ⟨b,c,rest,h1,h2,h3.ext hx (hM b h2),h4,h5⟩
theorem kW.ne {w:aLW}{base p sz n:Nat}{v:aLX}{l:List aLX}(h:kW w base sz v n l)(hp:w.heap.size<=p):Di w (λb=>base<=b/\b≠p) sz v n l:=by
 refine⟨h.1, ?_⟩
 rcases h.2 with h2|⟨b,c,rest,h1,h2,h3,h4,h5⟩
 .exact .inl h2
 .have:=h3.lt
  exact .inr ⟨b,c,rest,h1,⟨h2,by omega⟩,h3,h4,h5⟩
theorem Di.len {w:aLW}{S:Nat->Prop}{sz n:Nat}{v:aLX}{l:List aLX}(h:Di w S sz v n l):∃a c,v= .slice a n c:=by
 rcases h.2 with⟨h1,rfl⟩|⟨b,c,rest,h1,_⟩
 .exact ⟨_,_,h1⟩
 .exact ⟨_,_,h1⟩
end Go.En
namespace Go.En
open Go Go.Pu
def YI(o:LH)(v:aLX):List aLX:=[.int .i64 o.kind,.string o.name,.string o.other,.int .i64 o.at',v]
def OpR(w:aLW)(X:Nat->Prop):List aLX->List LH->Prop
 |cs,[]=>cs=[]
 |cs,o::os=>∃v cs',(∃x n k,v= .slice x n k)/\cs=YI o v++cs'/\Jw w X v o.bytes/\OpR w X cs' os
theorem OpR.nil (w:aLW)(X:Nat->Prop):OpR w X [] []:=rfl
theorem OpR.map {w w':aLW}{X Y:Nat->Prop}(hd:∀v b,Jw w X v b->Jw w' Y v b):∀{os:List LH} {cs:List aLX},OpR w X cs os->OpR w' Y cs os
 |[],cs,h=>h
 |o::os,cs,⟨v,cs',h1,h2,h3,h4⟩=>⟨v,cs',h1,h2,hd _ _ h3,OpR.map hd h4⟩
theorem OpR.ext {w w':aLW}{X M:Nat->Prop}{os:List LH}{cs:List aLX}(h:OpR w X cs os)(x:aL w w' M)(hM:∀b,M b->X b):OpR w' X cs os:=h.map λ_ _ h=>h.ext x hM
theorem OpR.sub {w:aLW}{X Y:Nat->Prop}{os:List LH}{cs:List aLX}(h:OpR w X cs os)(hY:∀b,Y b->X b∨w.heap.size<=b):OpR w Y cs os:=h.map λ_ _ h=>h.sub hY
theorem OpR.len {w:aLW}{X:Nat->Prop}:∀{os:List LH} {cs:List aLX},OpR w X cs os->cs.length=os.length*5
 |[],cs,h=>by rw[show cs=[]from h]<;>rfl
 |o::os,cs,⟨v,cs',h1,h2,h3,h4⟩=>by rw[h2,aJB,OpR.len h4,aJT];show 5+_=_;omega
theorem OpR.snoc {w:aLW}{X:Nat->Prop}{o:LH}{v:aLX}(hv:∃x n k,v= .slice x n k)(hd:Jw w X v o.bytes):∀{os:List LH} {cs:List aLX},OpR w X cs os->OpR w X (cs++YI o v) (os++[o])
 |[],cs,h=>⟨v,[],hv,by rw[show cs=[]from h,aJX,aKb],hd,rfl⟩
 |o'::os,cs,⟨v',cs',h1,h2,h3,h4⟩=>⟨v',cs'++YI o v,h1,by rw[h2,aJS],h3,OpR.snoc hv hd h4⟩
theorem OpR.at {w:aLW}{X:Nat->Prop}:∀{os:List LH} {cs:List aLX} {i:Nat} (h:OpR w X cs os) (hi:i<os.length),∃v,(∃x n k,v= .slice x n k)/\(cs.drop (i*5)).take 5=YI os[i] v/\Jw w X v os[i].bytes
 |[],cs,i,_,hi=>by simp at hi
 |o::os,cs,0,⟨v,cs',h1,h2,h3,h4⟩,_=>⟨v,h1,by rw[h2]<;>rfl,h3⟩
 |o::os,cs,i+1,⟨v,cs',h1,h2,h3,h4⟩,hi=>by
  obtain⟨v',q1,q2,q3⟩:=OpR.at h4 (i:=i) (by simpa using hi)
  refine⟨v',q1, ?_,q3⟩
  rw[show(i+1)*5=5+i*5 from by omega,<-aLb,h2]
  exact q2
structure cF where
 room:Int
 sure:cI
 seen:cI
 under:List LH
 left:Int
 down:Bool
abbrev Q6:ByteArray->aLX:=λs=> .string s
def fQ(w:aLW)(p:Nat)(X D:Nat->Prop)(S:cF):Prop:=
 ∃(ms mn:Nat) (sv:aLX) (ls ln:List (ByteArray×aLX)) (cs:List aLX),X p/\X ms/\X mn/\p≠ms/\p≠mn/\ms≠mn/\(∀b,X b->D b)/\(∀b,D b->b<w.heap.size)/\
  bD w p [.int .i64 S.room,.map (some ms),.map (some mn),sv,.int .i64 S.left,.bool S.down]/\Mp w ms Q6 ls/\Mp w mn Q6 ln/\Fc w D ls S.sure/\Fc w D ln S.seen/\
  Di w (λb=>X b/\b≠p/\b≠ms/\b≠mn) 5 sv S.under.length cs/\OpR w D cs S.under
theorem fQ.ext {w w':aLW}{p:Nat}{X D M:Nat->Prop}{S:cF}(h:fQ w p X D S)(x:aL w w' M)(hM:∀b,M b->D b/\¬X b):fQ w' p X D S:=by
 obtain⟨ms,mn,sv,ls,ln,cs,h1,h2,h3,h4,h5,h6,h7,h7',h8,h9,h10,h11,h12,h13,h14⟩:=h
 have hx:∀{b},X b->¬M b:=λhb hm=>(hM _ hm).2 hb
 have hd:∀v b,Jw w D v b->Jw w' D v b:=λ_ _ hd=>hd.ext x λb h=>(hM b h).1
 exact⟨ms,mn,sv,ls,ln,cs,h1,h2,h3,h4,h5,h6,h7,λb hb=>aKa (h7' b hb) x.size,h8.ext x (hx h1),h9.ext x (hx h2),h10.ext x (hx h3),h11.map hd,h12.map hd,h13.ext x (λb hb=>hx hb.1),h14.map hd⟩
theorem fQ.new {w w':aLW}{p:Nat}{X D:Nat->Prop}{S:cF}(h:fQ w p X D S)(x:aL w w' aT):fQ w' p X D S:=h.ext x λ_ h=>h.elim
theorem fQ.more {w w':aLW}{p q:Nat}{X D:Nat->Prop}{S:cF}(h:fQ w p X D S)(x:aL w w' aT)(hq:w.heap.size<=q)(hq':q<w'.heap.size):fQ w' p X (λb=>D b∨b=q) S:=by
 obtain⟨ms,mn,sv,ls,ln,cs,h1,h2,h3,h4,h5,h6,h7,h7',h8,h9,h10,h11,h12,h13,h14⟩:=h
 have hd:∀v b,Jw w D v b->Jw w' (λb=>D b∨b=q) v b:=λv b hd=>(hd.sub (Y:=λb=>D b∨b=q) λb h=>by
  rcases h with h|h
  .exact .inl h
  .exact .inr (by omega)).ext x λ_ h=>h.elim
 have z:=x.size
 exact⟨ms,mn,sv,ls,ln,cs,h1,h2,h3,h4,h5,h6,λb h=> .inl (h7 b h),λb hb=>by
  rcases hb with hb|hb
  .have:=h7' b hb;omega
  .omega,h8.ext x (λh=>h),h9.ext x (λh=>h),h10.ext x (λh=>h),h11.map hd,h12.map hd,h13.ext x (λb _ h=>h),h14.map hd⟩
end Go.En
namespace Go.Pu
open Go
def RG(x y:ByteArray):Bool:=Op.bytesLess x.toList y.toList
theorem aCF:∀x:List UInt8,Op.bytesLess x x=false
 |[]=>rfl
 |a::x=>by
  unfold Op.bytesLess
  rw[aCF x]
  simp
theorem aCG:∀x y:List UInt8,x≠y->Op.bytesLess x y=false->Op.bytesLess y x=true
 |[],[],h,_=>absurd rfl h
 |[],b::y,_,h=>by simp[Op.bytesLess]at h
 |a::x,[],_,_=>by simp[Op.bytesLess]
 |a::x,b::y,h,h2=>by
  unfold Op.bytesLess at h2⊢
  by_cases e:a=b
  .subst e
   have hxy:x≠y:=λe=>h (by rw[e])
   simp at h2⊢
   exact aCG x y hxy h2
  .simp [e]at h2
   have h3:¬a.toNat<b.toNat:=λhh=>by
    have:a<b:=aLP.2 hh
    exact absurd this (by simpa using h2)
   have h4:a.toNat≠b.toNat:=λhh=>e (UInt8.toNat_inj.1 hh)
   have:b<a:=aLP.2 (by omega)
   simp[this]
theorem asC:∀x y z:List UInt8,Op.bytesLess x y=true->Op.bytesLess y z=true->Op.bytesLess x z=true
 |_,[],_,h,_=>by simp[Op.bytesLess]at h
 |_,_::_,[],_,h=>by simp[Op.bytesLess]at h
 |[],_::_,_::_,_,_=>by simp[Op.bytesLess]
 |a::x,b::y,c::z,h1,h2=>by
  unfold Op.bytesLess at h1 h2⊢
  rw[aKq,aJM,decide_eq_true_eq,beq_iff_eq]at h1 h2⊢
  rcases h1 with h1|⟨rfl,h1⟩
  .rcases h2 with h2|⟨rfl,h2⟩
   .left
    rw[aLP]at*
    omega
   .exact .inl h1
  .rcases h2 with h2|⟨rfl,h2⟩
   .exact .inl h2
   .exact .inr ⟨rfl,asC x y z h1 h2⟩
theorem WO(x:ByteArray):RG x x=false:=aCF _
theorem aAt{x y:ByteArray}(h:x≠y)(h2:RG x y=false):RG y x=true:=by
 refine aCG _ _ (λe=>h ?_) h2
 rw[ByteArray.toList_eq,ByteArray.toList_eq]at e
 cases x;cases y
 simp at e
 rw[e]
theorem Zo{x y z:ByteArray}(h:RG x y=true)(h2:RG y z=true):RG x z=true:=asC _ _ _ h h2
def Srt(l:cI):Prop:=l.Pairwise λp q=>RG p.1 q.1=true
theorem Srt.nodup {l:cI}(h:Srt l):(l.map (·.1)).Nodup:=by
 rw[List.Nodup,List.pairwise_map]
 exact h.imp λhh e=>by rw[e,WO]at hh;cases hh
def MY(n:ByteArray)(l:cI):cI:=l.filter λp=>decide (p.1≠n)
def rwi(n:ByteArray)(b:List UInt8)(l:cI):cI:=(MY n l).takeWhile (λp=>RG p.1 n)++(n,b)::(MY n l).dropWhile (λp=>RG p.1 n)
theorem Q9 {n j:ByteArray}:∀{l:cI},bF j (MY n l)=if j=n then none else bF j l
 |[]=>by simp[MY,bF]
 |p::r=>by
  have ih:=Q9 (n:=n) (j:=j) (l:=r)
  unfold MY at ih⊢
  rw[List.filter_cons]
  by_cases h:p.1=n
  .have:decide (p.1≠n)=false:=by simp[h]
   rw[this,if_neg (by decide),ih]
   simp only[bF]
   by_cases hj:j=n
   .rw [if_pos hj,if_pos hj]
   .rw [if_neg hj,if_neg hj,if_neg (λe=>hj (e.trans h))]
  .have:decide (p.1≠n)=true:=by simp[h]
   rw[this,if_pos rfl]
   simp only[bF,ih]
   by_cases hj:j=p.1
   .rw [if_pos hj,if_pos hj,if_neg (λe=>h (hj.symm.trans e))]
   .rw [if_neg hj,if_neg hj]
theorem J1 {j:ByteArray}:∀{a b:cI},bF j (a++b)=(bF j a).or (bF j b)
 |[],b=>by simp[bF]
 |p::r,b=>by
  rw[aLa]
  simp only[bF]
  by_cases h:j=p.1
  .rw [if_pos h,if_pos h]<;>rfl
  .rw [if_neg h,if_neg h,J1]
theorem Wu{n j:ByteArray}{b:List UInt8}{l:cI}:bF j (rwi n b l)=if j=n then some b else bF j l:=by
 have h1:=Q9 (n:=n) (j:=j) (l:=l)
 have h2:MY n l=(MY n l).takeWhile (λp=>RG p.1 n)++(MY n l).dropWhile (λp=>RG p.1 n):=List.takeWhile_append_dropWhile.symm
 unfold rwi
 rw[J1]
 by_cases h:j=n
 .rw [if_pos h]at h1⊢
  rw[h2,J1]at h1
  have:bF j ((MY n l).takeWhile λp=>RG p.1 n)=none:=by
   cases hq:bF j ((MY n l).takeWhile λp=>RG p.1 n)with
   |none=>rfl
   |some v=>rw[hq]at h1;cases h1
  rw[this,Option.none_or]
  simp only[bF]
  rw[if_pos h]
 .rw [if_neg h]at h1⊢
  simp only[bF]
  rw[if_neg h,<-J1,<-h2,h1]
theorem aAP{n:ByteArray}{l:cI}(h:Srt l):Srt (MY n l):=List.Pairwise.filter _ h
theorem atW{α:Type}{p:α->Bool}:∀{l:List α} {x:α},x∈l.takeWhile p->p x=true
 |[],x,h=>by simp at h
 |a::l,x,h=>by
  rw[List.takeWhile_cons]at h
  split at h
  .rename_i ha
   rcases aJG.1 h with h|h
   .rw [h];exact ha
   .exact atW h
  .cases h
theorem anB{α:Type}{p:α->Bool}:∀{l:List α} {x:α} {r:List α},l.dropWhile p=x::r->p x=false
 |[],x,r,h=>by simp at h
 |a::l,x,r,h=>by
  rw[List.dropWhile_cons]at h
  split at h
  .exact anB h
  .rename_i ha
   cases h
   simpa using ha
theorem aAN{n:ByteArray}{b:List UInt8}{l:cI}(h:Srt l):Srt (rwi n b l):=by
 have h1:Srt (MY n l):=aAP h
 have h2:MY n l=(MY n l).takeWhile (λp=>RG p.1 n)++(MY n l).dropWhile (λp=>RG p.1 n):=List.takeWhile_append_dropWhile.symm
 have hne:∀p∈MY n l,p.1≠n:=λp hp=>by
  have:=(aLR.1 hp).2
  simpa using this
 unfold Srt at h1
 rw[h2,aKV]at h1
 obtain⟨ha,hb,hab⟩:=h1
 have hd:∀q∈(MY n l).dropWhile (λp=>RG p.1 n),RG n q.1=true:=by
  intro q hq
  cases hc:(MY n l).dropWhile (λp=>RG p.1 n)with
  |nil=>rw[hc]at hq;cases hq
  |cons x r=>
   have hx:=anB hc
   have hxm:x∈MY n l:=by rw[h2,hc];exact aKc.2 (.inr aJ3)
   have hnx:RG n x.1=true:=aAt (hne x hxm) hx
   rw[hc]at hq hb
   rcases aJG.1 hq with hq|hq
   .rw [hq];exact hnx
   .exact Zo hnx ((aKS.1 hb).1 q hq)
 unfold Srt rwi
 rw[aKV]
 refine⟨ha,aKS.2 ⟨hd,hb⟩,λp hp q hq=> ?_⟩
 rcases aJG.1 hq with hq|hq
 .rw [hq];exact atW (p:=λp:ByteArray×List UInt8=>RG p.1 n) hp
 .exact hab p hp q hq
structure Sim(c l:cI):Prop where
 nd:(c.map (·.1)).Nodup
 st:Srt l
 eq:∀n,bF n c=bF n l
theorem Sim.nil:Sim [] []:=⟨List.nodup_nil,List.Pairwise.nil,λ_=>rfl⟩
theorem Sim.both:∀{l c:cI},Sim c l->bN c=bN l/\c.length=l.length
 |[],c,h=>by
  cases c with
  |nil=>exact⟨rfl,rfl⟩
  |cons p r=>
   have:=h.eq p.1
   simp only[bF,if_true]at this
   cases this
 |p::l,c,h=>by
  have hp:bF p.1 c=some p.2:=by rw[h.eq];simp only[bF,if_true]
  have hst:=aKS.1 h.st
  have h1:Sim (wU p.1 c) l:=by
   refine⟨H6 h.nd,hst.2,λn=> ?_⟩
   rw[Q7 h.nd,h.eq]
   by_cases hn:n=p.1
   .rw [if_pos hn,hn]
    refine(Y9 λhm=> ?_).symm
    obtain⟨q,hq,e⟩:=aKm.1 hm
    have:=hst.1 q hq
    rw[e,WO]at this
    cases this
   .rw [if_neg hn]
    simp only[bF]
    rw[if_neg hn]
  obtain⟨h2,h3⟩:=h1.both
  have h4:=Hw p.1 c
  rw[hp,aKA]at h4
  have h5:c.length=(wU p.1 c).length+1:=by
   have:∀{c:cI} {k:ByteArray} {v},bF k c=some v->c.length=(wU k c).length+1:=by
    intro c
    induction c with
    |nil=>intro k v hh;cases hh
    |cons q r ih=>
     intro k v hh
     simp only[bF,wU]at hh⊢
     by_cases hk:k=q.1
     .rw [if_pos hk]<;>rfl
     .rw [if_neg hk]at hh⊢
      rw[aJT,aJT,ih hh]
   exact this hp
  refine⟨?_,by rw[h5,h3]<;>rfl⟩
  show _=((p::l).map λp=>p.2.length).sum
  rw[aJQ,aLg]
  have:bN l=(l.map λp=>p.2.length).sum:=rfl
  omega
def rdo(o:LH)(l:cI):cI:=
 if o.kind=0 then rwi o.name (over ((bF o.name l).getD []) o.at' o.bytes) l
 else match bF o.name l with
  |none=>l
  |some old=>if o.kind=1 then rwi o.other old (MY o.name l)else MY o.name l
theorem Sim.do {c l:cI}{o:LH}(h:Sim c l)(ho:o.kind<=2):Sim (TL o c) (rdo o l):=by
 have hdel:Sim (wU o.name c) (MY o.name l):=⟨H6 h.nd,aAP h.st,λn=>by rw[Q7 h.nd,Q9,h.eq]⟩
 unfold TL rdo
 split
 .refine ⟨tD h.nd,aAN h.st,λn=> ?_⟩
  rw[L6,Wu,h.eq,h.eq]
 .rename_i h0
  split
  .rename_i h1
   rw[h.eq]
   cases bF o.name l with
   |none=>exact h
   |some old=>
    simp only[h1,if_true]
    exact⟨tD hdel.nd,aAN hdel.st,λn=>by rw[L6,Wu,hdel.eq]⟩
  .rename_i h1
   have h2:o.kind=2:=by omega
   rw[if_pos h2]
   cases hg:bF o.name l with
   |none=>
    have hc:=h.eq o.name
    rw[hg]at hc
    refine⟨H6 h.nd,h.st,λn=> ?_⟩
    rw[Q7 h.nd,h.eq]
    by_cases hn:n=o.name
    .rw [if_pos hn,hn,hg]
    .rw [if_neg hn]
   |some old=>
    simp only[h1,if_false]
    exact hdel
end Go.Pu
namespace Go.Pu
def Vt(p:Int):Int:=if p<0 then 1 else p
def fits:Int->List Int->Bool
 |left,[]=>left==0
 |left,p::r=>if p< -1∨left<Vt p then false else fits (left-Vt p) r
def awI(ps:List Int):Int:=(ps.map Vt).sum
def aGa(log:Int)(ps:List Int):Bool:=decide (5<=log/\log<=15/\1<=ps.length/\ps.length<=256/\ps.getLast?≠some 0)
def aHV(log:Int)(ps:List Int):Bool:=aGa log ps&&fits (2^log.toNat) ps
theorem aoO(p:Int)(ps:List Int):awI (p::ps)=Vt p+awI ps:=by simp[awI]
theorem alS{p:Int}(h: -1<=p):0<=Vt p:=by unfold Vt;split<;>omega
theorem awJ{ps:List Int}(h:∀p∈ps,-1<=p):0<=awI ps:=by
 induction ps with
 |nil=>simp[awI]
 |cons p r ih=>
  rw[aoO]
  have:=alS (h p (by simp))
  have:=ih λq hq=>h q (aJP _ hq)
  omega
theorem asY:∀{ps:List Int} {left:Int},fits left ps=true↔(∀p∈ps,-1<=p)/\awI ps=left
 |[],left=>by simp[fits,awI];constructor<;>intro h<;>omega
 |p::r,left=>by
  rw[fits,aoO]
  by_cases h:p< -1∨left<Vt p
  .rw [if_pos h]
   constructor
   .intro h;cases h
   .rintro ⟨h1,h2⟩
    have hp:=h1 p (by simp)
    have:=awJ (ps:=r) λq hq=>h1 q (aJP _ hq)
    omega
  .rw [if_neg h,asY]
   constructor
   .rintro ⟨h1,h2⟩
    exact⟨λq hq=>by rcases aJG.1 hq with rfl|hq;·omega
                    .exact h1 q hq,by omega⟩
   .rintro ⟨h1,h2⟩
    exact⟨λq hq=>h1 q (aJP _ hq),by omega⟩
structure May(log:Nat)(ps:List Int):Prop where
 log5:5<=log
 log15:log<=15
 len1:1<=ps.length
 len256:ps.length<=256
 last:ps.getLast?≠some 0
 low:∀p∈ps,-1<=p
 sum:awI ps=2^log
theorem May.b {log:Nat}{ps:List Int}(h:May log ps):aHV log ps=true:=by
 unfold aHV aGa
 simp only[aJM,decide_eq_true_eq]
 have h1:=h.log5
 have h2:=h.log15
 refine⟨⟨by omega,by omega,h.len1,h.len256,h.last⟩, ?_⟩
 rw[asY,aJE]
 exact⟨h.low,h.sum⟩
def pos(n j:Nat):Nat:=(j*(n/2+n/8+3))%n
theorem ahT:∀(n:Nat) (l:List Nat),l.Nodup->(∀a∈l,a<n)->l.length<=n:=by
 intro n
 induction n with
 |zero=>intro l _ h;cases l with
  |nil=>simp
  |cons a r=>exact absurd (h a (by simp)) (by omega)
 |succ n ih=>
  intro l hd h
  by_cases hn:n∈l
  .have:=ih (l.erase n) (hd.erase n) (λa ha=>by
    have h1:=h a (List.mem_of_mem_erase ha)
    have h2:a≠n:=λe=>by subst e;exact hd.not_mem_erase ha
    omega)
   rw[aLF hn]at this
   omega
  .have:=ih l hd (λa ha=>by
    have h1:=h a ha
    have h2:a≠n:=λe=>by subst e;exact hn ha
    omega)
   omega
def bl(k:Nat):Nat:=if k=0 then 0 else k.log2+1
theorem aF6 (k:Nat):k<2^bl k:=by
 unfold bl
 split
 .subst_vars;simp
 .exact Nat.lt_log2_self
theorem aF5 {k:Nat}(h:k≠0):2^(bl k-1)<=k:=by
 unfold bl
 rw[if_neg h,Nat.add_sub_cancel]
 exact Nat.log2_self_le h
theorem aGE{k:Nat}(h:k≠0):1<=bl k:=by unfold bl;rw[if_neg h];omega
theorem asA{k n:Nat}(h:k<2^n):bl k<=n:=by
 by_cases h0:k=0
 .subst h0;simp[bl]
 .rcases aKw n (bl k)with hh|hh
  .have h1:=aF5 h0
   have:=aK7 (n:=2) (by omega) (show n<=bl k-1 by omega)
   omega
  .exact hh
theorem aHM{k n:Nat}(h1:2^n<=k)(h2:k<2^(n+1)):bl k=n+1:=by
 have h0:k≠0:=by have:=Nat.two_pow_pos n;omega
 have a:=asA h2
 have b:=aF6 k
 rcases aKw (bl k) (n+1)with h|h
 .have:=aK7 (n:=2) (by omega) (show bl k<=n by omega)
  omega
 .omega
end Go.Pu
namespace Go.Pu
open Go Go.En
def aHL(c:UInt8):List Bool:=(List.range 8).map c.toNat.testBit
def aF4:List UInt8->List Bool
 |[]=>[]
 |c::l=>aHL c++aF4 l
theorem aGV{x i:Nat}(h:x<2^i)(b:Nat):x|||(b*2^i)=x+2^i*b:=by
 rw[Nat.or_comm,aLH b,<-Nat.two_pow_add_eq_or_of_lt h b,Nat.add_comm]
theorem aFy{a b:Nat}(ha:a<2^64)(hb:b<2^64):orI .u64 (a:Int) (b:Int)=((a|||b:Nat):Int):=by
 have h:=Nat.or_lt_two_pow ha hb
 unfold orI
 have e:IntKind.u64.bits=64:=rfl
 rw[e,BitVec.ofInt_natCast,BitVec.ofInt_natCast,BitVec.toNat_or,BitVec.toNat_ofNat,BitVec.toNat_ofNat,aKh ha,aKh hb]
 exact hU (by omega) (by have:((a|||b:Nat):Int)<((2^64:Nat):Int):=by exact_mod_cast h
                         omega)
end Go.Pu
namespace Go.Pu
open Go.En
abbrev iO:Nat:=4294967296
theorem Tg{a b:Nat}(ha:a<iO)(hb:b<iO):orI .u32 (a:Int) (b:Int)=((a|||b:Nat):Int):=by
 have h:=Nat.or_lt_two_pow (n:=32) ha hb
 unfold orI
 have e:IntKind.u32.bits=32:=rfl
 rw[e,BitVec.ofInt_natCast,BitVec.ofInt_natCast,BitVec.toNat_or,BitVec.toNat_ofNat,BitVec.toNat_ofNat,aKh ha,aKh hb]
 exact Kp (by omega) (by have:((a|||b:Nat):Int)<((2^32:Nat):Int):=by exact_mod_cast h
                         omega)
theorem fF{a b:Nat}(ha:a<iO)(hb:b<iO):aeY .u32 (a:Int) (b:Int)=((a^^^b:Nat):Int):=by
 have h:=Nat.xor_lt_two_pow (n:=32) ha hb
 unfold aeY
 have e:IntKind.u32.bits=32:=rfl
 rw[e,BitVec.ofInt_natCast,BitVec.ofInt_natCast,BitVec.toNat_xor,BitVec.toNat_ofNat,BitVec.toNat_ofNat,aKh ha,aKh hb]
 exact Kp (by omega) (by have:((a^^^b:Nat):Int)<((2^32:Nat):Int):=by exact_mod_cast h
                         omega)
theorem wI{a b:Nat}(ha:a<iO)(hb:b<iO):abT .u32 (a:Int) (b:Int)=((a&&&b:Nat):Int):=by
 have h:=Nat.and_lt_two_pow (n:=32) a hb
 unfold abT
 have e:IntKind.u32.bits=32:=rfl
 rw[e,BitVec.ofInt_natCast,BitVec.ofInt_natCast,BitVec.toNat_and,BitVec.toNat_ofNat,BitVec.toNat_ofNat,aKh ha,aKh hb]
 exact Kp (by omega) (by have:((a&&&b:Nat):Int)<((2^32:Nat):Int):=by exact_mod_cast h
                         omega)
theorem awW(a:Nat):IntKind.u32.wrap (a:Int)=((a%iO:Nat):Int):=by
 show(a:Int)%4294967296=((a%4294967296:Nat):Int)
 omega
theorem LK(a b:Nat):IntKind.u32.wrap ((a:Int)+(b:Int))=(((a+b)%iO:Nat):Int):=by
 rw[<-awW];congr 1
theorem MF(a k:Nat):IntKind.u32.wrap ((a:Int)*2^k)=((a*2^k%iO:Nat):Int):=by
 have e:((a:Int)*2^k)=((a*2^k:Nat):Int):=by simp
 rw[e,awW]
theorem Lx(a k:Nat):(a:Int).fdiv (2^k)=((a/2^k:Nat):Int):=by
 rw[Int.fdiv_eq_ediv_of_nonneg _ (by exact Int.le_of_lt (Int.pow_pos (by decide)))]
 simp
theorem Af{a b:Nat}(ha:a<iO)(hb:b<iO):a^^^b<iO:=Nat.xor_lt_two_pow (n:=32) ha hb
theorem auF{a b:Nat}(ha:a<iO)(hb:b<iO):a|||b<iO:=Nat.or_lt_two_pow (n:=32) ha hb
theorem Cm(a:Nat){b:Nat}(hb:b<iO):a&&&b<iO:=Nat.and_lt_two_pow (n:=32) a hb
theorem nF(a:Nat):a%iO<iO:=aLk _ (by decide)
theorem Q5 {a:Nat}(h:a<iO)(k:Nat):a/2^k<iO:=Nat.lt_of_le_of_lt (aLE _ _) h
def ZU(x k:Nat):Nat:=(x*2^(32-k)%iO)|||(x/2^k)
theorem mE{x k:Nat}(h:x<iO):ZU x k<iO:=auF (nF _) (Q5 h k)
def YB(x a b c:Nat):Nat:=ZU x a^^^ZU x b^^^ZU x c
def WY(x a b d:Nat):Nat:=ZU x a^^^ZU x b^^^(x/2^d)
def w0N (b:List UInt8):Nat->List Nat
 |0=>List.replicate 64 0
 |i+1=>(w0N b i).set (i/4) (((w0N b i).getD (i/4) 0*2^8%iO)|||(b.getD i 0).toNat)
def w1N (l:List Nat):Nat->List Nat
 |0=>l
 |j+1=>(w1N l j).set (16+j) (((((w1N l j).getD j 0+WY ((w1N l j).getD (j+1) 0) 7 18 3)%iO+(w1N l j).getD (j+9) 0)%iO+WY ((w1N l j).getD (j+14) 0) 17 19 10)%iO)
def kN:List Nat:=[1116352408,1899447441,3049323471,3921009573,961987163,1508970993,2453635748,2870763221,3624381080,310598401,607225278,1426881987,1925078388,2162078206,2614888103,3248222580,3835390401,4022224774,264347078,604807628,770255983,1249150122,1555081692,1996064986,2554220882,2821834349,2952996808,3210313671,3336571891,3584528711,113926993,338241895,666307205,773529912,1294757372,1396182291,1695183700,1986661051,2177026350,2456956037,2730485921,2820302411,3259730800,3345764771,3516065817,3600352804,4094571909,275423344,430227734,506948616,659060556,883997877,958139571,1322822218,1537002063,1747873779,1955562222,2024104815,2227730452,2361852424,2428436474,2756734187,3204031479,3329325298]
def aBC(v:List Nat)(k w:Nat):Nat:=
 ((((v.getD 7 0+YB (v.getD 4 0) 6 11 25)%iO+((v.getD 4 0&&&v.getD 5 0)^^^((4294967295^^^v.getD 4 0)&&&v.getD 6 0)))%iO+k)%iO+w)%iO
def aFV(v:List Nat):Nat:=(YB (v.getD 0 0) 2 13 22+((v.getD 0 0&&&v.getD 1 0)^^^(v.getD 0 0&&&v.getD 2 0)^^^(v.getD 1 0&&&v.getD 2 0)))%iO
def MN(v:List Nat)(k w:Nat):List Nat:=
 [(aBC v k w+aFV v)%iO,v.getD 0 0,v.getD 1 0,v.getD 2 0,(v.getD 3 0+aBC v k w)%iO,v.getD 4 0,v.getD 5 0,v.getD 6 0]
def lB(W:List Nat)(s:List Nat):Nat->List Nat
 |0=>s
 |t+1=>MN (lB W s t) (kN.getD t 0) (W.getD t 0)
def yH(v s:List Nat)(i:Nat):List Nat:=v.mapIdx λj x=>if j<i then(x+s.getD j 0)%iO else x
def Kq(s:List Nat)(b:List UInt8):List Nat:=yH (lB (w1N (w0N b 64) 48) s 64) s 8
def Cf(l:List Nat):Prop:=∀x∈l,x<iO
theorem Cf.getD {l:List Nat}(h:Cf l)(i:Nat):l.getD i 0<iO:=by
 rw[aJH]
 cases e:l[i]? with
 |none=>decide
 |some x=>exact h x (aKN e)
theorem Cf.set {l:List Nat}(h:Cf l){i x:Nat}(hx:x<iO):Cf (l.set i x):=λy hy=>by
 rcases List.mem_or_eq_of_mem_set hy with h1|h1
 .exact h y h1
 .rw [h1];exact hx
theorem aA0 (b:List UInt8):∀i,(w0N b i).length=64
 |0=>by simp[w0N]
 |i+1=>by rw[w0N,aKn,aA0 b i]
theorem azO(b:List UInt8):∀i,Cf (w0N b i)
 |0=>λx hx=>by
  rw[w0N]at hx
  rw[(List.mem_replicate.1 hx).2];decide
 |i+1=>by
  have h2:=(b.getD i 0).toNat_lt
  exact(azO b i).set (auF (nF _) (by have:iO=4294967296:=rfl
                                     omega))
theorem aA1 (l:List Nat):∀j,(w1N l j).length=l.length
 |0=>rfl
 |j+1=>by rw[w1N,aKn,aA1 l j]
theorem aEt{l:List Nat}(h:Cf l):∀j,Cf (w1N l j)
 |0=>h
 |j+1=>(aEt h j).set (nF _)
theorem aB7 (v:List Nat)(k w:Nat):(MN v k w).length=8:=rfl
theorem aEk{v:List Nat}(h:Cf v)(k w:Nat):Cf (MN v k w):=λx hx=>by
 unfold MN at hx
 simp only[aJG,List.not_mem_nil,or_false]at hx
 rcases hx with rfl|rfl|rfl|rfl|rfl|rfl|rfl|rfl
 .exact nF _
 .exact h.getD 0
 .exact h.getD 1
 .exact h.getD 2
 .exact nF _
 .exact h.getD 4
 .exact h.getD 5
 .exact h.getD 6
theorem Ka{W s:List Nat}(h:s.length=8):∀t,(lB W s t).length=8
 |0=>h
 |t+1=>aB7 _ _ _
theorem Oq{W s:List Nat}(h:Cf s):∀t,Cf (lB W s t)
 |0=>h
 |t+1=>aEk (Oq h t) _ _
theorem Eu(v s:List Nat)(i:Nat):(yH v s i).length=v.length:=by simp[yH]
theorem akP(v s:List Nat):yH v s 0=v:=by
 apply aLv
 .simp [yH]
 .intro i h1 h2;simp[yH]
theorem aoP{v s:List Nat}{i:Nat}(h:i<v.length):(yH v s i).getD i 0=v.getD i 0:=by
 rw[aJH,aJH,aJA (by rw[Eu];exact h),aJA h]
 simp[yH]
theorem aoQ{v s:List Nat}{i:Nat}(h:i<v.length):(yH v s i).set i ((v.getD i 0+s.getD i 0)%iO)=yH v s (i+1):=by
 have hv:v.getD i 0=v[i]:=by rw[aJH,aJA h]<;>rfl
 rw[hv]
 apply aLv
 .simp [yH]
 .intro j h1 h2
  rw[List.getElem_set]
  simp only[yH,List.getElem_mapIdx]
  by_cases hij:i=j
  .subst hij;simp
  .simp only[hij,if_false]
   by_cases hj:j<i
   .rw [if_pos hj,if_pos (by omega)]
   .rw [if_neg hj,if_neg (by omega)]
theorem aEm{v s:List Nat}(hv:Cf v)(i:Nat):Cf (yH v s i):=λx hx=>by
 unfold yH at hx
 obtain⟨j,hj,rfl⟩:=List.mem_mapIdx.1 hx
 split
 .exact nF _
 .exact hv _ (aKl hj)
theorem aoU{s:List Nat}(b:List UInt8)(h:s.length=8):(Kq s b).length=8:=by unfold Kq;rw[Eu,Ka h]
theorem aEC{s:List Nat}(b:List UInt8)(h:Cf s):Cf (Kq s b):=aEm (Oq h _) _
def aDd:List Nat:=[1779033703,3144134277,1013904242,2773480762,1359893119,2600822924,528734635,1541459225]
def GW:Nat->List UInt8->List Nat
 |0,_=>aDd
 |k+1,L=>Kq (GW k L) ((L.drop (64*k)).take 64)
theorem An:∀k L,(GW k L).length=8
 |0,_=>rfl
 |k+1,L=>aoU _ (An k L)
theorem V5:∀k L,Cf (GW k L)
 |0,_=>by
  show Cf aDd
  unfold Cf aDd;decide
 |k+1,L=>aEC _ (V5 k L)
theorem aaD:∀k (L M:List UInt8),64*k<=L.length->GW k (L++M)=GW k L
 |0,_,_,_=>rfl
 |k+1,L,M,h=>by
  rw[GW,GW,aaD k L M (by omega)]
  congr 1
  rw[aKk (by omega),aKd (by rw[aJO];omega)]
def beN(x:Nat)(k:Nat):List UInt8:=(List.range k).map λi=>UInt8.ofNat (x/2^(56-8*i)%256)
theorem aeZ(x k:Nat):(beN x k).length=k:=by simp[beN]
theorem arZ(x k:Nat):beN x (k+1)=beN x k++[UInt8.ofNat (x/2^(56-8*k)%256)]:=by simp[beN,aLd]
def ayG(L:List UInt8):List UInt8:=L++[128]++List.replicate ((119-L.length%64)%64) 0++beN (8*L.length) 8
def Zt(s:List Nat)(k:Nat):List UInt8:=(List.range k).map λi=>UInt8.ofNat (s.getD (i/4) 0/2^(24-i%4*8)%256)
theorem anS(s:List Nat)(k:Nat):Zt s (k+1)=Zt s k++[UInt8.ofNat (s.getD (k/4) 0/2^(24-k%4*8)%256)]:=by simp[Zt,aLd]
theorem ID(s:List Nat)(k:Nat):(Zt s k).length=k:=by simp[Zt]
def Yq(L:List UInt8):List UInt8:=Zt (GW ((ayG L).length/64) (ayG L)) 32
theorem uA(L:List UInt8):(Yq L).length=32:=ID _ _
def aX(l:List UInt8):List UInt8:=Yq (0::l)
def hN:List Nat:=[0,274646895,549293790,820201905,1098587580,1361435347,1640403810,1905808397,2197175160,2460548119,2722870694,2987750089,3280807620,3553878443,3811616794,4084100981]
theorem aF9:Cf hN:=by unfold Cf hN;decide
def aaK(x:Nat):Nat:=x/2^4^^^hN.getD (x&&&15) 0
def aBi(x:Nat)(c:UInt8):Nat:=aaK (aaK (x^^^c.toNat))
theorem ahA{x:Nat}(h:x<iO):aaK x<iO:=Af (Q5 h _) (aF9.getD _)
theorem Hv(c:UInt8):c.toNat<iO:=by
 have:=c.toNat_lt
 have:iO=4294967296:=rfl
 omega
theorem aE0 {x:Nat}(h:x<iO)(c:UInt8):aBi x c<iO:=ahA (ahA (Af h (Hv c)))
def TF(x:Nat)(l:List UInt8):Nat:=l.foldl aBi x
theorem afD{x:Nat}(h:x<iO)(l:List UInt8):TF x l<iO:=by
 unfold TF
 induction l generalizing x with
 |nil=>exact h
 |cons c l ih=>exact ih (aE0 h c)
theorem amY(x:Nat)(l:List UInt8)(c:UInt8):TF x (l++[c])=aBi (TF x l) c:=by unfold TF;rw[List.foldl_append]<;>rfl
def aY(l:List UInt8):Nat:=4294967295^^^TF 4294967295 l
theorem aAg(l:List UInt8):aY l<iO:=Af (by decide) (afD (by decide) l)
end Go.Pu
namespace Go.Proofs.YteelnmpbnaohpaaGreatDoor
open Go Go.En Go.Pu
set_option maxRecDepth 4000
structure lO(w:aLW):Prop where
 sh:∀i,i<64->w.cell? ⟨0,i,none⟩=some (.int .u32 (kN.getD i 0:Nat))
 cr:∀i,i<16->w.cell? ⟨1,i,none⟩=some (.int .u32 (hN.getD i 0:Nat))
theorem uG{w w':aLW}{g i:Nat}{v:aLX}{M:Nat->Prop}(hc:w.cell? ⟨g,i,none⟩=some v)(x:aL w w' M)(hM:¬M g):w'.cell? ⟨g,i,none⟩=some v:=by
 have hg:g<w.heap.size:=by
  rcases aKw g w.heap.size with h|h
  .exact h
  .unfold World.cell? at hc
   rw[aKj h]at hc
   cases hc
 rw[<-hc]
 unfold World.cell?
 rw[x.keep g hg hM]
theorem lO.extM {w w':aLW}{M:Nat->Prop}(h:lO w)(x:aL w w' M)(h1:¬M 0)(h2:¬M 1):lO w':=
 ⟨λi hi=>uG (h.sh i hi) x h1,λi hi=>uG (h.cr i hi) x h2⟩
theorem lO.ext {w w':aLW}(h:lO w)(x:aL w w' aT):lO w':=h.extM x (λh=>h) (λh=>h)
theorem lO.lt {w:aLW}(h:lO w):0<w.heap.size/\1<w.heap.size:=by
 have q:∀{g:Nat} {v:aLX},w.cell? ⟨g,0,none⟩=some v->g<w.heap.size:=λ{g v} hc=>by
  rcases aKw g w.heap.size with h|h
  .exact h
  .unfold World.cell? at hc
   rw[aKj h]at hc
   cases hc
 exact⟨q (h.sh 0 (by omega)),q (h.cr 0 (by omega))⟩
theorem aG8:∀k:Fin 31,abT .u64 (IntKind.u64.wrap (-((k.val+1:Nat):Int))) 31=((31-k.val:Nat):Int):=by decide
theorem aG9:∀k:Fin 31,IntKind.u64.wrap (32-((31-k.val:Nat):Int))=((k.val+1:Nat):Int):=by decide
theorem ajF{x k:Nat}(hx:x<iO)(h1:1<=k)(h2:k<=31)(w:aLW):
 aG pg dO #[.int .u32 (x:Nat),.int .i64 (-(k:Int))] w (λr w'=>r= .int .u32 (ZU x k:Nat)/\w'=w):=by
 refine G2 ?_
 have e1:=aG8 ⟨k-1,by omega⟩
 have e2:=aG9 ⟨k-1,by omega⟩
 simp only[show k-1+1=k from by omega,show 31-(k-1)=32-k from by omega]at e1 e2
 have m1:min (32-k) IntKind.u32.bits=32-k:=aJ1 (by have:IntKind.u32.bits=32:=rfl
                                                   omega)
 have m2:min k IntKind.u32.bits=k:=aJ1 (by have:IntKind.u32.bits=32:=rfl
                                           omega)
 have e3:=MF x (32-k)
 have e4:=Lx x k
 have e5:=Tg (a:=x*2^(32-k)%iO) (b:=x/2^k) (nF _) (Q5 hx k)
 unfold CJ zI ZU
 simp(disch:=omega)only[seval,e1,e2,m1,m2,e3,e4,e5]
theorem awK{x a b c:Nat}(hx:x<iO)(ha:1<=a/\a<=31)(hb:1<=b/\b<=31)(hc:1<=c/\c<=31)(w:aLW):
 aG pg Cd #[.int .u32 (x:Nat),.int .i64 (a:Nat),.int .i64 (b:Nat),.int .i64 (c:Nat)] w (λr w'=>r= .int .u32 (YB x a b c:Nat)/\w'=w):=by
 refine aeS ?_
 unfold akB UX YB
 have n1:∀k:Nat,k<=31->IntKind.i64.wrap (0-(k:Int))= -(k:Int):=λk hk=>by rw[Int.zero_sub];exact dI (by omega) (by omega)
 simp(disch:=omega)only[seval,n1 a ha.2,n1 b hb.2,n1 c hc.2]
 refine(ajF hx ha.1 ha.2 w).mono ?_
 rintro r w1 ⟨rfl,hw⟩
 rw[hw];clear hw w1
 refine(ajF hx hb.1 hb.2 w).mono ?_
 rintro r w1 ⟨rfl,hw⟩
 rw[hw];clear hw w1
 have e1:=fF (mE (k:=a) hx) (mE (k:=b) hx)
 simp(disch:=omega)only[seval,n1 c hc.2,e1]
 refine(ajF hx hc.1 hc.2 w).mono ?_
 rintro r w1 ⟨rfl,hw⟩
 rw[hw];clear hw w1
 have e2:=fF (Af (mE (k:=a) hx) (mE (k:=b) hx)) (mE (k:=c) hx)
 simp(disch:=omega)only[seval,e2]
theorem aoI{x a b d:Nat}(hx:x<iO)(ha:1<=a/\a<=31)(hb:1<=b/\b<=31)(hd:d<=31)(w:aLW):
 aG pg HC #[.int .u32 (x:Nat),.int .i64 (a:Nat),.int .i64 (b:Nat),.int .i64 (d:Nat)] w (λr w'=>r= .int .u32 (WY x a b d:Nat)/\aL w w' aT):=by
 refine amQ ?_
 unfold avV abM WY
 have n1:∀k:Nat,k<=31->IntKind.i64.wrap (0-(k:Int))= -(k:Int):=λk hk=>by rw[Int.zero_sub];exact dI (by omega) (by omega)
 have m2:min d IntKind.u32.bits=d:=aJ1 (by have:IntKind.u32.bits=32:=rfl
                                           omega)
 have e4:=Lx x d
 simp(disch:=omega)only[seval,n1 a ha.2,n1 b hb.2,m2,e4]
 refine(ajF hx ha.1 ha.2 _).mono ?_
 rintro r w1 ⟨rfl,hw⟩
 rw[hw];clear hw w1
 refine(ajF hx hb.1 hb.2 _).mono ?_
 rintro r w1 ⟨rfl,hw⟩
 rw[hw];clear hw w1
 have e1:=fF (mE (k:=a) hx) (mE (k:=b) hx)
 have e2:=fF (Af (mE (k:=a) hx) (mE (k:=b) hx)) (Q5 hx d)
 simp(disch:=omega)only[seval,n1 b hb.2,m2,e4,e1,e2]
 exact aL.dr _ _
theorem aEZ{l:List UInt8}{v:aLX}{w:aLW}(hg:lO w)(hv:Bs w v l)(hl:l.length<=1000000000):
 aG pg V2 #[v] w (λr w'=>r= .int .u32 (aY l:Nat)/\aL w w' aT):=by
 refine asO ?_
 obtain⟨RR,hRR⟩:∃RR:aLX->aLW->Prop,RR=λr w'=>r= .int .u32 (aY l:Nat)/\aL w w' aT:=⟨_,rfl⟩
 rw[<-hRR]
 obtain⟨hg0,hg1⟩:=hg.lt
 unfold aCQ amZ
 refine apO ?_
 unfold aAh agT
 simp(disch:=omega)only[aA,EC,aI]
 refine cA λw1 o1 x1 s1=> ?_
 obtain⟨p,hp⟩:∃p,p=w.heap.size:=⟨_,rfl⟩
 rw[<-hp]at o1⊢
 have o1:bD w1 p [.int .u32 (TF 4294967295 (l.take 0):Nat)]:=o1
 refine TG ?_
 unfold QS JR JQ
 obtain⟨va,vc,rfl,_⟩:=hv.len
 rw[aJy]at hv
 simp(disch:=omega)only[aA,tX,aKL,aJy,mI,aI,bH]
 unfold vP
 refine bM.rule (λm (t:aLX) w'=>∃i:Nat,m=l.length-i/\i<=l.length/\t= .int .i64 (i:Nat)/\bD w' p [.int .u32 (TF 4294967295 (l.take i):Nat)]/\aL w1 w' (λy=>y=p)) l.length ⟨0,rfl,by omega,rfl,o1,aL.refl _ _⟩ ?_
 clear o1
 rintro m t w2 ⟨i,rfl,hi,rfl,o2,x2⟩
 unfold Cv
 have x02:aL w w2 aT:=x1.trans x2 λy hy h=>by omega
 by_cases hlt:i<l.length
 .have d1:decide ((i:Int)<(l.length:Int))=true:=by simp;omega
  have hv2:=hv.ext x02 (bC _)
  obtain⟨b,off,c',hv',hc',hcell⟩:=hv2.openV (by rw[aJy];omega)
  have g1:=hcell i (by rw[aJy];exact hlt)
  rw[aJy]at hv'
  cases hv'
  rw[aLm]at g1
  obtain⟨c,hc⟩:∃c,c=l[i]'hlt:=⟨_,rfl⟩
  rw[<-hc]at g1
  simp only[gO]at g1
  have htk:l.take (i+1)=l.take i++[c]:=by rw[aLK,aJA hlt,<-hc]<;>rfl
  have hx:=afD (x:=4294967295) (by decide) (l.take i)
  obtain⟨x,hxx⟩:∃x,x=TF 4294967295 (l.take i):=⟨_,rfl⟩
  rw[<-hxx]at hx o2
  have c1:=o2.cell (off:=0)
  simp only[aJz]at c1
  have hcb:c.toNat<256:=c.toNat_lt
  have e0:IntKind.u32.wrap ((c.toNat:Nat):Int)=((c.toNat:Nat):Int):=Kp (by omega) (by omega)
  have e1:=fF hx (Hv c)
  have hy:x^^^c.toNat<iO:=Af hx (Hv c)
  simp(disch:=omega)only[aA,fD,d1,wX,aJE,anU,fS,dI,aI,uI,true_and,iA,As,g1,bL,c1,oI,e0,Uv,e1,cN]
  refine rN o2 rfl (by simp) λw3 o3 x3 s3=> ?_
  simp only[aJR]at o3
  obtain⟨y,hyy⟩:∃y,y=x^^^c.toNat:=⟨_,rfl⟩
  rw[<-hyy]at hy o3
  have b32:IntKind.u32.bits=32:=rfl
  have m4:min (4:Int).toNat IntKind.u32.bits=4:=rfl
  have half:∀{y:Nat} {w':aLW},y<iO->bD w' p [.int .u32 (y:Nat)]->aL w w' aT→
      w'.cell? ⟨1,y&&&15,none⟩=some (.int .u32 (hN.getD (y&&&15) 0:Nat))/\w'.cell? ⟨p,0,none⟩=some (.int .u32 (y:Nat))/\abT .u32 (y:Int) 15=((y&&&15:Nat):Int)/\y&&&15<16/\(y:Int).fdiv (2^4)=((y/2^4:Nat):Int)/\aeY .u32 ((y/2^4:Nat):Int) ((hN.getD (y&&&15) 0:Nat):Int)=((aaK y:Nat):Int):=λ{y w'} hy o x=>by
   have h16:y&&&15<16:=Nat.and_lt_two_pow (n:=4) y (by decide)
   have c:=o.cell (off:=0)
   simp only[aJz]at c
   exact⟨(hg.ext x).cr _ h16,c,wI (b:=15) hy (by decide),h16,Lx y 4,fF (Q5 hy 4) (aF9.getD _)⟩
  have x03:aL w w3 aT:=x02.trans x3 λy hy h=>by omega
  have od:=dB o3
  obtain⟨a1,a2,a3,a4,a5,a6⟩:=half hy od (x03.seq (aL.dr _ _))
  obtain⟨b1,b2,-,-,-,-⟩:=half hy o3 x03
  obtain⟨yy,hyd⟩:∃yy,yy=y&&&15:=⟨_,rfl⟩
  rw[<-hyd]at a1 a3 a4 a6 b1
  simp(disch:=omega)only[a2,bL,aI,ahZ,a3,wV,aJE,aJC,iA,a1,true_and,O1,m4,a5,Uv,a6]
  refine rN od rfl (by simp) λw4 o4 x4 s4=> ?_
  simp only[aJR]at o4
  obtain⟨z,hz⟩:∃z,z=aaK y:=⟨_,rfl⟩
  have hz32:z<iO:=hz▸ahA hy
  rw[<-hz]at o4
  have x04:aL w w4 aT:=(x03.seq (aL.dr _ _)).trans x4 λy hy h=>by omega
  have oe:=dB o4
  obtain⟨a1,a2,a3,a4,a5,a6⟩:=half hz32 oe (x04.seq (aL.dr _ _))
  obtain⟨yy,hyd⟩:∃yy,yy=z&&&15:=⟨_,rfl⟩
  rw[<-hyd]at a1 a3 a4 a6
  simp(disch:=omega)only[a2,bL,aI,ahZ,a3,wV,aJE,aJC,iA,a1,true_and,O1,m4,a5,Uv,a6]
  refine rN oe rfl (by simp) λw5 o5 x5 s5=> ?_
  simp only[aJR]at o5
  refine⟨l.length-(i+1),by omega,i+1,rfl,by omega,rfl, ?_,((((x2.seq x3).seq (aL.dr _ _)).seq x4).seq (aL.dr _ _)).seq x5⟩
  have e:TF 4294967295 (l.take (i+1))=aaK z:=by rw[htk,amY,<-hxx,aBi,<-hyy,<-hz]
  rw[e]
  exact o5
 have d1:decide ((i:Int)<(l.length:Int))=false:=by simp;omega
 obtain rfl:i=l.length:=by omega
 rw[aJD (aJK _)]at o2
 simp(disch:=omega)only[aA,fD,d1,anU,fS,dI,aI,uI,true_and,iA,bH]
 refine Wm ?_
 unfold Wk OJ
 have c1:=o2.cell (off:=0)
 simp only[aJz]at c1
 have hx:=afD (x:=4294967295) (by decide) l
 have g1:IntKind.u32.signed=false:=rfl
 have g2:IntKind.u32.max=4294967295:=rfl
 have e2:aeY .u32 (4294967295:Int) ((TF 4294967295 l:Nat):Int)=((aY l:Nat):Int):=fF (a:=4294967295) (by decide) hx
 simp(disch:=omega)only[aA,tX,aKL,anU,aI,uI,iA,c1,bL,auM,g1,aJI,g2,if_false,e2,bH]
 rw[hRR]
 exact⟨rfl,x02⟩
abbrev u32 (x:Nat):aLX:= .int .u32 (x:Int)
theorem vX{l:List Nat}{i:Nat}(h:i<l.length):(l.map u32)[i]?=some (u32 (l.getD i 0)):=by
 rw[aJ0,aJA h,aJH,aJA h]<;>rfl
theorem Ko(l:List Nat):∀y∈l.map u32,one y=true:=λy hy=>by
 obtain⟨z,-,rfl⟩:=aKm.1 hy;rfl
theorem aAF(n:Nat):(List.replicate n 0).map u32=List.replicate n (.int .u32 0):=by rw[aLG]<;>rfl
theorem aB0 {s:List Nat}{b:List UInt8}{w:aLW}(hg:lO w)(hs:s.length=8)(h32:Cf s)(hb:b.length=64):
 aG pg yU #[.agg (s.map u32).toArray,.agg (b.map gO).toArray] w (λr w'=>r= .agg ((Kq s b).map u32).toArray/\aL w w' aT):=by
 refine Ua ?_
 obtain⟨hg0,hg1⟩:=hg.lt
 unfold SJ I7 I6
 refine cA λw1 o1 x1 s1=> ?_
 refine cA λw2 o2 x2 s2=> ?_
 refine V7 λw3 o3 x3 s3=> ?_
 refine Ck λw4 o4 x4 s4=> ?_
 generalize hn:w.heap.size=n at*
 rw[s1]at o2
 rw[show w2.heap.size=n+2 from by omega]at o3⊢
 rw[show w3.heap.size=n+3 from by omega]at o4⊢
 rw[s1]
 have o1:bD w4 n (s.map u32):=((bD.ext (cs:=s.map u32) o1 x2 (λh=>h)).ext x3 (λh=>h)).ext x4 (λh=>h)
 have o2:bD w4 (n+1) (b.map gO):=(bD.ext (cs:=b.map gO) o2 x3 (λh=>h)).ext x4 (λh=>h)
 have o3:bD w4 (n+2) (List.replicate 8 (.int .u32 0)):=bD.ext (cs:=List.replicate 8 (.int .u32 0)) o3 x4 (λh=>h)
 have o4:bD w4 (n+3) ((w0N b 0).map u32):=by
  rw[w0N,aAF];exact o4
 have x04:aL w w4 aT:=((x1.seq x2).seq x3).seq x4
 have z4:w4.heap.size=n+4:=by omega
 have lb:=Rw (off:=0) o2 (by rw[aJy];omega)
 rw[aJU,aJD (by rw[aJy];omega)]at lb
 unfold BC BB I5 tN
 simp(disch:=omega)only[aA,lb,aI]
 refine bM.rule (λm (t:aLX) w'=>∃i:Nat,m=64-i/\t= .int .i64 (i:Nat)/\i<=64/\bD w' (n+3) ((w0N b i).map u32)/\aL w4 w' (λy=>y=n+3)) 64 ⟨0,rfl,rfl,by omega,o4,aL.refl _ _⟩ ?_
 rintro m t w5 ⟨i,rfl,rfl,hi,o5,x5⟩
 unfold BA
 have hl5:=aA0 b i
 by_cases hlt:i<64
 .have d1:decide ((i:Int)<64)=true:=by simp;omega
  have hq:(i:Int).tdiv 4=((i/4:Nat):Int):=by rw[aLy (by omega)];omega
  have gb:(b.map gO).toArray[i]?=some (.int .u8 ((b.getD i 0).toNat:Nat)):=by
   rw[aKP,aJ0,aJA (by omega),aJH,aJA (by omega)]<;>rfl
  have c5:=o5.cell (off:=i/4)
  rw[vX (by omega)]at c5
  have hx:=(azO b i).getD (i/4)
  have e1:=MF ((w0N b i).getD (i/4) 0) 8
  have m1:min (8:Int).toNat IntKind.u32.bits=8:=rfl
  have e2:=Tg (nF ((w0N b i).getD (i/4) 0*2^8)) (Hv (b.getD i 0))
  have hby:=(b.getD i 0).toNat_lt
  simp(disch:=omega)only[aA,fD,d1,EG,aJE,gb,bL,Xd,hq,dI,fS,aI,gG,aJC,iA,oI,Kp,c5,auP,m1,e1,aDT,e2,cN]
  refine rN o5 rfl (by rw[aJy];omega) λw6 o6 x6 s6=> ?_
  refine⟨64-(i+1),by omega,i+1,rfl,rfl,by omega, ?_,x5.seq x6⟩
  rw[w0N,aKR]
  exact o6
 have d1:decide ((i:Int)<64)=false:=by simp;omega
 obtain rfl:i=64:=by omega
 simp(disch:=omega)only[aA,fD,d1,Xd,fS,dI,aI,bH]
 clear lb
 unfold Bz By I4 tM
 obtain⟨W0,hW0⟩:∃W0,W0=w0N b 64:=⟨_,rfl⟩
 have hW0l:Cf W0:=hW0▸azO b 64
 rw[<-hW0]at o5 hl5
 refine bM.rule (λm (t:aLX) w'=>∃j:Nat,m=48-j/\t= .int .i64 ((16+j:Nat):Int)/\j<=48/\bD w' (n+3) ((w1N W0 j).map u32)/\aL w4 w' (λy=>y=n+3)) 48 ⟨0,rfl,rfl,by omega,o5,x5⟩ ?_
 clear o5 x5
 rintro m t w5 ⟨j,rfl,rfl,hj,o5,x5⟩
 unfold Bx
 have hl6:(w1N W0 j).length=64:=by rw[aA1];exact hl5
 by_cases hlt:j<48
 .have d1:decide (((16+j:Nat):Int)<64)=true:=by simp;omega
  have q1:((16+j:Nat):Int)-16=((j:Nat):Int):=by omega
  have q2:((16+j:Nat):Int)-15=((j+1:Nat):Int):=by omega
  have q3:((16+j:Nat):Int)-7=((j+9:Nat):Int):=by omega
  have q4:((16+j:Nat):Int)-2=((j+14:Nat):Int):=by omega
  have q5:((16+j:Nat):Int)+1=((16+(j+1):Nat):Int):=by omega
  have od:=dB o5
  have c1:=o5.cell (off:=j)
  have c2:=o5.cell (off:=j+1)
  have c3:=o5.cell (off:=j+9)
  have c4:=o5.cell (off:=j+14)
  have d1':=od.cell (off:=j)
  have d2':=od.cell (off:=j+1)
  have d3':=od.cell (off:=j+9)
  have d4':=od.cell (off:=j+14)
  rw[vX (by omega)]at c1 c2 c3 c4 d1' d2' d3' d4'
  have hl:=aEt hW0l j
  have h1:=hl.getD j
  have h2:=hl.getD (j+1)
  have h4:=hl.getD (j+14)
  have f1:=LK
  simp(disch:=omega)only[aA,fD,d1,O2,q1,dI,q2,aO,Result.ok.injEq,Next.value.injEq,and_true,q3,q4,gG,aJE,aJC,fS,aI,true_and,iA,d1',bL,d2',d3',d4',cN]
  refine(aoI h2 ⟨by decide,by decide⟩ ⟨by decide,by decide⟩ (by decide) _).mono ?_
  rintro r w6 ⟨rfl,x6⟩
  have o6:=od.ext x6 (λh=>h)
  have p1:=o6.cell (off:=j)
  have p3:=o6.cell (off:=j+9)
  have p4:=o6.cell (off:=j+14)
  rw[vX (by omega)]at p1 p3 p4
  simp(disch:=omega)only[p1,bL,fS,f1,p3,p4,Result.ok.injEq,Next.value.injEq,and_true,aI,true_and]
  refine(aoI h4 ⟨by decide,by decide⟩ ⟨by decide,by decide⟩ (by decide) _).mono ?_
  rintro r w7 ⟨rfl,x7⟩
  have o7:=o6.ext x7 (λh=>h)
  have r1:=o7.cell (off:=j)
  have r3:=o7.cell (off:=j+9)
  have r4:=o7.cell (off:=j+14)
  rw[vX (by omega)]at r1 r3 r4
  simp(disch:=omega)only[r3,bL,r1,and_true,fS,f1,q5,aI,true_and]
  refine rN o7 rfl (by rw[aJy];omega) λw8 o8 x8 s8=> ?_
  refine⟨48-(j+1),by omega,j+1,rfl,rfl,by omega, ?_,x5.seq ((((aL.dr _ aT).seq x6).seq x7).mono (λ_ _ h=>h.elim)|>.seq x8)⟩
  rw[w1N,aKR]
  exact o8
 have d1:decide (((16+j:Nat):Int)<64)=false:=by simp;omega
 obtain rfl:j=48:=by omega
 simp(disch:=omega)only[aA,fD,d1,O2,dI,aO,Result.ok.injEq,Next.value.injEq,and_true,fS,aI,gG,aJC,iA,true_and,bH]
 obtain⟨W,hW⟩:∃W,W=w1N W0 48:=⟨_,rfl⟩
 have hwith:Kq s b=yH (lB W s 64) s 8:=by rw[hW,hW0]<;>rfl
 rw[<-hW]at o5 hl6
 have x05:aL w w5 aT:=x04.trans x5 λy hy h=>by omega
 have a1:=o1.ext x5 (by omega)
 have a3:=o3.ext x5 (by omega)
 have z5:=x5.size
 clear d1 hlt hj hW hW0 hW0l hl5 x5 o1 o2 o3 o4 x04
 unfold Bw I3
 have ls:=KU (off:=0) a1 (by rw[aJy];omega)
 rw[aJU,aJD (by rw[aJy];omega)]at ls
 simp(disch:=omega)only[aA,ls,aI]
 refine V7 λw6 o6 x6 s6=> ?_
 have a1:=a1.ext x6 (λh=>h)
 have a3:=a3.ext x6 (λh=>h)
 have aW:=o5.ext x6 (λh=>h)
 obtain⟨v,hv⟩:∃v,v=w5.heap.size:=⟨_,rfl⟩
 rw[<-hv]at o6⊢
 refine Lz o6 (by simp[hs]) (λy hy=>Ko s y (by simpa using hy)) (by simp) λw7 o7 x7 s7=> ?_
 have hset:eF [(.int .u32 0),(.int .u32 0),(.int .u32 0),(.int .u32 0),(.int .u32 0),(.int .u32 0),(.int .u32 0),(.int .u32 0)] 0 (s.map u32).toArray.toList=s.map u32:=by
  rw[aJV]
  have:=jB (s.map u32) [] [(.int .u32 0),(.int .u32 0),(.int .u32 0),(.int .u32 0),(.int .u32 0),(.int .u32 0),(.int .u32 0),(.int .u32 0)] (by rw[aJy,hs];decide)
  rw[aJX,aJX,aKy,aJy,hs]at this
  rw[this];simp
 rw[hset]at o7
 have x07:aL w w7 aT:=(x05.seq x6).trans x7 λy hy h=>by omega
 have a1:=a1.ext x7 (by omega)
 have a3:=a3.ext x7 (by omega)
 have aW:=aW.ext x7 (by omega)
 have hg7:=hg.ext x07
 have z7:w7.heap.size=v+1:=by omega
 have hvn:n+4<=v:=by omega
 clear o5 o6 x6 x7 s6 s7 x05 hset ls
 unfold Bv Bu I2 vW
 refine bM.rule (λm (t:aLX) w'=>∃i:Nat,m=64-i/\t= .int .i64 (i:Nat)/\i<=64/\bD w' v ((lB W s i).map u32)/\aL w7 w' (λy=>y=v)) 64 ⟨0,rfl,rfl,by omega,o7,aL.refl _ _⟩ ?_
 clear o7
 rintro m t w8 ⟨i,rfl,rfl,hi,o8,x8⟩
 unfold C0
 have hl8:(lB W s i).length=8:=Ka hs i
 have hlt8:=Oq (W:=W) h32 i
 by_cases hlt:i<64
 .have d1:decide ((i:Int)<64)=true:=by simp;omega
  have hnext:lB W s (i+1)=MN (lB W s i) (kN.getD i 0) (W.getD i 0):=rfl
  generalize lB W s i=V at*
  have cW:∀{w':aLW},aL w7 w' (λy=>y=v)->w'.cell? ⟨n+3,i,none⟩=some (u32 (W.getD i 0)):=λ{w'} x=>by
   rw[(aW.ext x (by omega)).cell,vX (by omega)]
  have cK:∀{w':aLW},aL w7 w' (λy=>y=v)->w'.cell? ⟨0,i,none⟩=some (u32 (kN.getD i 0)):=λ{w'} x=>uG (hg7.sh i hlt) x (by omega)
  obtain⟨v0,v1,v2,v3,v4,v5,v6,v7,rfl⟩:∃v0 v1 v2 v3 v4 v5 v6 v7,V=[v0,v1,v2,v3,v4,v5,v6,v7]:=by
   match V,hl8 with
   |[a,b,c,d,e,f,g,h],_=>exact⟨a,b,c,d,e,f,g,h,rfl⟩
  have b0:v0<iO:=hlt8 _ (by simp)
  have b1:v1<iO:=hlt8 _ (by simp)
  have b2:v2<iO:=hlt8 _ (by simp)
  have b4:v4<iO:=hlt8 _ (by simp)
  have b5:v5<iO:=hlt8 _ (by simp)
  have b6:v6<iO:=hlt8 _ (by simp)
  have q1:=dB o8
  have q2:=dB q1
  have q3:=dB q2
  have y2:aL w7 (dr (dr w8)) (λy=>y=v):=(x8.seq (aL.dr _ _)).seq (aL.dr _ _)
  have kk:=cK y2
  have ww:=cW y2
  obtain⟨K,hK⟩:∃K,K=kN.getD i 0:=⟨_,rfl⟩
  obtain⟨Wi,hWi⟩:∃Wi,Wi=W.getD i 0:=⟨_,rfl⟩
  rw[<-hK]at kk hnext
  rw[<-hWi]at ww hnext
  obtain⟨one,hone⟩:∃one,one=aBC [v0,v1,v2,v3,v4,v5,v6,v7] K Wi:=⟨_,rfl⟩
  obtain⟨two,htwo⟩:∃two,two=aFV [v0,v1,v2,v3,v4,v5,v6,v7]:=⟨_,rfl⟩
  have hnext:lB W s (i+1)=[(one+two)%iO,v0,v1,v2,(v3+one)%iO,v4,v5,v6]:=by rw[hnext,hone,htwo]<;>rfl
  have hone:one=((((v7+YB v4 6 11 25)%iO+((v4&&&v5)^^^((4294967295^^^v4)&&&v6)))%iO+K)%iO+Wi)%iO:=hone
  have htwo:two=(YB v0 2 13 22+((v0&&&v1)^^^(v0&&&v2)^^^(v1&&&v2)))%iO:=htwo
  have c10:=q1.cell (off:=0)
  have c14:=q1.cell (off:=4)
  have c27:=q2.cell (off:=7)
  have c25:=q2.cell (off:=5)
  have c26:=q2.cell (off:=6)
  have c31:=q3.cell (off:=1)
  have c32:=q3.cell (off:=2)
  simp only[aJQ,aLQ,aJz,aJF]at c10 c14 c27 c25 c26 c31 c32
  have t0:(0:Int).toNat=0:=rfl
  have t1:(1:Int).toNat=1:=rfl
  have t2:(2:Int).toNat=2:=rfl
  have t4:(4:Int).toNat=4:=rfl
  have t5:(5:Int).toNat=5:=rfl
  have t6:(6:Int).toNat=6:=rfl
  have t7:(7:Int).toNat=7:=rfl
  have g1:IntKind.u32.signed=false:=rfl
  have g2:IntKind.u32.max=4294967295:=rfl
  have e1:=wI b4 b5
  have n4:4294967295^^^v4<iO:=Af (by decide) b4
  have e2:aeY .u32 (4294967295:Int) (v4:Int)=((4294967295^^^v4:Nat):Int):=fF (a:=4294967295) (by decide) b4
  have e3:=wI n4 b6
  have e4:=fF (Cm v4 b5) (Cm (4294967295^^^v4) b6)
  have e5:=wI b0 b1
  have e6:=wI b0 b2
  have e7:=wI b1 b2
  have e8:=fF (Cm v0 b1) (Cm v0 b2)
  have e9:=fF (Af (Cm v0 b1) (Cm v0 b2)) (Cm v1 b2)
  have f1:=LK
  simp(disch:=omega)only[aA,fD,d1,yZ,t0,aJC,t4,t7,aO,Result.ok.injEq,Next.value.injEq,and_true,t5,t6,gG,aJE,t1,t2,uC,uB,fS,dI,aI,iA,true_and,c10,bL,c14,c27,c25,c26,auM,cN]
  refine(awK b4 ⟨by decide,by decide⟩ ⟨by decide,by decide⟩ ⟨by decide,by decide⟩ _).mono ?_
  rintro r w9 ⟨rfl,hw⟩
  rw[hw];clear hw w9
  simp(disch:=omega)only[c27,bL,fS,f1,c25,c26,g1,aJI,g2,if_false,e2,kk,Result.ok.injEq,Next.value.injEq,and_true,ww,c31,c32,aI,true_and,ahZ,e3,e1,Uv,e4]
  rw[<-hone]
  refine(awK b0 ⟨by decide,by decide⟩ ⟨by decide,by decide⟩ ⟨by decide,by decide⟩ _).mono ?_
  rintro r w9 ⟨rfl,hw⟩
  rw[hw];clear hw w9
  have sh1:Gp ⟨v,0,none⟩ 8 1 1=⟨v,0+1,none⟩:=VR (by omega)
  have sh0:Gp ⟨v,0,none⟩ 8 0 1=⟨v,0+0,none⟩:=VR (by omega)
  simp(disch:=omega)only[c31,bL,c32,sh1,aJC,sh0,aI,true_and,ahZ,e7,Result.ok.injEq,Next.value.injEq,and_true,e6,e5,Uv,e8,e9,fS,f1]
  rw[<-htwo]
  have q4:=dB q3
  have src:Sl (dr (dr (dr (dr w8)))) (.slice (some ⟨v,0,none⟩) (7-0) (8-0)) ([v0,v1,v2,v3,v4,v5,v6].map u32):=by
   refine⟨_,_,_,rfl,rfl,by omega,λ_=>⟨_,_,rfl,λk hk=> ?_⟩⟩
   rw[aJC,q4.cell]
   have hk:k<7:=hk
   match k,hk with
   |0,_=>rfl
   |1,_=>rfl
   |2,_=>rfl
   |3,_=>rfl
   |4,_=>rfl
   |5,_=>rfl
   |6,_=>rfl
  refine apN (off:=1) q4 (by simp) src (Ko _) λw9 o9 x9 s9=> ?_
  have o9:bD w9 v ([v0,v0,v1,v2,v3,v4,v5,v6].map u32):=o9
  have c4:=o9.cell (off:=4)
  simp only[aJQ,aLQ,aJz,aJF]at c4
  simp(disch:=omega)only[c4,bL,aI,fS,f1]
  refine rN o9 rfl (by simp) λw10 o10 x10 s10=> ?_
  refine rN o10 rfl (by simp) λw11 o11 x11 s11=> ?_
  refine⟨64-(i+1),by omega,i+1,rfl,rfl,by omega, ?_,((((((x8.seq (aL.dr _ _)).seq (aL.dr _ _)).seq (aL.dr _ _)).seq (aL.dr _ _)).seq x9).seq x10).seq x11⟩
  rw[hnext]
  exact o11
 have d1:decide ((i:Int)<64)=false:=by simp;omega
 obtain rfl:i=64:=by omega
 simp(disch:=omega)only[aA,fD,d1,yZ,aJC,aO,Result.ok.injEq,Next.value.injEq,and_true,uC,uB,fS,dI,aI,iA,true_and,bH]
 obtain⟨V,hV⟩:∃V,V=lB W s 64:=⟨_,rfl⟩
 rw[<-hV]at o8 hl8 hlt8 hwith
 unfold CZ CY Kf vV
 refine bM.rule (λm (t:aLX) w'=>∃i:Nat,m=8-i/\t= .int .i64 (i:Nat)/\i<=8/\bD w' v ((yH V s i).map u32)/\aL w7 w' (λy=>y=v)) 8 ⟨0,rfl,rfl,by omega,by rw[akP];exact o8,x8⟩ ?_
 clear o8 x8
 rintro m t w8 ⟨i,rfl,rfl,hi,o8,x8⟩
 unfold CX
 have hl9:(yH V s i).length=8:=by rw[Eu,hl8]
 by_cases hlt:i<8
 .have d1:decide ((i:Int)<8)=true:=by simp;omega
  have e1:bD w8 n (s.map u32):=a1.ext x8 (by omega)
  have q1:=dB o8
  have q2:=dB e1
  have c1:=o8.cell (off:=i)
  have c2:=e1.cell (off:=i)
  have c1':=q1.cell (off:=i)
  have c2':=q2.cell (off:=i)
  rw[vX (by omega),aoP (by omega)]at c1 c1'
  rw[vX (by omega)]at c2 c2'
  have f1:=LK
  simp(disch:=omega)only[aA,fD,d1,yZ,aJE,aJC,fS,dI,aI,true_and,iA,c1',bL,c2',f1,cN]
  refine rN (by first|exact q1|exact o8) rfl (by rw[aJy];omega) λw9 o9 x9 s9=> ?_
  refine⟨8-(i+1),by omega,i+1,rfl,rfl,by omega, ?_,by first|exact(x8.seq (aL.dr _ _)).seq x9|exact x8.seq x9⟩
  rw[<-aoQ (by omega),aKR]
  exact o9
 have d1:decide ((i:Int)<8)=false:=by simp;omega
 obtain rfl:i=8:=by omega
 simp(disch:=omega)only[aA,fD,d1,fS,dI,aI,true_and,bH]
 unfold CW
 rw[<-hwith]at o8 hl9
 have lv:=KU (off:=0) o8 (by rw[aJy];omega)
 rw[aJU,aJD (by rw[aJy];omega)]at lv
 have a3:=a3.ext x8 (by omega)
 simp(disch:=omega)only[aA,lv,aI]
 refine Lz a3 (by simp[hl9]) (λy hy=>Ko _ y (by simpa using hy)) (by simp) λw9 o9 x9 s9=> ?_
 have hset:eF (List.replicate 8 (Value.int .u32 0)) 0 ((Kq s b).map u32).toArray.toList=(Kq s b).map u32:=by
  rw[aJV]
  have:=jB ((Kq s b).map u32) [] (List.replicate 8 (Value.int .u32 0)) (by rw[aJy,hl9];decide)
  rw[aJX,aJX,aKy,aJy,hl9]at this
  rw[this];simp
 rw[hset]at o9
 refine alQ o9 (by rw[aJy];omega) ?_
 rw[aJU,aJD (by rw[aJy];omega)]
 exact⟨rfl,(x07.trans x8 λy hy h=>by omega).trans x9 λy hy h=>by omega⟩
def VO(vs:List Nat)(kept:List UInt8)(n all:Nat):List aLX:=vs.map u32++(kept.map gO++[.int .i64 (n:Int),.int .u64 (all:Int)])
theorem CU{vs:List Nat}{kept:List UInt8}{n all:Nat}(h1:vs.length=8)(h2:kept.length=64):(VO vs kept n all).length=74:=by simp[VO,h1,h2]
theorem aH7 {vs:List Nat}{kept:List UInt8}{n all:Nat}(i:Nat)(h:i<vs.length):(VO vs kept n all)[i]?=some (u32 (vs.getD i 0)):=by
 unfold VO;rw[aJW (by simpa using h),vX h]
theorem aAV{vs:List Nat}{kept:List UInt8}{n all:Nat}(h1:vs.length=8)(h2:kept.length=64):(VO vs kept n all)[72]?=some (.int .i64 (n:Int)):=by
 unfold VO
 rw[aJY (by simp[h1]),aJy,h1,aJY (by simp[h2]),aJy,h2]<;>rfl
theorem aAU{vs:List Nat}{kept:List UInt8}{n all:Nat}(h1:vs.length=8)(h2:kept.length=64):(VO vs kept n all)[73]?=some (.int .u64 (all:Int)):=by
 unfold VO
 rw[aJY (by simp[h1]),aJy,h1,aJY (by simp[h2]),aJy,h2]<;>rfl
theorem aoH{vs:List Nat}{kept:List UInt8}{n all:Nat}(h1:vs.length=8)(h2:kept.length=64)(m:Nat):(VO vs kept n all).set 72 (.int .i64 (m:Int))=VO vs kept m all:=by
 unfold VO
 rw[aKf _ _ (by simp[h1]),aJy,h1,aKf _ _ (by simp[h2]),aJy,h2]<;>rfl
theorem avT{vs:List Nat}{kept:List UInt8}{n all:Nat}(h1:vs.length=8)(h2:kept.length=64)(m:Nat):(VO vs kept n all).set 73 (.int .u64 (m:Int))=VO vs kept n m:=by
 unfold VO
 rw[aKf _ _ (by simp[h1]),aJy,h1,aKf _ _ (by simp[h2]),aJy,h2]<;>rfl
theorem aH6 {vs:List Nat}{kept:List UInt8}{n all:Nat}(h1:vs.length=8):((VO vs kept n all).drop 0).take 8=vs.map u32:=by
 unfold VO
 rw[aJU,aKd (by rw[aJy];omega),aJD (by rw[aJy];omega)]
theorem aEa{vs:List Nat}{kept:List UInt8}{n all:Nat}(h1:vs.length=8)(h2:kept.length=64):((VO vs kept n all).drop 8).take 64=kept.map gO:=by
 unfold VO
 rw[aKk (by rw[aJy];omega),aKs (by rw[aJy];omega),aJX,aKd (by rw[aJy];omega),aJD (by rw[aJy];omega)]
theorem aBZ{vs us:List Nat}{kept:List UInt8}{n all:Nat}(h1:vs.length=8)(h3:us.length=8):eF (VO vs kept n all) 0 (us.map u32)=VO us kept n all:=by
 unfold VO
 have:=jB (us.map u32) [] (vs.map u32++(kept.map gO++[.int .i64 (n:Int),.int .u64 (all:Int)])) (by rw[aJB,aJy,aJy];omega)
 rw[aJX,aJX,aKy,aJy]at this
 rw[this,aKk (by rw[aJy];omega),aKs (by rw[aJy];omega),aJX]
def lay(l:List UInt8)(o:Nat)(x:List UInt8):List UInt8:=l.take o++x++l.drop (o+x.length)
theorem aFh{l:List UInt8}{o:Nat}{x:List UInt8}(h:o+x.length<=l.length):(lay l o x).length=l.length:=by
 simp[lay];omega
theorem aFN{vs:List Nat}{kept:List UInt8}{n all o:Nat}{x:List UInt8}(h1:vs.length=8)(h:o+x.length<=kept.length):eF (VO vs kept n all) (8+o) (x.map gO)=VO vs (lay kept o x) n all:=by
 have e:VO vs kept n all=(vs.map u32++(kept.take o).map gO)++((kept.drop o).map gO++[.int .i64 (n:Int),.int .u64 (all:Int)]):=by
  unfold VO
  rw[aJS,<-aJS (List.map gO (kept.take o)),<-aJ7,aKI]
 have:=jB (x.map gO) (vs.map u32++(kept.take o).map gO) ((kept.drop o).map gO++[.int .i64 (n:Int),.int .u64 (all:Int)]) (by rw[aJB,aJy,aJy,aJO];omega)
 rw[aJB,aJy,aJy,aJL,aJ1 (by omega),h1]at this
 rw[e,this]
 unfold VO lay
 rw[aJy,aKk (by rw[aJy,aJO];omega),<-aLf,aLb,aJ7,aJ7]
 simp only[aJS]
def Ci(w:aLW)(b:Nat)(L:List UInt8)(all:Nat):Prop:=
 ∃kept,kept.length=64/\kept.take (L.length%64)=L.drop (64*(L.length/64))/\bD w b (VO (GW (L.length/64) L) kept (L.length%64) all)
theorem Ci.ext {w w':aLW}{b all:Nat}{L:List UInt8}{M:Nat->Prop}(h:Ci w b L all)(x:aL w w' M)(hM:¬M b):Ci w' b L all:=by
 obtain⟨kept,h1,h2,h3⟩:=h
 exact⟨kept,h1,h2,h3.ext x hM⟩
theorem Ci.lt {w:aLW}{b all:Nat}{L:List UInt8}(h:Ci w b L all):b<w.heap.size:=by
 obtain⟨kept,h1,h2,h3⟩:=h
 exact h3.lt
theorem aEb(w:aLW):aG pg Tb #[] w (λv w'=>v= .pointer (some ⟨w.heap.size,0,none⟩)/\Ci w' w.heap.size [] 0/\aL w w' aT/\w'.heap.size=w.heap.size+1):=by
 refine aqX ?_
 unfold aAW ajZ
 simp(disch:=omega)only[seval]
 refine cA λw1 o1 x1 s1=>⟨rfl,⟨List.replicate 64 0,rfl,rfl, ?_⟩,x1,s1⟩
 exact o1
theorem amP{w0:aLW}{b all:Nat}{L l:List UInt8}{R:aLW->Prop}(hg:lO w0)(hb0:0≠b/\1≠b)(hlen:L.length+l.length<=1099511627776)
 (hR:∀w',Ci w' b (L++l) all->aL w0 w' (λx=>x=b)->R w') {v:aLX} {w:aLW}
 (h:Ci w b L all) (hv:Bs w v l) (hb:¬fI v (λx=>x=b)) (hx:aL w0 w (λx=>x=b)):
 lC R (.pointer (some ⟨b,0,none⟩)) v w:=by
 unfold lC
 refine bM.rule (λn t w'=>∃m:Nat,m<=l.length/\n=l.length-m/\Bs w' t (l.drop m)/\¬fI t (λx=>x=b)/\Ci w' b (L++l.take m) all/\aL w0 w' (λx=>x=b)) l.length
  ⟨0,by omega,rfl,hv,hb,by simpa using h,hx⟩ ?_
 clear h hv hb hx
 rintro n t w' ⟨m,hm,rfl,hv,hb,⟨kept,h2,hk,ho⟩,hx⟩
 have hv':=hv
 obtain⟨a,n,c,rfl,hn,hc,hcell⟩:=hv'
 rw[aJy,aJO]at hn
 unfold CV
 by_cases hlt:m<l.length
 .obtain ⟨b',o',rfl,hcell'⟩:=hcell (by omega)
  have hd:decide ((0:Int)<(n:Int))=true:=by simp;omega
  have hM:(L++l.take m).length=L.length+m:=by simp;omega
  rw[hM]at hk ho
  obtain⟨q,hq⟩:∃q,q=(L.length+m)/64:=⟨_,rfl⟩
  obtain⟨r,hr⟩:∃r,r=(L.length+m)%64:=⟨_,rfl⟩
  rw[<-hq,<-hr]at hk ho
  have hqr:L.length+m=64*q+r/\r<64:=by omega
  have h1:(GW q (L++l.take m)).length=8:=An _ _
  have hod:=dB ho
  have c72:=hod.cell (off:=72)
  rw[aAV h1 h2]at c72
  have sh:=VR (b:=b) (o:=8) (show r≠64 by omega)
  have hvd:Bs (dr w') (.slice (some ⟨b',o',none⟩) n c) (l.drop m):=hv.ext (aL.dr w' aT) (by unfold fI aT;split<;>simp)
  simp(disch:=omega)only[seval,hd,c72,sh]
  refine JP hod (by rw[CU h1 h2];omega) hvd (DN _) λw1 o1 x1 s1=> ?_
  obtain⟨u,hu⟩:∃u,u=min n (64-r):=⟨_,rfl⟩
  have hlm:(List.map gO (l.drop m)).length=n:=by rw[aJy,aJO,hn]
  rw[hlm]at o1⊢
  rw[<-hu]at o1⊢
  have hu1:u<=n/\u<=64-r/\(u=n∨u=64-r):=by omega
  have hul:((l.drop m).take u).length=u:=by rw[aJL,aJO];omega
  rw[<-aLz,aFN h1 (by omega)]at o1
  obtain⟨kept1,hk1⟩:∃x,x=lay kept r ((l.drop m).take u):=⟨_,rfl⟩
  rw[<-hk1]at o1
  have h21:kept1.length=64:=by rw[hk1,aFh (by omega)];exact h2
  have c1:=o1.cell (off:=72)
  rw[aAV h1 h21]at c1
  have e1:(r:Int)+(u:Int)=((r+u:Nat):Int):=by omega
  simp(disch:=omega)only[seval,c1,e1]
  refine Db o1 rfl (by rw[CU h1 h21];omega) λw2 o2 x2 s2=> ?_
  rw[aoH h1 h21]at o2
  have hx2:aL w' w2 (λx=>x=b):=((aL.dr w' _).seq x1).seq x2
  have hv2:=hv.ext hx2 hb
  have hv3:=hv2.drop hu1.1
  have hb3:=aBu (k:=u) hb (by omega) (n-u)
  rw[<-aLf,aLb]at hv3
  have hM2:L++l.take (m+u)=(L++l.take m)++(l.drop m).take u:=by rw[aJS,List.take_add]
  have hacc:GW q (L++l.take (m+u))=GW q (L++l.take m):=by rw[hM2];exact aaD _ _ _ (by omega)
  have hlen2:(L++l.take (m+u)).length=L.length+(m+u):=by simp;omega
  have hkeep:kept1.take (r+u)=(L++l.take (m+u)).drop (64*q):=by
   rw[hk1,hM2,aKk (by omega),<-hk]
   unfold lay
   rw[aKd (by simp;omega),aJD (by simp;omega)]
  rw[<-hacc]at o2
  have h11:=An q (L++l.take (m+u))
  have c2:=o2.cell (off:=72)
  rw[aAV h11 h21]at c2
  by_cases hfull:r+u=64
  .have he:(((r+u:Nat):Int)==64)=true:=by rw[hfull]<;>rfl
   have od:=dB o2
   have ls:=KU (off:=0) od (by rw[CU h11 h21];omega)
   have lk:=Rw (off:=8) od (by rw[CU h11 h21];omega)
   rw[aH6 h11]at ls
   rw[aEa h11 h21]at lk
   simp(disch:=omega)only[seval,c2,he,ls,lk]
   rw[hfull]at hkeep
   refine(aB0 (hg.extM ((hx.seq hx2).seq (aL.dr _ _)) hb0.1 hb0.2) h11 (V5 _ _) h21).mono ?_
   rintro r' w3 ⟨rfl,x3⟩
   have o3:=od.ext x3 (λh=>h)
   have h13:=aoU kept1 h11
   refine Lz o3 (by simp[h13]) (λy hy=>Ko _ y (by simpa using hy)) (by rw[CU h11 h21];omega) λw4 o4 x4 s4=> ?_
   rw[aJV,aBZ h11 h13]at o4
   refine Db o4 rfl (by rw[CU h13 h21];omega) λw5 o5 x5 s5=> ?_
   have o5:bD w5 b ((VO (Kq (GW q (L++l.take (m+u))) kept1) kept1 (r+u) all).set 72 (.int .i64 ((0:Nat):Int))):=o5
   rw[aoH h13 h21]at o5
   have hx4:aL w2 w5 (λx=>x=b):=(((aL.dr w2 _).seq (x3.mono λ_ _ h=>h.elim)).seq x4).seq x5
   have hkk:kept1=(L++l.take (m+u)).drop (64*q):=by rw[<-hkeep,aJD (by omega)]
   refine⟨l.length-(m+u),by omega,m+u,by omega,rfl,hv3.ext hx4 hb3,hb3,⟨kept1,h21, ?_, ?_⟩,(hx.seq hx2).seq hx4⟩
   .have z:(L++l.take (m+u)).drop (64*((L.length+(m+u))/64))=[]:=List.drop_eq_nil_of_le (by rw[hlen2];omega)
    have z1:(L.length+(m+u))%64=0:=by omega
    rw[hlen2,z,z1]<;>rfl
   .have z1:(L.length+(m+u))%64=0:=by omega
    have z2:(L.length+(m+u))/64=q+1:=by omega
    have z3:kept1.take 64=kept1:=aJD (by omega)
    rw[hlen2,z1,z2,GW,<-hkk,z3]
    exact o5
  .have he:(((r+u:Nat):Int)==64)=false:=by rw[beq_eq_false_iff_ne];omega
   simp(disch:=omega)only[seval,c2,he]
   refine⟨l.length-(m+u),by omega,m+u,by omega,rfl,hv3,hb3,⟨kept1,h21, ?_, ?_⟩,hx.seq hx2⟩
   .rw [hlen2,show(L.length+(m+u))%64=r+u from by omega,show(L.length+(m+u))/64=q from by omega];exact hkeep
   .rw [hlen2,show(L.length+(m+u))%64=r+u from by omega,show(L.length+(m+u))/64=q from by omega];exact o2
 .have hd:decide ((0:Int)<(n:Int))=false:=by simp;omega
  have e:l.take m=l:=aJD (by omega)
  rw[e]at hk ho
  simp(disch:=omega)only[seval,hd]
  exact hR _ ⟨kept,h2,hk,ho⟩ hx
theorem ajY{b all:Nat}{L l:List UInt8}{v:aLX}{w:aLW}(hg:lO w)(hb0:0≠b/\1≠b)(hlen:L.length+l.length<=1099511627776)(hall:all+l.length<=1099511627776)(h:Ci w b L all)(hv:Bs w v l)(hb:¬fI v (λx=>x=b)):
 aG pg iL #[.pointer (some ⟨b,0,none⟩),v] w (λr w'=>r= .tuple #[]/\Ci w' b (L++l) (all+l.length)/\aL w w' (λx=>x=b)):=by
 refine T9 ?_
 unfold SH Kd Kc
 obtain⟨kept,h2,hk,ho⟩:=h
 have h1:=An (L.length/64) L
 obtain⟨va,vc,rfl,_⟩:=hv.len
 rw[aJy]at hv hb⊢
 have c73:=ho.cell (off:=73)
 rw[aAU h1 h2]at c73
 have e1:(all:Int)+(l.length:Int)=((all+l.length:Nat):Int):=by omega
 simp(disch:=omega)only[seval,c73,e1]
 refine MM ho rfl (by rw[CU h1 h2];omega) λw1 o1 x1 s1=> ?_
 rw[avT h1 h2]at o1
 unfold lC
 exact amP hg hb0 hlen (λw' h' x'=>⟨h',x'⟩) ⟨kept,h2,hk,o1⟩ (hv.ext x1 hb) hb x1
theorem aGU{w:aLW}{b:Nat}{x:UInt8}(o:bD w b [.int .u8 (x.toNat:Nat)]):Bs w (.slice (some ⟨b,0,none⟩) 1 1) [x]:=bD.bs (l:=[x]) (off:=0) (c:=1) o (by simp) λi hi=>by
 have hi:i<1:=hi
 obtain rfl:i=0:=by omega
 rfl
theorem akA{w:aLW}{b all:Nat}{L:List UInt8}{x:Nat}(hx:x<256){K:aLX->aLW->Prop}(hg:lO w)(hb0:0≠b/\1≠b)(hlen:L.length+1<=1099511627776)(hall:all+1<=1099511627776)(h:Ci w b L all)
 (hK:∀w',Ci w' b (L++[UInt8.ofNat x]) (all+1)->aL w w' (λy=>y=b)->K (.tuple #[]) w'):
 aA pg (bB 22 1 [(0,.int .u8 (x:Nat))]) w λt w=>aG pg iL #[.pointer (some ⟨b,0,none⟩),t] w K:=by
 refine kP (cells:= #[.int .u8 (x:Nat)]) (by decide) (by decide) (by kernel_rfl) λw1 o1 x1 s1=> ?_
 have hbl:=h.lt
 have hxx:(UInt8.ofNat x).toNat=x:=by rw[aKT];omega
 have o1:bD w1 w.heap.size [.int .u8 ((UInt8.ofNat x).toNat:Nat)]:=by rw[hxx];exact o1
 refine(ajY (hg.ext x1) hb0 (l:=[UInt8.ofNat x]) hlen hall (h.ext x1 (λh=>h)) (aGU o1) (λhi=> ?_)).mono ?_
 .have hi:w.heap.size=b:=hi
  omega
 rintro r w2 ⟨rfl,h2,x2⟩
 exact hK w2 h2 ((x1.mono λ_ _ h=>h.elim).seq x2)
theorem tL(xs cs:List aLX)(h:cs.length=xs.length):eF cs 0 xs=xs:=by
 have:=jB xs [] cs (by omega)
 rw[aJX,aKs (by omega),aKb,aJX]at this
 exact this
theorem aHu(n k:Nat)(hk:k<=(119-n%64)%64):((n+1+k)%64=56)↔k=(119-n%64)%64:=by omega
theorem aEc{b:Nat}{L:List UInt8}{w:aLW}(hg:lO w)(hlen:L.length<=1000000000)(h:Ci w b L L.length):
 aG pg Cc #[.pointer (some ⟨b,0,none⟩)] w (λr w'=>r= .agg ((Yq L).map gO).toArray/\aL w w' aT):=by
 refine Ys ?_
 obtain⟨RR,hRR⟩:∃RR:aLX->aLW->Prop,RR=λr w'=>r= .agg ((Yq L).map gO).toArray/\aL w w' aT:=⟨_,rfl⟩
 rw[<-hRR]
 unfold Yr ME MD
 obtain⟨hg0,hg1⟩:=hg.lt
 have hbl:=h.lt
 refine A0 λw1 o1 x1 s1=> ?_
 obtain⟨p,hp⟩:∃p,p=w.heap.size:=⟨_,rfl⟩
 rw[<-hp]at o1⊢
 have o1:bD w1 p (List.replicate 32 (.int .u8 0)):=o1
 obtain⟨kept,h2,hk,ho⟩:=h.ext x1 (λh=>h)
 have h1:=An (L.length/64) L
 have la:=aqA (off:=0) ho (by rw[CU h1 h2];omega)
 rw[aJU,aJD (by rw[CU h1 h2];omega)]at la
 simp(disch:=omega)only[seval,la]
 refine arV λw2 o2 x2 s2=> ?_
 obtain⟨q,hq⟩:∃q,q=w1.heap.size:=⟨_,rfl⟩
 rw[<-hq]at o2⊢
 have hone:∀y∈(VO (GW (L.length/64) L) kept (L.length%64) L.length).toArray.toList,one y=true:=λy hy=>by
  rw[aJV]at hy
  unfold VO at hy
  rcases aKc.1 hy with h|h
  .exact Ko _ y h
  .rcases aKc.1 h with h|h
   .obtain ⟨z,-,rfl⟩:=aKm.1 h;rfl
   .simp only[aJG,List.not_mem_nil,or_false]at h
    rcases h with rfl|rfl<;>rfl
 refine arA o2 (by rw[aKG,CU h1 h2]) hone (by simp) λw3 o3 x3 s3=> ?_
 have o3:bD w3 q (VO (GW (L.length/64) L) kept (L.length%64) L.length):=by
  rw[aJV,tL _ _ (by rw[CU h1 h2]<;>rfl)]at o3
  exact o3
 have z1:w1.heap.size=p+1:=by omega
 have hqp:q=p+1:=by omega
 have x03:aL w w3 aT:=(x1.seq x2).trans x3 λy hy h=>by omega
 have hS3:Ci w3 q L L.length:=⟨kept,h2,hk,o3⟩
 have r3:=(o1.ext x2 (λh=>h)).ext x3 (show¬p=q by omega)
 have bh3:Ci w3 b L L.length:=h.ext x03 (λh=>h)
 have hb0:0≠q/\1≠q:=⟨by omega,by omega⟩
 clear o1 o2 o3 x1 x2 x3 s1 s2 s3 la hone ho
 have keep:∀{w':aLW} {x:aLX},aL w3 w' (λy=>y=q)->lO w'/\bD w' p (List.replicate 32 (.int .u8 0))/\Ci w' b L L.length/\aL w w' aT:=λ{w' x} hx=>
  ⟨hg.ext (x03.trans hx λy hy h=>by omega),r3.ext hx (by omega),bh3.ext hx (by omega),x03.trans hx λy hy h=>by omega⟩
 refine akA (x:=128) (by decide) (hg.ext x03) hb0 (by omega) (by omega) hS3 λw4 h4 x4=> ?_
 unfold El zF
 obtain⟨z,hz⟩:∃z,z=(119-L.length%64)%64:=⟨_,rfl⟩
 refine bM.rule (λm (t:Unit) w'=>∃(k all:Nat),m=z-k/\k<=z/\all=L.length+1+k/\Ci w' q (L++[128]++List.replicate k 0) all/\aL w3 w' (λy=>y=q)) z ⟨0,_,rfl,by omega,rfl,by simpa using h4,x4⟩ ?_
 clear h4 x4
 rintro m _ w5 ⟨k,all,rfl,hkz,rfl,h5,x5⟩
 unfold Ek
 have hlk:(L++[128]++List.replicate k (0:UInt8)).length=L.length+1+k:=by simp;omega
 have c72:w5.cell? ⟨q,72,none⟩=some (.int .i64 (((L.length+1+k)%64:Nat):Int)):=by
  obtain⟨kp,g2,gk,go⟩:=h5
  rw[go.cell,aAV (An _ _) g2,hlk]
 obtain⟨hg5,r5,bh5,x05⟩:=keep (x:=undef) x5
 by_cases hlt:k<z
 .have d1:((((L.length+1+k)%64:Nat):Int) !=56)=true:=by
   rw[bne_iff_ne]
   have:=aHu L.length k (by omega)
   omega
  simp(disch:=omega)only[seval,c72,d1]
  refine akA (x:=0) (by decide) hg5 hb0 (by rw[hlk];omega) (by omega) h5 λw6 h6 x6=> ?_
  refine⟨z-(k+1),by omega,k+1,L.length+1+(k+1),rfl,by omega,rfl, ?_,x5.seq x6⟩
  rw[aLS,<-aJS]
  exact h6
 have d1:((((L.length+1+k)%64:Nat):Int) !=56)=false:=by
  rw[bne_eq_false_iff_eq]
  have:=(aHu L.length k (by omega)).2 (by omega)
  omega
 obtain rfl:k=z:=by omega
 simp(disch:=omega)only[seval,c72,d1]
 obtain⟨B,hB⟩:∃B,B=L++[128]++List.replicate k (0:UInt8):=⟨_,rfl⟩
 rw[<-hB]at h5 hlk
 unfold Ej Ei MC zD
 refine bM.rule (λm (t:aLX) w'=>∃(j:Nat),m=8-j/\j<=8/\t= .int .i64 (56-8*(j:Int))/\Ci w' q (B++beN (8*L.length) j) (L.length+1+k+j)/\aL w3 w' (λy=>y=q)) 8 ⟨0,rfl,by omega,rfl,by simpa[beN]using h5,x5⟩ ?_
 clear c72 d1 h5 x5 hg5 r5 bh5 x05 hlt
 rintro m t w6 ⟨j,rfl,hj,rfl,h6,x6⟩
 unfold Eh
 obtain⟨hg6,r6,bh6,x06⟩:=keep (x:=undef) x6
 by_cases hlt:j<8
 .have d1:decide ((0:Int)<=56-8*(j:Int))=true:=by simp;omega
  have c73:w6.cell? ⟨b,73,none⟩=some (.int .u64 (L.length:Nat)):=by
   obtain⟨kp,g2,gk,go⟩:=bh6
   rw[go.cell,aAU (An _ _) g2]
  have e1:(8:Int)*(L.length:Int)=((8*L.length:Nat):Int):=by omega
  have e2:(56-8*(j:Int)).toNat=56-8*j:=by omega
  have b64:IntKind.u64.bits=64:=rfl
  have m1:min (56-8*j) IntKind.u64.bits=56-8*j:=by rw[b64];omega
  have e3:=Lx (8*L.length) (56-8*j)
  have e4:IntKind.u8.wrap ((8*L.length/2^(56-8*j):Nat):Int)=((8*L.length/2^(56-8*j)%256:Nat):Int):=by
   generalize 8*L.length/2^(56-8*j)=y
   rw[show IntKind.u8.wrap (y:Int)=(y:Int)%256 from rfl];omega
  have e5:56-8*(j:Int)-8=56-8*((j+1:Nat):Int):=by omega
  have hBl:(B++beN (8*L.length) j).length=L.length+1+k+j:=by rw[aJB,hlk,aeZ]
  simp(disch:=omega)only[seval,d1,c73,e1,e2,m1,e3,e4,e5]
  refine akA (x:=8*L.length/2^(56-8*j)%256) (aLk _ (by decide)) hg6 hb0 (by rw[hBl];omega) (by omega) h6 λw7 h7 x7=> ?_
  refine⟨8-(j+1),by omega,j+1,rfl,by omega,rfl, ?_,x6.seq x7⟩
  rw[arZ,<-aJS]
  exact h7
 have d1:decide ((0:Int)<=56-8*(j:Int))=false:=by simp;omega
 obtain rfl:j=8:=by omega
 simp(disch:=omega)only[seval,d1]
 have hpad:B++beN (8*L.length) 8=ayG L:=by rw[hB,hz]<;>rfl
 rw[hpad]at h6
 have hpl:(ayG L).length%64=0:=by
  rw[<-hpad,aJB,hlk,aeZ]
  have:=(aHu L.length k (by omega)).2 hz
  omega
 obtain⟨st,hst⟩:∃st,st=GW ((ayG L).length/64) (ayG L):=⟨_,rfl⟩
 have hstl:st.length=8:=by rw[hst];exact An _ _
 have hst32:Cf st:=by rw[hst];exact V5 _ _
 have hsha:Yq L=Zt st 32:=by rw[hst]<;>rfl
 obtain⟨kp,g2,gk,go⟩:=h6
 rw[<-hst]at go
 clear d1 hlt hj hpad gk bh6 hg6
 unfold Gn Pj
 refine A0 λw7 o7 x7 s7=> ?_
 have o7:bD w7 w6.heap.size (List.replicate 32 (.int .u8 0)):=o7
 obtain⟨u,hu⟩:∃u,u=w6.heap.size:=⟨_,rfl⟩
 rw[<-hu]at o7⊢
 have q7:=go.ext x7 (λh=>h)
 have r7:=r6.ext x7 (λh=>h)
 have x07:=x06.seq x7
 have hql:=go.lt
 have hpl2:=r6.lt
 clear x6 x06 go r6 x7
 unfold Gm Gl Ph AW
 refine bM.rule (λm (t:aLX) w'=>∃(i:Nat),m=32-i/\i<=32/\t= .int .i64 (i:Nat)/\bD w' u ((Zt st i).map gO++List.replicate (32-i) (.int .u8 0))/\aL w7 w' (λy=>y=u)) 32 ⟨0,rfl,by omega,rfl,o7,aL.refl _ _⟩ ?_
 clear o7
 rintro m t w8 ⟨i,rfl,hi,rfl,o8,x8⟩
 unfold Gk
 have q8:=q7.ext x8 (show¬q=u by omega)
 by_cases hlt:i<32
 .have d1:decide ((i:Int)<32)=true:=by simp;omega
  have e1:(i:Int).tdiv 4=((i/4:Nat):Int):=by rw[aLy (by omega)];omega
  have e2:(i:Int).tmod 4=((i%4:Nat):Int):=by rw[Int.tmod_eq_emod_of_nonneg (by omega)];omega
  have e3:(24:Int)-((i%4:Nat):Int)*8=((24-i%4*8:Nat):Int):=by omega
  have c8:=q8.cell (off:=i/4)
  rw[aH7 _ (by omega)]at c8
  have b32:IntKind.u32.bits=32:=rfl
  have m1:min (24-i%4*8) IntKind.u32.bits=24-i%4*8:=by rw[b32];omega
  have e4:=Lx (st.getD (i/4) 0) (24-i%4*8)
  obtain⟨y,hy⟩:∃y,y=UInt8.ofNat (st.getD (i/4) 0/2^(24-i%4*8)%256):=⟨_,rfl⟩
  have e5:IntKind.u8.wrap ((st.getD (i/4) 0/2^(24-i%4*8):Nat):Int)=((y.toNat:Nat):Int):=by
   rw[hy,aKT]
   generalize st.getD (i/4) 0/2^(24-i%4*8)=z
   rw[show IntKind.u8.wrap (z:Int)=(z:Int)%256 from rfl];omega
  simp(disch:=omega)only[seval,d1,e1,e2,e3,c8,m1,e4,e5]
  refine akK o8 rfl (by rw[aJB,aJy,ID,aJ5];omega) λw9 o9 x9 s9=> ?_
  refine⟨32-(i+1),by omega,i+1,rfl,by omega,rfl, ?_,x8.seq x9⟩
  have e6:((Zt st i).map gO++List.replicate (32-i) (Value.int .u8 0)).set i (.int .u8 (y.toNat:Nat))=(Zt st (i+1)).map gO++List.replicate (32-(i+1)) (.int .u8 0):=by
   rw[aKf _ _ (by rw[aJy,ID];omega),aJy,ID,aKO,show 32-i=(32-(i+1))+1 from by omega,aLD,aJR,anS,<-hy,aJ7,aJS]
   rfl
  rw[e6]at o9
  exact o9
 have d1:decide ((i:Int)<32)=false:=by simp;omega
 obtain rfl:i=32:=by omega
 simp(disch:=omega)only[seval,d1]
 rw[<-hsha,aKO,aLp,aKb]at o8
 have hl32:((Yq L).map gO).length=32:=by rw[aJy,uA]
 unfold Gj
 have lo:=aaQ (off:=0) o8 (by omega)
 rw[aJU,aJD (by omega)]at lo
 have r8:=r7.ext x8 (show¬p=u by omega)
 simp(disch:=omega)only[seval,lo]
 refine FL r8 (by rw[aKG,hl32]) (λy hy=>DN _ y (by simpa using hy)) (by simp) λw9 o9 x9 s9=> ?_
 rw[aJV,tL _ _ (by rw[hl32];simp)]at o9
 refine Fm o9 (by omega) ?_
 rw[aJU,aJD (by omega),hRR]
 exact⟨rfl,(x07.trans x8 λy hy h=>by omega).trans x9 λy hy h=>by omega⟩
theorem aFO{l:List UInt8}{v:aLX}{w:aLW}(hg:lO w)(hv:Bs w v l)(hl:l.length<=1000000000):
 aG pg Qr #[v] w (λr w'=>r= .agg ((Yq l).map gO).toArray/\aL w w' aT):=by
 refine avU ?_
 unfold aEd aoJ
 refine A0 λw1 o1 x1 s1=> ?_
 have o1:bD w1 w.heap.size (List.replicate 32 (.int .u8 0)):=o1
 obtain⟨hg0,hg1⟩:=hg.lt
 refine(aEb w1).mono ?_
 rintro r w2 ⟨rfl,h2,x2,s2⟩
 have hv2:=hv.ext (x1.seq x2) (bC _)
 have hnb:¬fI v (λy=>y=w1.heap.size):=λh=>hv.old (bO h λb hb=>by omega)
 refine(ajY (L:=[]) (l:=l) (hg.ext (x1.seq x2)) ⟨by omega,by omega⟩ (by simp;omega) (by omega) h2 hv2 hnb).mono ?_
 rintro r w3 ⟨rfl,h3,x3⟩
 rw[aJX,aJC]at h3
 have x03:aL w w3 aT:=(x1.seq x2).trans x3 λy hy h=>by omega
 refine(aEc (hg.ext x03) hl h3).mono ?_
 rintro r w4 ⟨rfl,x4⟩
 have hl32:((Yq l).map gO).length=32:=by rw[aJy,uA]
 have r4:=((o1.ext x2 (λh=>h)).ext x3 (by omega)).ext x4 (λh=>h)
 refine FL r4 (by rw[aKG,hl32]) (λy hy=>DN _ y (by simpa using hy)) (by simp) λw5 o5 x5 s5=> ?_
 rw[aJV,tL _ _ (by rw[hl32];simp)]at o5
 refine Fm o5 (by omega) ?_
 rw[aJU,aJD (by omega)]
 exact⟨rfl,(x03.seq x4).trans x5 λy hy h=>by omega⟩
end Go.Proofs.YteelnmpbnaohpaaGreatDoor
namespace Go.Pu
def Dk:List UInt8->Nat
 |[]=>0
 |c::l=>c.toNat+256*Dk l
theorem G4:∀l:List UInt8,Dk l<256^l.length
 |[]=>by simp[Dk]
 |c::l=>by
  have:=G4 l
  have hc:=c.toNat_lt
  rw[Dk,aJT,aLn];omega
theorem Zr(c:UInt8):∀l:List UInt8,Dk (l++[c])=Dk l+256^l.length*c.toNat
 |[]=>by simp[Dk]
 |d::l=>by
  rw[aLa,Dk,Zr c l,Dk,aJT,aLn,Nat.mul_add,aKu,aLH (256^l.length) 256,Nat.mul_assoc]
theorem ayL(i:Nat):256^i=2^(8*i):=by rw[Nat.pow_mul]
theorem aFt(l:List UInt8)(c:UInt8):Dk l|||(c.toNat*2^(8*l.length))=Dk (l++[c]):=by
 have:=G4 l
 rw[ayL]at this
 rw[aGV this,Zr,ayL]
def tY(x:Nat):Nat->List UInt8
 |0=>[]
 |n+1=>UInt8.ofNat (x%256)::tY (x/256) n
theorem dW:∀(n x:Nat),(tY x n).length=n
 |0,_=>rfl
 |n+1,x=>by rw[tY,aJT,dW n]
theorem Zq:∀(n x:Nat),Dk (tY x n)=x%256^n
 |0,x=>by simp[tY,Dk,Nat.mod_one]
 |n+1,x=>by
  rw[tY,Dk,Zq n,aLn,aLH (256^n) 256,Nat.mod_mul]
  have:(UInt8.ofNat (x%256)).toNat=x%256:=by
   rw[aKT];omega
  rw[this]
theorem Ti:∀(n x:Nat),tY x (n+1)=tY x n++[UInt8.ofNat (x/256^n%256)]
 |0,x=>by simp[tY]
 |n+1,x=>by
  rw[tY,Ti n (x/256),tY,aLa,Nat.div_div_eq_div_mul,aLn,aLH (256^n) 256]
theorem aAw{n:Nat}(h:n<256):(UInt8.ofNat n).toNat=n:=by rw[aKT];omega
section
variable(cf:List UInt8->Nat)
def Fs(k v:Nat):List UInt8:=tY k 1++tY v 8
def mN(k v:Nat):List UInt8:=Fs k v++tY (cf (Fs k v)) 4
theorem mJ(k v:Nat):(mN cf k v).length=13:=by
 unfold mN Fs
 rw[aJB,aJB,dW,dW,dW]
def rdK(p:List UInt8):Nat:=Dk (p.take 1)
def rdV(p:List UInt8):Nat:=if p.length<9 then 0 else Dk ((p.drop 1).take 8)
def L7 (p:List UInt8):Bool:=(rdK p==1||rdK p==2)&&mN cf (rdK p) (rdV p)==p
def PY:Nat->List UInt8->List (Nat×Nat)
 |0,_=>[]
 |n+1,b=>if b=[]then[]else if L7 cf (b.take 13)then(rdK (b.take 13),rdV (b.take 13))::PY n (b.drop 13)else[]
def fY(b:List UInt8):List (Nat×Nat):=PY cf b.length b
def lQ(l:List (Nat×Nat)):List UInt8:=(l.map λr=>mN cf r.1 r.2).flatten
theorem kE:∀l:List (Nat×Nat),(lQ cf l).length=13*l.length
 |[]=>rfl
 |r::l=>by
  have:=kE l
  unfold lQ at*
  rw[aJQ,List.flatten_cons,aJB,mJ,this,aJT];omega
theorem Td{p:List UInt8}(h:L7 cf p=true):p.length=13:=by
 unfold L7 at h
 simp only[aJM,beq_iff_eq]at h
 rw[<-h.2,mJ]
theorem auV{k:Nat}(v:Nat)(hk:k<256):rdK (mN cf k v)=k:=by
 have e:(mN cf k v).take 1=tY k 1:=by
  unfold mN Fs
  rw[aJS,aKd (by rw[dW];omega),aJD (by rw[dW];omega)]
 unfold rdK
 rw[e,Zq];omega
theorem auW(k:Nat){v:Nat}(hv:v<2^64):rdV (mN cf k v)=v:=by
 have e:((mN cf k v).drop 1).take 8=tY v 8:=by
  unfold mN Fs
  rw[aJS,aKk (by rw[dW];omega),aKs (by rw[dW];omega),aJX,
    aKd (by rw[dW];omega),aJD (by rw[dW];omega)]
 unfold rdV
 rw[if_neg (by rw[mJ];omega),e,Zq]
 exact aKh (by omega)
def okR(r:Nat×Nat):Prop:=(r.1=1∨r.1=2)/\r.2<2^64
theorem axW{k v:Nat}(h:okR (k,v)):L7 cf (mN cf k v)=true:=by
 obtain⟨hk,hv⟩:=h
 have hk:k=1∨k=2:=hk
 unfold L7
 rw[auV cf v (by omega),auW cf k hv]
 simp;omega
theorem afJ:∀(n:Nat) (b:List UInt8),∀r∈PY cf n b,okR r
 |0,b,r,h=>by simp[PY]at h
 |n+1,b,r,h=>by
  rw[PY]at h
  split at h
  .simp at h
  .split at h
   .rename_i hg
    rcases aJG.1 h with rfl|h
    .have hl:=Td cf hg
     unfold L7 at hg
     simp only[aJM,aKq,beq_iff_eq]at hg
     refine⟨hg.1, ?_⟩
     show rdV _<_
     unfold rdV
     split
     .omega
     .have:=G4 (((b.take 13).drop 1).take 8)
      refine aKa this ?_
      rw[show(2:Nat)^64=256^8 from by decide]
      exact aK7 (by omega) (by rw[aJL];omega)
    .exact afJ n _ r h
   .simp at h
theorem Rx:∀(n:Nat) (b:List UInt8),13*(PY cf n b).length<=b.length
 |0,b=>by simp[PY]
 |n+1,b=>by
  rw[PY]
  split
  .simp
  .split
   .rename_i hg
    have:=Rx n (b.drop 13)
    have hl:=Td cf hg
    rw[aJL]at hl
    rw[aJO]at this
    rw[aJT];omega
   .simp
theorem anL:∀(l:List (Nat×Nat)) (n:Nat),(∀r∈l,okR r)->13*l.length<=n->PY cf n (lQ cf l)=l
 |[],n,_,_=>by cases n<;>simp[PY,lQ]
 |r::l,0,_,h=>by simp at h
 |r::l,n+1,hl,h=>by
  have e:lQ cf (r::l)=mN cf r.1 r.2++lQ cf l:=rfl
  have h13:=mJ cf r.1 r.2
  have h1:(lQ cf (r::l)).take 13=mN cf r.1 r.2:=by rw[e,aKd (by omega),aJD (by omega)]
  have h2:(lQ cf (r::l)).drop 13=lQ cf l:=by rw[e,aKk (by omega),aKs (by omega),aJX]
  have hne:lQ cf (r::l)≠[]:=λh=>by have:=congrArg List.length h;rw[kE]at this;simp at this
  have ho:okR r:=hl r aJ3
  rw[aJT]at h
  rw[PY,if_neg hne,h1,h2,axW cf ho,if_pos rfl,auV cf _ (by have:=ho.1;omega),auW cf _ ho.2,anL l n (λr hr=>hl r (aJP _ hr)) (by omega)]
theorem aBw{l:List (Nat×Nat)}(hl:∀r∈l,okR r):fY cf (lQ cf l)=l:=anL cf l _ hl (by rw[kE];omega)
theorem ayR(l:List (Nat×Nat))(r:Nat×Nat):lQ cf (l++[r])=lQ cf l++mN cf r.1 r.2:=by
 unfold lQ
 rw[aJ7,List.flatten_append]
 simp
end
def dT(k:Nat):List (Nat×Nat)->Nat
 |[]=>0
 |r::l=>if r.1=k then max r.2 (dT k l)else dT k l
theorem ahH(k:Nat)(r:Nat×Nat):∀l,dT k (l++[r])=if r.1=k then max r.2 (dT k l)else dT k l
 |[]=>rfl
 |s::l=>by
  rw[aLa,dT,ahH k r l,dT]
  split<;>split<;>omega
theorem ahG{k:Nat}:∀{l:List (Nat×Nat)},(∀r∈l,okR r)->dT k l<2^64
 |[],_=>by unfold dT;omega
 |r::l,h=>by
  have h1:=ahG (k:=k) (l:=l) λr hr=>h r (aJP _ hr)
  have h2:=(h r aJ3).2
  rw[dT]
  split<;>omega
def jT(L k:Nat):Nat:=if 0<L%k then L/k+1 else L/k
theorem AH{L k i:Nat}(hk:0<k):i<jT L k↔k*i<L:=by
 unfold jT
 have h1:=Nat.div_add_mod L k
 have h2:=aLk L hk
 generalize L/k=q at*
 generalize L%k=r at*
 split
 .constructor
  .intro h
   have:k*i<=k*q:=aK9 _ (by omega)
   omega
  .intro h
   by_cases h3:i<q+1
   .exact h3
   .have:k*(q+1)<=k*i:=aK9 _ (by omega)
    rw[Nat.mul_add]at this;omega
 .constructor
  .intro h
   have:k*(i+1)<=k*q:=aK9 _ (by omega)
   rw[Nat.mul_add]at this;omega
  .intro h
   by_cases h3:i<q
   .exact h3
   .have:k*q<=k*i:=aK9 _ (by omega)
    omega
theorem apJ{L k:Nat}(hk:0<k):jT L k<=L:=by
 by_cases h:jT L k=0
 .omega
 .have:=(AH (i:=jT L k-1) (L:=L) hk).1 (by omega)
  have h2:1*(jT L k-1)<=k*(jT L k-1):=aLU _ hk
  omega
def UY(L k i:Nat):Nat:=min (L-k*i) k
def B4 (L k i:Nat)(b:List UInt8):List UInt8:=(b.drop (k*i)).take (UY L k i)
theorem afM{L k i j:Nat}{b:List UInt8}:(B4 L k i b)[j]?=if j<UY L k i then b[k*i+j]? else none:=by
 unfold B4
 rw[List.getElem?_take]
 split
 .rw [aK1]
 .rfl
theorem Nx{L k i:Nat}{b:List UInt8}(h:b.length=L):(B4 L k i b).length=UY L k i:=by
 unfold B4 UY
 rw[aJL,aJO];omega
theorem aGX{L k i:Nat}{b f:List UInt8}(h:∀j,j<UY L k i->b[k*i+j]?=f[k*i+j]?):B4 L k i b=B4 L k i f:=by
 apply aLh
 intro j
 rw[afM,afM]
 split
 .exact h j (by assumption)
 .rfl
theorem aFB{L k i j:Nat}{b f:List UInt8}(h:B4 L k i b=B4 L k i f)(hj:j<UY L k i):b[k*i+j]?=f[k*i+j]?:=by
 have:=congrArg (λl=>l[j]?) h
 simp only[afM,if_pos hj]at this
 exact this
theorem aBs{L k:Nat}{b f:List UInt8}(hk:0<k)(hb:b.length=L)(hf:f.length=L)(h:∀i,i<jT L k->B4 L k i b=B4 L k i f):b=f:=by
 apply aLh
 intro j
 by_cases hj:j<L
 .have h1:=Nat.div_add_mod j k
  have h2:=aLk j hk
  have h3:=aFB (h (j/k) ((AH hk).2 (by omega))) (j:=j%k) (by unfold UY;omega)
  rw[h1]at h3
  exact h3
 .rw [aKp (by omega),aKp (by omega)]
theorem aFz{old b:List UInt8}{a:Nat}(h:a+b.length<=old.length):over old a b=old.take a++b++old.drop (a+b.length):=by
 unfold over
 rw[show max old.length (a+b.length)-old.length=0 from by omega,aLp,aKb]
theorem auG{old b:List UInt8}{a j:Nat}(h:a+b.length<=old.length):(over old a b)[j]?=if a<=j/\j<a+b.length then b[j-a]? else old[j]?:=by
 rw[aFz h]
 by_cases h1:j<a
 .rw [if_neg (by omega),aJS,aJW (by rw[aJL];omega),aKz h1]
 .by_cases h2:j<a+b.length
  .rw [if_pos ⟨by omega,h2⟩,aJS,aJY (by rw[aJL];omega),aJL,aJ1 (by omega),aJW (by omega)]
  .rw [if_neg (by omega),aJY (by rw[aJB,aJL];omega),aJB,aJL,aJ1 (by omega),aK1]
   congr 1;omega
theorem Yt{L k i:Nat}(h:k*i<L):k*i+UY L k i<=L:=by unfold UY;omega
theorem alT{L k i:Nat}{P f:List UInt8}(hP:P.length=L)(hf:f.length=L)(hi:k*i<L):B4 L k i (over P (k*i) (B4 L k i f))=B4 L k i f:=by
 have hl:=Nx (k:=k) (i:=i) hf
 have he:=Yt hi
 apply aLh
 intro j
 rw[afM]
 by_cases h:j<UY L k i
 .rw [if_pos h,auG (by omega),if_pos (by omega),show k*i+j-k*i=j from by omega]
 .rw [if_neg h,aKp (by omega)]
theorem ahX{L k i i':Nat}{P f:List UInt8}(hP:P.length=L)(hf:f.length=L)(hi:k*i<L)(hne:i'≠i):B4 L k i' (over P (k*i) (B4 L k i f))=B4 L k i' P:=by
 have hl:=Nx (k:=k) (i:=i) hf
 have he:=Yt hi
 apply aGX
 intro j hj
 rw[auG (by omega),if_neg]
 intro h
 have hs:j<k:=by unfold UY at hj;omega
 have hs2:UY L k i<=k:=by unfold UY;omega
 rcases Nat.lt_or_gt_of_ne hne with h1|h1
 .have:k*(i'+1)<=k*i:=aK9 _ h1
  rw[Nat.mul_add]at this;omega
 .have:k*(i+1)<=k*i':=aK9 _ h1
  rw[Nat.mul_add]at this;omega
theorem aDG(n:Nat):over [] 0 (List.replicate n 0)=List.replicate n 0:=by
 unfold over
 simp
theorem aDF{old b:List UInt8}:over old old.length b=old++b:=by
 unfold over
 rw[show max old.length (old.length+b.length)-old.length=b.length from by omega,aKd (aJK _),aJD (aJK _),aKs (by rw[aJB,aJ5];omega),aKb]
end Go.Pu
namespace Go.Proofs.YteelnmpbnaohpaaGreatDoor
open Go Go.En Go.Pu
set_option maxRecDepth 4000
theorem apM{L k:Nat}{w:aLW}(hL:L<=1000000000000)(h1:1<=k)(h2:k<=65536):
 aG pg uF #[.int .u64 (L:Nat),.int .i64 (k:Nat)] w (λr w'=>r=(if 1024<jT L k then .tuple #[.int .i64 0,.int .i64 12]else .tuple #[.int .i64 (jT L k:Nat),.int .i64 0])/\w'=w):=by
 refine YU ?_
 unfold aaE QJ QI
 have d1:decide ((k:Int)<1)=false:=by simp;omega
 have d2:decide ((65536:Int)<(k:Int))=false:=by simp;omega
 have e1:(L:Int).tdiv (k:Int)=((L/k:Nat):Int):=rfl
 have e2:(L:Int).tmod (k:Int)=((L%k:Nat):Int):=rfl
 have hq:L/k<=L:=aLE _ _
 have hm:=aLk L (show 0<k by omega)
 have hc:jT L k=if 0<L%k then L/k+1 else L/k:=rfl
 generalize L/k=q at*
 generalize L%k=r at*
 by_cases hr:0<r
 .rw [if_pos hr]at hc
  have d3:decide ((0:Int)<(r:Int))=true:=by simp only[decide_eq_true_eq];omega
  have e3:(q:Int)+1=((q+1:Nat):Int):=by omega
  rw[hc]
  by_cases hb:1024<q+1
  .have d4:decide ((1024:Int)<((q+1:Nat):Int))=true:=by simp only[decide_eq_true_eq];omega
   rw[if_pos hb]
   unfold qK
   simp(disch:=omega)only[aA,fD,d1,jA,hU,true_and,aI,aiA,e2,vU,d3,cN,Xd,e1,fS,e3,d4,mH,dI,pP,jH,aJI,if_false,gS,d2,and_true,bH]
  .have d4:decide ((1024:Int)<((q+1:Nat):Int))=false:=by simp only[decide_eq_false_iff_not];omega
   rw[if_neg hb]
   unfold qK
   simp(disch:=omega)only[aA,fD,d1,jA,hU,aI,aiA,e2,vU,d3,cN,Xd,e1,fS,e3,d4,mH,dI,true_and,bH,pP,jH,aJI,if_false,gS,d2,and_true]
 .rw [if_neg hr]at hc
  have d3:decide ((0:Int)<(r:Int))=false:=by simp only[decide_eq_false_iff_not];omega
  rw[hc]
  by_cases hb:1024<q
  .have d4:decide ((1024:Int)<(q:Int))=true:=by simp only[decide_eq_true_eq];omega
   rw[if_pos hb]
   unfold qK
   simp(disch:=omega)only[aA,fD,d1,jA,hU,true_and,aI,aiA,e2,vU,d3,bH,Xd,e1,d4,mH,dI,cN,pP,jH,aJI,if_false,gS,d2,and_true]
  .have d4:decide ((1024:Int)<(q:Int))=false:=by simp only[decide_eq_false_iff_not];omega
   rw[if_neg hb]
   unfold qK
   simp(disch:=omega)only[aA,fD,d1,jA,hU,aI,aiA,e2,vU,d3,bH,Xd,e1,d4,mH,dI,true_and,pP,jH,aJI,if_false,gS,d2,and_true]
theorem akH{L k i:Nat}{w:aLW}(hL:L<=1000000000000)(h1:1<=k)(h2:k<=65536)(hn:jT L k<=1024)(hi:i<jT L k):
 aG pg oN #[.int .u64 (L:Nat),.int .i64 (k:Nat),.int .i64 (i:Nat)] w (λr w'=>r= .tuple #[.int .u64 ((k*i:Nat):Int),.int .i64 (UY L k i:Nat),.int .i64 0]/\w'=w):=by
 refine acF ?_
 unfold agN Ue
 refine(apM hL h1 h2).mono ?_
 rintro r w1 ⟨rfl,hw⟩
 rw[hw];clear hw w1
 rw[if_neg (by omega)]
 have n0:((0:Int) !=0)=false:=rfl
 have d1:decide ((i:Int)<0)=false:=by simp
 have d2:decide (((jT L k:Nat):Int)<=(i:Int))=false:=by simp;omega
 have hlt:=(AH (L:=L) (k:=k) (i:=i) (by omega)).1 hi
 have e1:(k:Int)*(i:Int)=((k*i:Nat):Int):=by simp
 obtain⟨q,hq⟩:∃q,q=k*i:=⟨_,rfl⟩
 have e2:(L:Int)-((q:Nat):Int)=((L-q:Nat):Int):=by omega
 have e3:(if((k:Nat):Int)<((L-q:Nat):Int)then((k:Nat):Int)else((L-q:Nat):Int))=((UY L k i:Nat):Int):=by
  unfold UY
  rw[<-hq]
  split<;>omega
 rw[<-hq]at e1 hlt⊢
 simp(disch:=omega)only[aA,x20,x21,fD,d1,jA,hU,aI,Xb,e1,O2,e2,auO,e3,mH,dI,true_and,pP,jH,aJI,if_false,gS,Mm,n0,bH,Dr,d2,and_true]
theorem avY{w:aLW}{v:aLX}{l:List Bool}(h:Sl w v (l.map Value.bool)){i:Nat}(hi:i<l.length):∃a o c,v= .slice (some ⟨a,o,none⟩) l.length c/\w.cell? ⟨a,o+i,none⟩=some (.bool (l.getD i false)):=by
 obtain⟨a,n,c,rfl,hn,hc,hh⟩:=h
 rw[aJy]at hn
 obtain⟨b,off,rfl,h2⟩:=hh (by omega)
 have:=h2 i (by omega)
 rw[aJ0,aJA hi]at this
 refine⟨b,off,c,by rw[hn], ?_⟩
 rw[this,aJH,aJA hi]<;>rfl
theorem alK{l:List Bool}{i:Nat}(hi:i<l.length):(l.take (i+1)).contains false=((l.take i).contains false|| !(l.getD i false)):=by
 rw[aJZ hi,aJH,aJA hi]
 rw[List.contains_append]
 cases l[i]<;>simp
theorem akM{v:aLX}{l:List Bool}{w:aLW}(h:Sl w v (l.map Value.bool))(hl:l.length<=1000000000):
 aG pg BI #[v] w (λr w'=>r= .bool (!l.contains false)/\w'=w):=by
 refine akO ?_
 unfold aoN Yw
 refine JK ?_
 unfold FC BX
 refine OC ?_
 unfold Kj FI FH yA xZ FG pD
 obtain⟨va,vc,rfl,_⟩:=h.len
 rw[aJy]at h⊢
 simp(disch:=omega)only[aA,Nq,aI]
 refine bM.rule (λm (t:aLX) w'=>∃i:Nat,m=l.length-i/\i<=l.length/\t= .int .i64 (i:Nat)/\(l.take i).contains false=false/\w'=w) l.length ⟨0,rfl,by omega,rfl,rfl,rfl⟩ ?_
 rintro m t w' ⟨i,rfl,hi,rfl,hc,hw⟩
 rw[hw];clear hw w'
 unfold xY
 by_cases hlt:i<l.length
 .have d1:decide ((i:Int)<(l.length:Int))=true:=by simp;omega
  obtain⟨a,o,c,hv,hcell⟩:=avY h hlt
  cases hv
  have ht:=alK hlt
  rw[hc,aLe]at ht
  cases hb:l.getD i false with
  |true=>
   rw[hb]at hcell ht
   have e:(false==true)=false:=rfl
   simp(disch:=omega)only[aA,fD,d1,H7,aJE,Dr,aI,Xc,fS,dI,AO,hcell,bL,LM,e,and_true,bH,cN]
   exact⟨l.length-(i+1),by omega,i+1,rfl,by omega,rfl,ht⟩
  |false=>
   rw[hb]at hcell ht
   have e:(false==false)=true:=rfl
   have d2:decide ((0:Int)<=(i:Int))=true:=by simp
   have hall:l.contains false=true:=by
    have hm:false∈l.take (i+1):=by simpa using ht
    simpa using aLj hm
   rw[hall]
   simp(disch:=omega)only[aA,fD,d1,H7,aJE,Dr,d2,aKU,aI,Xc,true_and,fS,dI,AO,hcell,bL,LM,e,and_true,cN]
 .have d1:decide ((i:Int)<(l.length:Int))=false:=by simp;omega
  rw[aJD (by omega)]at hc
  rw[hc]
  unfold xV
  have d2:decide ((0:Int)<= -1)=false:=rfl
  simp(disch:=omega)only[aA,fD,d1,Dr,aKD,aI,Xc,fS,dI,d2,true_and,bH]
theorem aBq{v u:aLX}{l m:List UInt8}{w:aLW}(h:Bs w v l)(hu:Bs w u m)(hl:l.length<=1000000000)(hm:m.length<=1000000000):
 aG pg qA #[v,u] w (λr w'=>r= .bool (l==m)/\aL w w' aT):=by
 refine OB ?_
 obtain⟨RR,hRR⟩:∃RR:aLX->aLW->Prop,RR=λr w'=>r= .bool (l==m)/\aL w w' aT:=⟨_,rfl⟩
 rw[<-hRR]
 unfold Ki FF FE
 obtain⟨va,vc,rfl,_⟩:=h.len
 obtain⟨ua,uc,rfl,_⟩:=hu.len
 rw[aJy]at h⊢
 rw[aJy]at hu⊢
 by_cases hne:l.length=m.length
 rotate_left
 .have d1:(((l.length:Nat):Int) !=((m.length:Nat):Int))=true:=by rw[bne_iff_ne];omega
  have e:(l==m)=false:=beq_eq_false_iff_ne.2 λe=>hne (by rw[e])
  simp(disch:=omega)only[aA,mI,aI,Mm,d1,cN]
  rw[hRR]
  exact⟨by rw[e],aL.refl _ _⟩
 have d1:(((l.length:Nat):Int) !=((m.length:Nat):Int))=false:=by rw[bne_eq_false_iff_eq];omega
 simp(disch:=omega)only[aA,mI,aI,Mm,d1,bH]
 unfold xU xT FD pC
 simp(disch:=omega)only[aA,mI,aI]
 refine bM.rule (λn (t:aLX) w'=>∃i:Nat,n=l.length-i/\i<=l.length/\t= .int .i64 (i:Nat)/\l.take i=m.take i/\aL w w' aT) l.length ⟨0,rfl,by omega,rfl,rfl,aL.refl _ _⟩ ?_
 rintro n t w' ⟨i,rfl,hi,rfl,hc,x'⟩
 unfold xS
 by_cases hlt:i<l.length
 .have d2:decide ((i:Int)<(l.length:Int))=true:=by simp;omega
  have xd:aL w (dr w') aT:=x'.seq (aL.dr _ _)
  have cell:∀{w':aLW},aL w w' aT->∃b off b' off',va=some ⟨b,off,none⟩/\ua=some ⟨b',off',none⟩/\w'.cell? ⟨b,off+i,none⟩=some (.int .u8 ((l[i]'hlt).toNat:Nat))/\w'.cell? ⟨b',off'+i,none⟩=some (.int .u8 ((m[i]'(by omega)).toNat:Nat)):=λ{w'} x=>by
   obtain⟨b,off,c',hv,hc',hcell⟩:=(h.ext x (bC _)).openV (by rw[aJy];omega)
   obtain⟨b',off',c'',hv',hc'',hcell'⟩:=(hu.ext x (bC _)).openV (by rw[aJy];omega)
   have g1:=hcell i (by rw[aJy];exact hlt)
   have g2:=hcell' i (by rw[aJy];omega)
   rw[aLm]at g1 g2
   rw[aJy]at hv hv'
   cases hv
   cases hv'
   exact⟨_,_,_,_,rfl,rfl,g1,g2⟩
  obtain⟨b,off,b',off',rfl,rfl,g1,g2⟩:=cell x'
  obtain⟨_,_,_,_,e1,e2,g1',g2'⟩:=cell xd
  cases e1
  cases e2
  by_cases hq:l[i]'hlt=m[i]'(by omega)
  .have d3:((((l[i]'hlt).toNat:Nat):Int) !=(((m[i]'(by omega)).toNat:Nat):Int))=false:=by rw[hq];simp
   simp(disch:=omega)only[aA,fD,d2,wX,aJE,fS,dI,aI,As,true_and,g1',bL,g2',Mm,d3,bH,cN]
   refine⟨l.length-(i+1),by omega,i+1,rfl,by omega,rfl, ?_,xd⟩
   rw[aJZ hlt,aJZ (by omega),hc,hq]
  .have d3:((((l[i]'hlt).toNat:Nat):Int) !=(((m[i]'(by omega)).toNat:Nat):Int))=true:=by
    rw[bne_iff_ne]
    intro he
    exact hq (UInt8.toNat_inj.1 (by exact_mod_cast he))
   have e:(l==m)=false:=beq_eq_false_iff_ne.2 λe=>hq (by subst e;rfl)
   simp(disch:=omega)only[aA,fD,d2,wX,aJE,fS,dI,aI,As,true_and,g1',bL,g2',Mm,d3,cN]
   rw[hRR]
   exact⟨by rw[e],xd⟩
 .have d2:decide ((i:Int)<(l.length:Int))=false:=by simp;omega
  rw[aJD (by omega),aJD (by omega)]at hc
  unfold xR
  simp(disch:=omega)only[aA,fD,d2,fS,dI,aI,true_and,bH]
  rw[hRR]
  exact⟨by rw[hc];simp,x'⟩
end Go.Proofs.YteelnmpbnaohpaaGreatDoor
namespace Go.En
open Go
section
variable{P:Program}{w:aLW}{t e:TypeId}
theorem SX{i:TypeInfo}(hu:P.underlying t=some (.slice e))(hi:P.info? e=some i)
 {K:aLX->aLW->Prop} (hk:∀w',bD w' w.heap.size []->aL w w' aT->w'.heap.size=w.heap.size+1->K (.slice (some ⟨w.heap.size,0,none⟩) 0 0) w'):
 aA P (bB t 0 []) w K:=by
 have:(bB t 0 []).run P w= .ok (.value (.slice (some ⟨w.heap.size,0,none⟩) 0 0)) (w.alloc (.cells ([]:List aLX).toArray e)):=by
  unfold bB;rw[iW]
  have h1:¬(0>2^24):=by omega
  have e:∀f:Nat->aLX,Array.map f (Array.range 0)= #[]:=λf=>by simp
  simp only[Instr.buildSlice,underlying,pure_bind,Sem.run_bind,run_program,Result.andThen_ok,hu,Sem.run_pure,dZ hi,aLV,h1,if_false,if_true,newRow,run_newObj,Instr.fill,e]
  rfl
 unfold aA
 rw[this]
 exact hk _ (bD.alloc _ _ _) (aL.alloc _ _ _) (by simp)
def At(v:aLX)(b:Nat):Prop:=∀M:Nat->Prop,¬M b->¬fI v M
theorem At.nil (c b:Nat)(a:Option Addr):At (.slice a 0 c) b:=λM h=>by unfold fI;split<;>simp_all
theorem At.at (b o n c:Nat):At (.slice (some ⟨b,o,none⟩) n c) b:=λM h=>by
 unfold fI;split
 .rename_i x m _ e
  obtain⟨rfl,_⟩:(⟨b,o,none⟩:Addr)=x/\_:=by simpa using e
  exact h
 .simp
theorem kW.at' {w:aLW}{base sz n:Nat}{v:aLX}{l:List aLX}(h:kW w base sz v n l)(hb:base<w.heap.size):∃b,base<=b/\b<w.heap.size/\At v b:=by
 rcases h.2 with⟨rfl,rfl⟩|⟨b,c,rest,rfl,h2,h3,h4,h5⟩
 .exact ⟨base,aJK _,hb,At.nil _ _ _⟩
 .exact ⟨b,h2,h3.lt,At.at _ _ _ _⟩
end
end Go.En
namespace Go.Proofs.YteelnmpbnaohpaaGreatDoor
open Go Go.En Go.Pu
set_option maxRecDepth 4000
def ayD:ByteArray:=⟨#[0,1,2,2,3,3,3,3,4,4,4,4,4,4,4,4,5,5,5,5,5,5,5,5,5,5,5,5,5,5,5,5,6,6,6,6,6,6,6,6,6,6,6,6,6,6,6,6,6,6,6,6,6,6,6,6,6,6,6,6,6,6,6,6,7,7,7,7,7,7,7,7,7,7,7,7,7,7,7,7,7,7,7,7,7,7,7,7,7,7,7,7,7,7,7,7,7,7,7,7,7,7,7,7,7,7,7,7,7,7,7,7,7,7,7,7,7,7,7,7,7,7,7,7,7,7,7,7,8,8,8,8,8,8,8,8,8,8,8,8,8,8,8,8,8,8,8,8,8,8,8,8,8,8,8,8,8,8,8,8,8,8,8,8,8,8,8,8,8,8,8,8,8,8,8,8,8,8,8,8,8,8,8,8,8,8,8,8,8,8,8,8,8,8,8,8,8,8,8,8,8,8,8,8,8,8,8,8,8,8,8,8,8,8,8,8,8,8,8,8,8,8,8,8,8,8,8,8,8,8,8,8,8,8,8,8,8,8,8,8,8,8,8,8,8,8,8,8,8,8,8,8,8,8,8,8]⟩
theorem Zn:ayD.size=256:=by decide
set_option maxRecDepth 100000 in
theorem aDm(x:Nat)(h:x<256):(ayD[x]'(by rw[Zn];exact h)).toNat=bl x:=by
 have:∀k:Fin 256,(ayD.data[k.val]!).toNat=bl k.val:=by decide+kernel
 have h2:=this ⟨x,h⟩
 simp only at h2
 rw[<-h2]
 have hs:x<ayD.data.size:=by have:=Zn;exact(show ayD.data.size=256 from this)▸h
 rw[getElem!_pos ayD.data x hs]
 rfl
theorem agM{x j:Nat}(h:2^j<=x):bl x=bl (x/2^j)+j:=by
 have hp:=Nat.two_pow_pos j
 have h0:x/2^j≠0:=by
  have:=Nat.div_pos h hp
  omega
 have a:=aF5 h0
 have b:=aF6 (x/2^j)
 have c:=aGE h0
 obtain⟨m,hm⟩:∃m,bl (x/2^j)=m+1:=⟨bl (x/2^j)-1,by omega⟩
 rw[hm,Nat.add_sub_cancel]at a
 rw[hm]at b⊢
 have h1:2^(m+j)<=x:=by
  rw[Nat.pow_add]
  exact aKZ (aLU _ a) (Nat.div_mul_le_self _ _)
 have h2:x<2^(m+j+1):=by
  rw[show m+j+1=(m+1)+j from by omega,Nat.pow_add]
  exact(Nat.div_lt_iff_lt_mul hp).1 b
 rw[aHM h1 h2];omega
theorem atQ{x n:Nat}(hx:x<256)(hn:n<=1000)(R:aLX->aLW->Prop)(w:aLW)(h:R (.int .i64 ((n+bl x:Nat):Int)) w):
 tH R (.int .u64 x) (.int .i64 n) w:=by
 have hg:=aDm x hx
 have hs:=Zn
 have hb:bl x<=8:=asA (n:=8) (by omega)
 unfold tH
 change aA pg _ w λt21 w=>aA pg (VL 9 (.string ayD) t21) w _
 simp(disch:=omega)only[aA,AJ,aCf,aI,BR,aJE,hg,GY,dI,fS]
 rw[Int.natCast_add]at h
 exact h
theorem aC0 (a b:Nat):((a:Int)).fdiv (b:Int)=((a/b:Nat):Int):=by rw[Int.fdiv_eq_ediv_of_nonneg _ (by omega)]<;>rfl
theorem afO(x j:Nat)(hj:j<=64):((x:Int)).fdiv (2^(min (j:Nat) IntKind.u64.bits))=((x/2^j:Nat):Int):=by
 have e:min j IntKind.u64.bits=j:=by simp only[IntKind.bits];omega
 rw[e,<-aC0];simp
theorem aFk(x:Nat)(hx:x<18446744073709551616)(w:aLW):aG pg vM #[.int .u64 x] w (λr w'=>r= .int .i64 (bl x:Nat)/\w'=w):=by
 refine RI ?_
 unfold O0 IA Iz
 have step8:∀(y n:Nat),y<65536->n<=64->n+bl y=bl x->tI (λr w'=>r= .int .i64 (bl x:Nat)/\w'=w) (.int .u64 y) (.int .i64 n) w:=by
  intro y n hy hn e
  unfold tI Ix
  by_cases h:256<=y
  .have d:decide ((256:Int)<=(y:Int))=true:=by simp;omega
   have sh:=afO y 8 (by omega)
   have hq:y/2^8<256:=by omega
   have:=agM (x:=y) (j:=8) (by omega)
   have e2:(n:Int)+8=((n+8:Nat):Int):=by omega
   simp(disch:=omega)only[aA,Dr,d,O1,fS,e2,dI,aI,cN]
   rw[show(8:Int).toNat=8 from rfl,sh]
   exact atQ hq (by omega) _ _ ⟨by rw[<-e,this];congr 2;omega,rfl⟩
  .have d:decide ((256:Int)<=(y:Int))=false:=by simp;omega
   simp(disch:=omega)only[aA,Dr,d,O1,fS,dI,aI,bH]
   exact atQ (by omega) (by omega) _ _ ⟨by rw[e],rfl⟩
 have step16:∀(y n:Nat),y<4294967296->n<=32->n+bl y=bl x->tJ (λr w'=>r= .int .i64 (bl x:Nat)/\w'=w) (.int .u64 y) (.int .i64 n) w:=by
  intro y n hy hn e
  unfold tJ Iy
  by_cases h:65536<=y
  .have d:decide ((65536:Int)<=(y:Int))=true:=by simp;omega
   have sh:=afO y 16 (by omega)
   have hq:y/2^16<65536:=by omega
   have:=agM (x:=y) (j:=16) (by omega)
   have e2:(n:Int)+16=((n+16:Nat):Int):=by omega
   simp(disch:=omega)only[aA,Dr,d,O1,fS,e2,dI,aI,cN]
   rw[show(16:Int).toNat=16 from rfl,sh]
   exact step8 _ _ hq (by omega) (by rw[<-e,this];omega)
  .have d:decide ((65536:Int)<=(y:Int))=false:=by simp;omega
   simp(disch:=omega)only[aA,Dr,d,O1,fS,dI,aI,bH]
   exact step8 _ _ (by omega) (by omega) e
 by_cases h:4294967296<=x
 .have d:decide ((4294967296:Int)<=(x:Int))=true:=by simp;omega
  have sh:=afO x 32 (by omega)
  have hq:x/2^32<4294967296:=by omega
  have:=agM (x:=x) (j:=32) (by omega)
  simp(disch:=omega)only[aA,Dr,d,O1,aI,cN]
  rw[show(32:Int).toNat=32 from rfl,sh]
  exact step16 _ 32 hq (by omega) (by rw[this];omega)
 .have d:decide ((4294967296:Int)<=(x:Int))=false:=by simp;omega
  simp(disch:=omega)only[aA,Dr,d,O1,aI,bH]
  exact step16 _ 0 (by omega) (by omega) (by omega)
theorem aHU(x:Nat)(hx:x<18446744073709551616)(w:aLW):aG pg AG #[.int .u64 x] w (λr w'=>r= .int .i64 (bl x:Nat)/\w'=w):=by
 refine Vr ?_
 simp(disch:=omega)only[Us,Mg,aA,Cx,aI,bH]
 exact aFk x hx w
theorem afC{v:aLX}{l:List UInt8}{w:aLW}(h:Bs w v l)(hl:l.length<=1000000000):
 aG pg fL #[v] w (λr w'=>kW w' w.heap.size 1 r l.length (l.map gO)/\aL w w' aT):=by
 refine JI ?_
 have h1:=h
 obtain⟨a,n,c,rfl,hn,hc,hh⟩:=h
 rw[aJy]at hn
 unfold Fx BV
 cases a with
 |none=>
  have h0:l=[]:=by
   cases l with
   |nil=>rfl
   |cons x l=>obtain⟨b,off,h,_⟩:=hh (by simp at hn;omega);cases h
  subst h0
  simp(disch:=omega)only[aA,Az,aK3,aI,cN]
  exact⟨kW.nil _ _ _,aL.refl _ _⟩
 |some x=>
  simp(disch:=omega)only[aA,Az,aKL,aI,bH]
  refine SX Tryz.underlying22 Ma λw1 o1 x1 s1=> ?_
  have hcl1:=(h1.ext x1 (bC _)).cl
  rw[aJy]at hcl1
  have hos:kW w1 w.heap.size 1 (.slice (some ⟨w.heap.size,0,none⟩) 0 0) 0 []:=⟨rfl,.inr ⟨_,0,[],rfl,aJK _,o1,rfl,aJK _⟩⟩
  refine iQ hos hcl1 (DN _) x1.size (by omega) λv3 w3 o3 x3=> ?_
  rw[aJC,aJX]at o3
  exact⟨o3,x1.trans x3 λb hb h=>Nat.not_le_of_lt hb h⟩
def AtI(v:aLX)(lo hi:Nat):Prop:=∀M:Nat->Prop,(∀b,lo<=b->b<hi->¬M b)->¬fI v M
theorem kW.atI {w:aLW}{base sz n:Nat}{v:aLX}{l:List aLX}(h:kW w base sz v n l):AtI v base w.heap.size:=by
 intro M hM
 rcases h.2 with⟨rfl,rfl⟩|⟨b,c,rest,rfl,h2,h3,h4,h5⟩
 .exact λh=>h
 .exact At.at b 0 n c M (hM b h2 h3.lt)
def Fwd(w:aLW)(lo hi:Nat)(l:List UInt8)(st:Nat):Prop:=∃v,bD w hi [v,.int .i64 st]/\Bs w v l/\AtI v lo hi
theorem Fwd.ext {w w':aLW}{lo hi st:Nat}{l:List UInt8}{M:Nat->Prop}(h:Fwd w lo hi l st)(hx:aL w w' M)(hM:∀b,lo<=b->b<=hi->¬M b)(hlh:lo<=hi):Fwd w' lo hi l st:=by
 obtain⟨v,h1,h2,h3⟩:=h
 exact⟨v,h1.ext hx (hM _ hlh (aJK _)),h2.ext hx (h3 M λb hb hh=>hM b hb (by omega)),h3⟩
theorem AtI.sub {a:Option Addr}{n c m c' k sz lo hi:Nat}(h:AtI (.slice a n c) lo hi)(hm:m<=n):AtI (.slice (dD a c k sz) m c') lo hi:=by
 intro M hM hin
 cases m with
 |zero=>unfold fI at hin;split at hin<;>simp_all
 |succ m=>
  obtain⟨n',rfl⟩:∃n',n=n'+1:=⟨n-1,by omega⟩
  have h1:=h M hM
  cases a with
  |none=>unfold dD at hin;split at hin<;>exact hin
  |some x=>
   unfold dD at hin
   have h2:M x.block:=by
    split at hin
    .exact hin
    .rw [aKo]at hin
     have e:(x.add (k*sz)).block=x.block:=by unfold Addr.add;split<;>rfl
     have h3:M (x.add (k*sz)).block:=hin
     rwa [e]at h3
   exact h1 h2
def AtS(v:aLX)(S:Nat->Prop):Prop:=∀M:Nat->Prop,(∀b,S b->¬M b)->¬fI v M
theorem AtI.toS {v:aLX}{lo hi:Nat}{S:Nat->Prop}(h:AtI v lo hi)(hS:∀b,lo<=b->b<hi->S b):AtS v S:=λM hM=>h M λb h1 h2=>hM b (hS b h1 h2)
theorem AtS.mono {v:aLX}{S T:Nat->Prop}(h:AtS v S)(hT:∀b,S b->T b):AtS v T:=λM hM=>h M λb hb=>hM b (hT b hb)
theorem AtS.nil (S:Nat->Prop):AtS (.slice none 0 0) S:=λM _ h=>h
theorem AtS.sub {a:Option Addr}{n c m c' k mx sz:Nat}{S:Nat->Prop}(h:AtS (.slice a n c) S)(hm:m<=n):AtS (.slice (dD a mx k sz) m c') S:=by
 intro M hM hin
 cases m with
 |zero=>unfold fI at hin;split at hin<;>simp_all
 |succ m=>
  obtain⟨n',rfl⟩:∃n',n=n'+1:=⟨n-1,by omega⟩
  have h1:=h M hM
  cases a with
  |none=>unfold dD at hin;split at hin<;>exact hin
  |some x=>
   unfold dD at hin
   have h2:M x.block:=by
    split at hin
    .exact hin
    .rw [aKo]at hin
     have e:(x.add (k*sz)).block=x.block:=by unfold Addr.add;split<;>rfl
     have h3:M (x.add (k*sz)).block:=hin
     rwa [e]at h3
   exact h1 h2
theorem aH8 {w:aLW}{a:Option Addr}{n c:Nat}{l:List aLX}(h:Sl w (.slice a n c) l){k:Nat}(hk:k<=n):Sl w (.slice (dD a k 0 1) (k-0) (k-0)) (l.take k):=by
 obtain⟨a',n',c',e,hn,hc,h⟩:=h
 cases e
 refine⟨_,_,_,rfl,by rw[aJL];omega,aJK _,λh0=> ?_⟩
 obtain⟨b,off,rfl,h2⟩:=h (by omega)
 have hs:dD (some ⟨b,off,none⟩) k 0 1=some ⟨b,off+0*1,none⟩:=by unfold dD;rw[if_neg (by omega)]<;>rfl
 refine⟨b,off,by rw[hs];simp,λi hi=> ?_⟩
 rw[aKz (by omega)]
 exact h2 i (by omega)
def Rdr(w:aLW)(lo hi p:Nat)(l:List UInt8)(e:Int):Prop:=lo<=p/\p<hi/\∃v,bD w p [v,.int .i64 e]/\Bs w v l/\AtS v (λb=>lo<=b/\b<hi/\b≠p)
theorem Rdr.ext {w w':aLW}{lo hi p:Nat}{l:List UInt8}{e:Int}{M:Nat->Prop}(h:Rdr w lo hi p l e)(x:aL w w' M)(hM:∀b,lo<=b->b<hi->¬M b):Rdr w' lo hi p l e:=by
 obtain⟨h0,h0',v,h1,h2,h3⟩:=h
 exact⟨h0,h0',v,h1.ext x (hM _ h0 h0'),h2.ext x (h3 M λb hb=>hM b hb.1 hb.2.1),h3⟩
theorem Rdr.lt {w:aLW}{lo hi p:Nat}{l:List UInt8}{e:Int}(h:Rdr w lo hi p l e):p<w.heap.size:=by
 obtain⟨_,_,v,h1,_⟩:=h;exact h1.lt
theorem Rdr.up {w:aLW}{lo hi hi' p:Nat}{l:List UInt8}{e:Int}(h:Rdr w lo hi p l e)(hh:hi<=hi'):Rdr w lo hi' p l e:=by
 obtain⟨h0,h0',v,h1,h2,h3⟩:=h
 exact⟨h0,by omega,v,h1,h2,h3.mono λb hb=>⟨hb.1,by omega,hb.2.2⟩⟩
theorem atY{v:aLX}{l:List UInt8}{w:aLW}(h:Bs w v l)(hl:l.length<=1000000000):
 aG pg sB #[v] w (λr w'=>∃p,r= .pointer (some ⟨p,0,none⟩)/\Rdr w' w.heap.size w'.heap.size p l 0/\aL w w' aT):=by
 refine PG ?_
 unfold LY Gx
 refine(afC h hl).mono ?_
 rintro r w1 ⟨ho,x1⟩
 have hat:=kW.atI ho
 have hs:=ho.sl
 obtain⟨va,vc,rfl⟩:=ho.len
 simp(disch:=omega)only[seval]
 refine cA λw2 o2 x2 s2=> ?_
 have o2:bD w2 w1.heap.size [.slice va l.length vc,.int .i64 0]:=o2
 have hz:=o2.lt
 exact⟨w1.heap.size,rfl,⟨x1.size,hz,_,o2,hs.ext x2 (bC _),hat.toS λb h1 h2=>⟨h1,by omega,by omega⟩⟩,x1.seq x2⟩
def tkR(l:List UInt8)(e:Int)(n:Nat):List UInt8×List UInt8×Int:=if e≠0 then([],l,e)else if l.length<n then([],l,10)else(l.take n,l.drop n,0)
theorem aCP{lo hi p n:Nat}{l:List UInt8}{e:Int}{w:aLW}(h:Rdr w lo hi p l e)(hl:l.length<=1000000000)(hn:n<=1000000000):
 aG pg oS #[.pointer (some ⟨p,0,none⟩),.int .i64 n,.bool true] w (λr w'=>Bs w' r (tkR l e n).1/\AtS r (λb=>lo<=b/\b<hi/\b≠p)/\Rdr w' lo hi p (tkR l e n).2.1 (tkR l e n).2.2/\aL w w' (λy=>y=p)):=by
 refine L1 ?_
 unfold HS Dn
 have h':=h
 obtain⟨h0,h0',v,o,hb,hat⟩:=h'
 obtain⟨va,vc,rfl,hvc⟩:=hb.len
 rw[aJy]at hb hat o hvc
 have c0:=o.cell (off:=0)
 have c1:=o.cell (off:=1)
 simp only[aJz,aJF]at c0 c1
 by_cases he:e=0
 rotate_left
 .have n1:(e !=0)=true:=by simpa using he
  have ht:tkR l e n=([],l,e):=by unfold tkR;rw[if_pos he]
  rw[ht]
  simp(disch:=omega)only[seval,c1,n1]
  exact⟨Sl.nil _,AtS.nil _,h,aL.refl _ _⟩
 subst he
 have n1:((0:Int) !=0)=false:=rfl
 by_cases hsh:l.length<n
 .have d1:decide ((l.length:Int)<(n:Int))=true:=by simp;omega
  have ht:tkR l 0 n=([],l,10):=by unfold tkR;rw[if_neg (by decide),if_pos hsh]
  rw[ht]
  simp(disch:=omega)only[seval,c1,n1,c0,d1]
  refine tO o rfl (by simp) λw1 o1 x1 s1=> ?_
  simp only[aJR,aKe]at o1
  exact⟨Sl.nil _,AtS.nil _,⟨h0,h0',_,o1,hb.ext x1 (hat _ λb hb=>hb.2.2),hat⟩,x1⟩
 .have d1:decide ((l.length:Int)<(n:Int))=false:=by simp;omega
  have ht:tkR l 0 n=(l.take n,l.drop n,0):=by unfold tkR;rw[if_neg (by decide),if_neg hsh]
  rw[ht]
  simp(disch:=omega)only[seval,c1,n1,c0,d1]
  refine abN o rfl (by simp[one]) λw1 o1 x1 s1=> ?_
  simp only[aJR,aKe]at o1
  have hbn:Bs w (.slice (dD va n 0 1) (n-0) (n-0)) (l.take n):=by
   have:=aH8 hb (k:=n) (by omega)
   rwa [<-aLz]at this
  have hbd:Bs w (.slice (dD va vc n 1) (l.length-n) (vc-n)) (l.drop n):=by
   have:=hb.drop' (k:=n) (by omega)
   rwa [<-aLf]at this
  have hn1:=hat.sub (mx:=n) (k:=0) (sz:=1) (m:=n-0) (c':=n-0) (by omega)
  have hn2:=hat.sub (mx:=vc) (k:=n) (sz:=1) (m:=l.length-n) (c':=vc-n) (by omega)
  exact⟨hbn.ext x1 (hn1 _ λb hb=>hb.2.2),hn1,⟨h0,h0',_,o1,hbd.ext x1 (hn2 _ λb hb=>hb.2.2),hn2⟩,x1⟩
theorem agS{lo hi p n:Nat}{l:List UInt8}{e:Int}{w:aLW}(h:Rdr w lo hi p l e)(hl:l.length<=1000000000)(hn:1<=n/\n<=8):
 aG pg jC #[.pointer (some ⟨p,0,none⟩),.int .i64 n] w (λr w'=>r= .int .u64 (Dk (tkR l e n).1:Nat)/\Rdr w' lo hi p (tkR l e n).2.1 (tkR l e n).2.2/\aL w w' (λy=>y=p)):=by
 refine JE ?_
 unfold Ff BN BM qP qO BL
 have d1:decide ((1:Int)<=(n:Int))=true:=by simp;omega
 have d2:decide ((n:Int)<=8)=true:=by simp;omega
 simp(disch:=omega)only[seval,d1,d2]
 refine(aCP h hl (by omega)).mono ?_
 rintro r w1 ⟨hb,hat,hr,x1⟩
 obtain⟨t,ht⟩:∃t,t=(tkR l e n).1:=⟨_,rfl⟩
 have htl:t.length<=8:=by
  rw[ht];unfold tkR
  split
  .simp
  .split
   .simp
   .simp;omega
 rw[<-ht]at hb⊢
 obtain⟨va,vc,rfl,hvc⟩:=hb.len
 rw[aJy]at hb hvc hat
 simp(disch:=omega)only[seval,aJy]
 unfold kX
 refine bM.rule (λm s w'=>∃i:Nat,m=t.length-i/\i<=t.length/\s=(.int .u64 (Dk (t.take i):Nat),.int .i64 i)/\w'=w1) t.length ⟨0,rfl,by omega,rfl,rfl⟩ ?_
 rintro m s w2 ⟨i,rfl,hi,rfl,hw⟩
 rw[hw];clear hw w2
 unfold qN
 by_cases hlt:i<t.length
 .have d3:decide ((i:Int)<(t.length:Int))=true:=by simp;omega
  obtain⟨c,hc⟩:∃c,c=t[i]'hlt:=⟨_,rfl⟩
  have htk:t.take (i+1)=t.take i++[c]:=by rw[aLK,aJA hlt,<-hc]<;>rfl
  have hor:=aFt (t.take i) c
  rw[<-htk,aJL,aJ1 (by omega)]at hor
  have hcl:c.toNat<256:=UInt8.toNat_lt c
  obtain⟨b,off,c',hv,hcc,hcell⟩:=hb.openV (by rw[aJy];omega)
  have g1:=hcell i (by rw[aJy];exact hlt)
  rw[aJy]at hv
  cases hv
  rw[aLm,<-hc]at g1
  simp only[gO]at g1
  generalize c.toNat=cx at*
  have hp:2^(8*i)<=2^56:=aK7 (by omega) (by omega)
  have hm:cx*2^(8*i)<=255*2^56:=Nat.mul_le_mul (by omega) hp
  have hb0:=G4 (t.take i)
  have hb1:=G4 (t.take (i+1))
  rw[aJL,aJ1 (by omega)]at hb0 hb1
  have hq:256^i<=256^7:=aK7 (by omega) (by omega)
  have e0:((8:Int)*(i:Int))=((8*i:Nat):Int):=by omega
  have e5:IntKind.u64.wrap ((cx:Int)*2^(min (8*i) IntKind.u64.bits))=((cx*2^(8*i):Nat):Int):=by
   rw[show min (8*i) IntKind.u64.bits=8*i from aJ1 (by have:IntKind.u64.bits=64:=rfl
                                                       omega)]
   have e:(cx:Int)*2^(8*i)=((cx*2^(8*i):Nat):Int):=by simp
   rw[e]
   exact hU (by omega) (by omega)
  have e6:=aFy (a:=Dk (t.take i)) (b:=cx*2^(8*i)) (by omega) (by omega)
  rw[hor]at e6
  have e7:IntKind.u64.wrap (cx:Int)=(cx:Int):=hU (by omega) (by omega)
  simp(disch:=omega)only[seval,d3,g1,e0,e5,e6,e7,aJy,aJE]
  exact⟨t.length-(i+1),by omega,i+1,rfl,by omega,rfl⟩
 .have d3:decide ((i:Int)<(t.length:Int))=false:=by simp;omega
  obtain rfl:i=t.length:=by omega
  simp(disch:=omega)only[seval,d3]
  unfold qM
  rw[List.take_length]
  exact⟨rfl,hr,x1⟩
end Go.Proofs.YteelnmpbnaohpaaGreatDoor
namespace Go.Pu
open Go Go.En
structure aIP(B:List Bool)(l:List UInt8):Prop where
 len:l.length=(B.length+7)/8
 bits:aF4 l=B++List.replicate (8*l.length-B.length) false
end Go.Pu
namespace Go.Proofs.YteelnmpbnaohpaaGreatDoor
open Go Go.En Go.Pu
set_option maxRecDepth 4000
theorem CL{w w':aLW}{S M:Nat->Prop}{sz n:Nat}{v:aLX}{l:List aLX}(h:Di w S sz v n l)(hx:aL w w' M)(hM:∀b,S b->¬M b):Di w' S sz v n l:=by
 refine⟨h.1, ?_⟩
 rcases h.2 with h2|⟨b,c,rest,h1,h2,h3,h4,h5⟩
 .exact .inl h2
 .exact .inr ⟨b,c,rest,h1,h2,h3.ext hx (hM b h2),h4,h5⟩
def Wr(w:aLW)(lo p:Nat)(B:List Bool):Prop:=lo<=p/\∃v bytes,bD w p [v,.int .i64 B.length]/\Di w (λb=>lo<=b/\b≠p) 1 v bytes.length (bytes.map gO)/\aIP B bytes
theorem Wr.ext {w w':aLW}{lo p:Nat}{B:List Bool}{M:Nat->Prop}(h:Wr w lo p B)(hx:aL w w' M)(hM:∀b,lo<=b->¬M b):Wr w' lo p B:=by
 obtain⟨h0,v,bytes,h1,h2,h3⟩:=h
 exact⟨h0,v,bytes,h1.ext hx (hM _ h0),CL h2 hx λb hb=>hM b hb.1,h3⟩
def Cw(w:aLW)(p:Nat)(S:Nat->Prop)(l:List UInt8):Prop:=¬S p/\∃v,bD w p [v]/\Di w S 1 v l.length (l.map gO)
theorem Cw.ext {w w':aLW}{p:Nat}{S M:Nat->Prop}{l:List UInt8}(h:Cw w p S l)(x:aL w w' M)(hp:¬M p)(hM:∀b,S b->¬M b):Cw w' p S l:=by
 obtain⟨h0,v,h1,h2⟩:=h
 exact⟨h0,v,h1.ext x hp,CL h2 x hM⟩
theorem Cw.lt {w:aLW}{p:Nat}{S:Nat->Prop}{l:List UInt8}(h:Cw w p S l):p<w.heap.size:=by
 obtain⟨_,v,h1,_⟩:=h;exact h1.lt
theorem xC{w:aLW}{S:Nat->Prop}{sz n:Nat}{v:aLX}{l:List aLX}(o3:Di w S sz v n l):∃a c,v= .slice a n c:=by
 rcases o3.2 with⟨rfl,rfl⟩|⟨b,c,rest,rfl,_⟩
 .exact ⟨_,_,rfl⟩
 .exact ⟨_,_,rfl⟩
theorem Vs{w:aLW}{S:Nat->Prop}{n:Nat}{v:aLX}{l:List aLX}(o3:Di w S 1 v n l):Sl w v l:=by
 have:kW w 0 1 v n l:=⟨o3.1,by
  rcases o3.2 with h|⟨b,c,rest,g1,g2,g3⟩
  .exact .inl h
  .exact .inr ⟨b,c,rest,g1,by omega,g3⟩⟩
 exact this.sl
theorem axN(w:aLW):aG pg sC #[] w (λr w'=>r= .pointer (some ⟨w.heap.size,0,none⟩)/\w.heap.size<w'.heap.size/\Cw w' w.heap.size (λb=>w.heap.size<b) []/\aL w w' aT):=by
 refine PH ?_
 unfold LZ Gy
 simp(disch:=omega)only[seval]
 refine cA λw1 o1 x1 s1=> ?_
 simp only[Value.cells]at o1
 exact⟨rfl,by omega,⟨by omega,_,o1,⟨rfl,.inl ⟨rfl,rfl⟩⟩⟩,x1⟩
theorem QR{p x n:Nat}{S:Nat->Prop}{l:List UInt8}{w:aLW}(h:Cw w p S l)(hS:∀b,w.heap.size<=b->S b)(hx:x<2^64)(hn:1<=n/\n<=8)(hl:l.length<=100000000):
 aG pg gQ #[.pointer (some ⟨p,0,none⟩),.int .u64 x,.int .i64 n] w (λr w'=>r= .tuple #[]/\Cw w' p S (l++tY x n)/\aL w w' (λy=>y=p∨S y)):=by
 refine JF ?_
 unfold Fg BP BO
 have d1:decide ((n:Int)<1)=false:=by simp;omega
 have d2:decide ((8:Int)<(n:Int))=false:=by simp;omega
 simp(disch:=omega)only[seval,d1,d2]
 unfold kY
 refine bM.rule (λm (t:aLX) w'=>∃i:Nat,m=n-i/\t= .int .i64 i/\i<=n/\Cw w' p S (l++tY x i)/\aL w w' (λy=>y=p∨S y)) n
  ⟨0,rfl,rfl,by omega,by rw[tY,aKb];exact h,aL.refl _ _⟩ ?_
 rintro m t w1 ⟨i,rfl,rfl,hi,hw,x1⟩
 unfold qQ
 by_cases hlt:i<n
 .have d3:decide ((i:Int)<(n:Int))=true:=by simp;omega
  have e0:((8:Int)*(i:Int))=((8*i:Nat):Int):=by omega
  have e1:(x:Int).fdiv (2^(min (8*i) IntKind.u64.bits))=((x/256^i:Nat):Int):=by
   rw[ayL];exact afO x (8*i) (by omega)
  have e2:IntKind.u8.wrap ((x/256^i:Nat):Int)=(((UInt8.ofNat (x/256^i%256)).toNat:Nat):Int):=by
   rw[aKT]
   generalize x/256^i=y
   rw[show IntKind.u8.wrap (y:Int)=(y:Int)%256 from rfl]
   omega
  obtain⟨c,hc⟩:∃c,c=UInt8.ofNat (x/256^i%256):=⟨_,rfl⟩
  rw[<-hc]at e2
  obtain⟨h0,v0,o,os⟩:=hw
  obtain⟨va,vc,rfl⟩:=xC os
  have c0:=o.cell (off:=0)
  simp only[aJz,aJF]at c0
  have lp:=o.lt
  have hsz:=x1.size
  have hpl:=dW i x
  rw[aJB,hpl]at os
  rw[aJB,hpl]at c0
  simp(disch:=omega)only[seval,d3,e0,e1,e2,c0,aJE,aJB,hpl]
  refine kP (cells:= #[.int .u8 c.toNat]) (by decide) (by decide) (by kernel_rfl) λw2 o2 x2 s2=> ?_
  refine yG (m:=1) (news:=[gO c]) (i:=Tryz.t5) Tryz.underlying22 Tryz.underlying22 Ma rfl rfl rfl (CL os x2 (λ_ _ h=>h)) (o2.cl (off:=0) (l:=[gO c]) (n:=1) rfl (λi hi=>by rw[aJC]<;>rfl)) (by simp[one,gO]) (λb hb=>hS b (by omega)) (by omega) (by rw[show Tryz.t5.bytes=1 from rfl];omega) (by decide) λv3 w3 o3 x3=> ?_
  have x13:aL w1 w3 S:=(x2.mono λ_ _ h=>h.elim).seq x3
  have op3:=o.ext x13 h0
  obtain⟨a3,c3,rfl⟩:=xC o3
  refine abN op3 rfl (by simp) λw4 o4 x4 s4=> ?_
  simp only[aJR,aKe]at o4
  have x14:aL w1 w4 (λy=>y=p∨S y):=(x13.mono λy _ h=> .inr h).seq (x4.mono λy _ h=> .inl h)
  refine⟨n-(i+1),by omega,i+1,rfl,rfl,by omega,⟨h0,_,o4, ?_⟩,x1.seq x14⟩
  have:=CL o3 x4 (λb hb h=>h0 (h▸hb))
  rw[Ti,<-hc,<-aJS,aJ7,aJB,aJB,dW]
  exact this
 .have d3:decide ((i:Int)<(n:Int))=false:=by simp;omega
  obtain rfl:i=n:=by omega
  simp(disch:=omega)only[seval,d3]
  exact⟨hw,x1⟩
theorem asN{p:Nat}{S:Nat->Prop}{l:List UInt8}{w:aLW}(h:Cw w p S l)(hl:l.length<=1000000000):
 aG pg lK #[.pointer (some ⟨p,0,none⟩)] w (λr w'=>kW w' w.heap.size 1 r l.length (l.map gO)/\aL w w' aT):=by
 refine Nk ?_
 unfold JS Fh
 obtain⟨h0,v0,o,os⟩:=h
 obtain⟨va,vc,rfl⟩:=xC os
 have c0:=o.cell (off:=0)
 simp only[aJz,aJF]at c0
 simp(disch:=omega)only[seval,c0]
 exact afC (Vs os) hl
end Go.Proofs.YteelnmpbnaohpaaGreatDoor
namespace Go.Proofs.YteelnmpbnaohpaaGreatDoor
open Go Go.En
set_option maxRecDepth 4000
theorem aEV(l:List UInt8):∀y∈l.map gO,one y=true:=λy hy=>by
 obtain⟨z,-,rfl⟩:=aKm.1 hy;rfl
theorem aI5 {w:aLW}{a:Option Addr}{n c:Nat}{l:List aLX}(h:Sl w (.slice a n c) l)(h0:0<n):∃b off,a=some ⟨b,off,none⟩/\∀i,i<n->w.cell? ⟨b,off+i,none⟩=l[i]?:=by
 obtain⟨a',n',c',e,hn,hc,hh⟩:=h
 cases e
 exact hh h0
end Go.Proofs.YteelnmpbnaohpaaGreatDoor
namespace Go.Proofs.YteelnmpbnaohpaaGreatDoor
open Go Go.En Go.Pu
set_option maxRecDepth 4000
abbrev alW(k v:Nat):aLX:= .agg #[.int .u8 (k:Int),.int .u64 (v:Int)]
abbrev oF(r:Nat×Nat):List aLX:=[.int .u8 (r.1:Int),.int .u64 (r.2:Int)]
theorem atP{k v:Nat}{w:aLW}(hg:lO w)(hk:k<256)(hv:v<2^64):
 aG pg B7 #[alW k v] w (λr w'=>(if k=1∨k=2 then∃b,r= .tuple #[b,.int .i64 0]/\kW w' w.heap.size 1 b 13 ((mN aY k v).map gO)else r= .tuple #[.slice none 0 0,.int .i64 1])/\aL w w' aT):=by
 refine acV ?_
 obtain⟨RR,hRR⟩:∃RR:aLX->aLW->Prop,RR=λr w'=>(if k=1∨k=2 then∃b,r= .tuple #[b,.int .i64 0]/\kW w' w.heap.size 1 b 13 ((mN aY k v).map gO)else r= .tuple #[.slice none 0 0,.int .i64 1])/\aL w w' aT:=⟨_,rfl⟩
 rw[<-hRR]
 unfold ahM Uq
 refine cA λw1 o1 x1 s1=> ?_
 have o1:bD w1 w.heap.size (oF (k,v)):=o1
 have c0:=o1.cell (off:=0)
 have c1:=o1.cell (off:=1)
 simp only[aJz,aJF]at c0 c1
 by_cases h1:k<1
 .have d1:decide ((k:Int)<1)=true:=by simp;omega
  simp(disch:=omega)only[seval,c0,d1]
  rw[hRR]
  refine⟨?_,x1⟩
  rw[if_neg (by omega)]
 have d1:decide ((k:Int)<1)=false:=by simp;omega
 by_cases h2:2<k
 .have d2:decide ((2:Int)<(k:Int))=true:=by simp;omega
  simp(disch:=omega)only[seval,c0,d1,d2]
  rw[hRR]
  refine⟨?_,x1⟩
  rw[if_neg (by omega)]
 have d2:decide ((2:Int)<(k:Int))=false:=by simp;omega
 have e1:IntKind.u64.wrap (k:Int)=(k:Int):=hU (by omega) (by omega)
 simp(disch:=omega)only[seval,c0,d1,d2]
 refine(axN w1).mono ?_
 rintro r w2 ⟨rfl,s2,h2',x2⟩
 have p2:w2.cell? ⟨w.heap.size,0,none⟩=_:=(o1.ext x2 (λh=>h)).cell (off:=0)
 simp only[aJz,aJF]at p2
 simp(disch:=omega)only[seval,p2,e1]
 refine(QR (x:=k) (n:=1) h2' (λb hb=>by omega) (by omega) ⟨by omega,by omega⟩ (by simp)).mono ?_
 rintro r w3 ⟨rfl,h3,x3⟩
 have z3:=x3.size
 have o3:=(o1.ext x2 (λh=>h)).ext x3 (by omega)
 have p3:=o3.cell (off:=1)
 simp only[aJz,aJF]at p3
 simp(disch:=omega)only[seval,p3]
 refine(QR (x:=v) (n:=8) h3 (λb hb=>by omega) hv ⟨by omega,by omega⟩ (by simp[dW])).mono ?_
 rintro r w4 ⟨rfl,h4,x4⟩
 have z4:=x4.size
 have hH:[]++tY k 1++tY v 8=Fs k v:=rfl
 rw[hH]at h4
 have hHl:(Fs k v).length=9:=by unfold Fs;rw[aJB,dW,dW]
 have x14:aL w1 w4 aT:=(x2.trans x3 λy hy h=>by omega).trans x4 λy hy h=>by omega
 refine(asN h4 (by omega)).mono ?_
 rintro r w5 ⟨ho5,x5⟩
 refine(aEZ (l:=Fs k v) (hg.ext ((x1.seq x14).seq x5)) ho5.sl (by omega)).mono ?_
 rintro r w6 ⟨rfl,x6⟩
 have hcr:=aAg (Fs k v)
 have hM:iO=4294967296:=rfl
 have e2:IntKind.u64.wrap ((aY (Fs k v):Nat):Int)=((aY (Fs k v):Nat):Int):=hU (by omega) (by omega)
 have h6:=(h4.ext x5 (λh=>h) (λ_ _ h=>h)).ext x6 (λh=>h) (λ_ _ h=>h)
 have z5:=x5.size
 have z6:=x6.size
 simp(disch:=omega)only[seval,e2]
 refine(QR (x:=aY (Fs k v)) (n:=4) h6 (λb hb=>by omega) (by omega) ⟨by omega,by omega⟩ (by omega)).mono ?_
 rintro r w7 ⟨rfl,h7,x7⟩
 have z7:=x7.size
 have hR:Fs k v++tY (aY (Fs k v)) 4=mN aY k v:=rfl
 rw[hR]at h7
 have h13:=mJ aY k v
 refine(asN h7 (by omega)).mono ?_
 rintro r w8 ⟨ho8,x8⟩
 have x17:aL w1 w7 aT:=((x14.seq x5).seq x6).trans x7 λy hy h=>by omega
 rw[h13]at ho8
 rw[hRR]
 refine⟨?_,(x1.seq x17).seq x8⟩
 rw[if_pos (by omega)]
 refine⟨r,rfl,ho8.1, ?_⟩
 rcases ho8.2 with h|⟨b,c,rest,g1,g2,g3⟩
 .exact .inl h
 .exact .inr ⟨b,c,rest,g1,by have:=x1.size;have:=x17.size;omega,g3⟩
theorem ahI{k:Nat}{l:List (Nat×Nat)}{i:Nat}(h:i<l.length):dT k (l.take (i+1))=if l[i].1=k then max l[i].2 (dT k (l.take i))else dT k (l.take i):=by
 rw[aJZ h,ahH]
theorem Zz{l:List (Nat×Nat)}{i:Nat}(h:i<l.length):((l.flatMap oF).drop (i*2)).take 2=oF l[i]:=by
 induction l generalizing i with
 |nil=>simp at h
 |cons a l ih=>
  cases i with
  |zero=>rfl
  |succ i=>
   rw[aKv,show(i+1)*2=2+i*2 from by omega,<-aLb]
   have:((oF a++l.flatMap oF).drop 2)=l.flatMap oF:=rfl
   rw[this,ih (by simpa using h)]<;>rfl
theorem RS(l:List (Nat×Nat)):(l.flatMap oF).length=l.length*2:=by
 induction l with
 |nil=>rfl
 |cons a l ih=>
  rw[aKv,aJB,ih,aJT]
  simp only[aJT,aKy];omega
theorem aBv{v:aLX}{l:List (Nat×Nat)}{k:Nat}{w:aLW}(hv:∃S,Di w S 2 v l.length (l.flatMap oF))(hl:l.length<=100000000)(ho:∀r∈l,r.1<256/\r.2<2^64)(hk:k<256):
 aG pg Ez #[v,.int .u8 (k:Nat)] w (λr w'=>(∃t,r= .tuple #[.int .u64 (dT k l:Nat),.bool t])/\aL w w' aT):=by
 refine Zl ?_
 obtain⟨S,hs⟩:=hv
 unfold aaS OW OV Iq Ip Rz CH
 obtain⟨a,c,rfl⟩:=xC hs
 simp(disch:=omega)only[seval]
 refine bM.rule (λm (t:aLX×aLX×aLX) w'=>∃(i:Nat) (tb:Bool),m=l.length-i/\i<=l.length/\t=(.int .u64 (dT k (l.take i):Nat),.bool tb,.int .i64 (i:Nat))/\aL w w' aT) l.length ⟨0,false,rfl,by omega,rfl,aL.refl _ _⟩ ?_
 rintro m t w1 ⟨i,tb,rfl,hi,rfl,x1⟩
 unfold Io Ry
 by_cases hlt:i<l.length
 .have d1:decide ((i:Int)<(l.length:Int))=true:=by simp;omega
  obtain⟨h1,h2⟩:=ho _ (aKl hlt)
  rcases(hs.ext x1 (λ_ _ h=>h)).2 with⟨_,h0⟩|⟨b,c',rest,hv,hb,ob,hbl,hbc⟩
  .omega
  cases hv
  have l1:=vR (off:=i*2) ob (by rw[aJB,RS];omega)
  rw[aKk (by rw[RS];omega),aKd (by rw[aJO,RS];omega),Zz hlt]at l1
  have hlast:=ahI (k:=k) hlt
  obtain⟨M,hM⟩:∃M,M=dT k (l.take i):=⟨_,rfl⟩
  rw[<-hM]at hlast⊢
  simp(disch:=omega)only[seval,d1,l1]
  refine DK λw2 o2 x2 s2=> ?_
  refine De o2 rfl (by simp[one]) (by decide) λw3 o3 x3 s3=> ?_
  have x13:aL w w3 aT:=(x1.seq x2).trans x3 λy hy h=>by have:=x1.size;omega
  have o3:bD w3 w1.heap.size (oF l[i]):=o3
  have c0:=o3.cell (off:=0)
  have c1:=o3.cell (off:=1)
  simp only[aJz,aJF]at c0 c1
  have e3:(if(((l[i]'hlt).2:Nat):Int)>(M:Int)then(((l[i]'hlt).2:Nat):Int)else(M:Int))=((max (l[i]'hlt).2 M:Nat):Int):=by split<;>omega
  by_cases hq:(l[i]'hlt).1=k
  .have n1:((((l[i]'hlt).1:Nat):Int)==(k:Int))=true:=by rw[hq];simp
   rw[if_pos hq]at hlast
   unfold CG
   simp(disch:=omega)only[seval,c0,c1,n1,e3]
   exact⟨l.length-(i+1),by omega,i+1,true,rfl,by omega,by rw[hlast]<;>rfl,x13⟩
  .have n1:((((l[i]'hlt).1:Nat):Int)==(k:Int))=false:=by rw[beq_eq_false_iff_ne];omega
   rw[if_neg hq]at hlast
   unfold CG
   simp(disch:=omega)only[seval,c0,c1,n1,e3]
   exact⟨l.length-(i+1),by omega,i+1,tb,rfl,by omega,by rw[hlast]<;>rfl,x13⟩
 .have d1:decide ((i:Int)<(l.length:Int))=false:=by simp;omega
  unfold Im
  rw[aJD (by omega)]
  simp(disch:=omega)only[seval,d1]
  exact⟨⟨tb,rfl⟩,x1⟩
theorem aDk{v:aLX}{l:List UInt8}{w:aLW}(hg:lO w)(hv:Bs w v l)(hl:l.length<=100000000):
 aG pg Ag #[v] w (λr w'=>r= .agg ((aX l).map gO).toArray/\aL w w' aT):=by
 refine Zp ?_
 unfold aaU RJ
 refine A0 λw1 o1 x1 s1=> ?_
 have o1:bD w1 w.heap.size (List.replicate 32 (.int .u8 0)):=o1
 refine kP (cells:= #[.int .u8 0]) (by decide) (by decide) (by kernel_rfl) λw2 o2 x2 s2=> ?_
 have o2:bD w2 w1.heap.size [.int .u8 0]:=o2
 have hos:kW w2 w1.heap.size 1 (.slice (some ⟨w1.heap.size,0,none⟩) 1 1) 1 [.int .u8 0]:=⟨rfl,.inr ⟨_,1,[],rfl,aJK _,o2,rfl,aJK _⟩⟩
 have hcl:=(hv.ext (x1.seq x2) (bC _)).cl
 rw[aJy]at hcl
 refine iQ hos hcl (aEV _) (by omega) (by omega) λv3 w3 o3 x3=> ?_
 have o3:kW w3 w1.heap.size 1 v3 (1+l.length) ((0::l).map gO):=o3
 have z3:=x3.size
 have x03:aL w w3 aT:=(x1.seq x2).trans x3 λy hy h=>by omega
 have z0:w1.heap.size=w.heap.size+1:=s1
 refine(aFO (l:=0::l) (hg.ext x03) o3.sl (by simp;omega)).mono ?_
 rintro r w4 ⟨rfl,x4⟩
 have r4:=((o1.ext x2 (λh=>h)).ext x3 (by omega)).ext x4 (λh=>h)
 have hl32:((aX l).map gO).length=32:=by rw[aJy];exact uA _
 refine FL r4 (by rw[aKG];exact hl32) (λy hy=>DN _ y (by simpa using hy)) (by simp) λw5 o5 x5 s5=> ?_
 rw[aJV,tL _ _ (by rw[aJy,uA];simp)]at o5
 refine Fm o5 (by rw[aJy];have:=uA (0::l);omega) ?_
 rw[aJU,aJD (by rw[aJy];have:=uA (0::l);omega)]
 exact⟨rfl,(x03.seq x4).trans x5 λy hy h=>by omega⟩
end Go.Proofs.YteelnmpbnaohpaaGreatDoor
namespace Go.En
open Go
section
variable{P:Program}
theorem Ws{a:Array aLX}{t x:Nat}{v:aLX}(h:t<a.size):KG (a.setIfInBounds t v) x=if x=t then v else KG a x:=by
 unfold KG
 rw[aJN,aJN]
 by_cases hx:x=t
 .subst hx;rw[aJ4 h,if_pos rfl]<;>rfl
 .rw [aJ6 (λe=>hx e.symm),if_neg hx]
theorem anF{N x:Nat}{g:Env}(h:x<N):KG (tmpsOf N g) x=g x:=by
 unfold KG tmpsOf
 rw[aJN,aJ2 (by simpa using h)]
 simp
theorem aFE{f:FuncId}{fn:Func}(hf:P.funcs[f]?=some fn)(hb:fn.body.isSome=true)(hn:(fn.name== "runtime.NumGoroutine")=false)(cap:Array aLX)(args:List aLX)(w:aLW):
 (Ac (.func (.func f) #[] cap) args).run P w= .ok (.enter f (args.toArray++cap)) w:=by
 unfold Ac Deferred.ofValue
 simp only[pure_bind,invoke,Array.empty_append]
 exact Na hf hb hn _ _
def VB(r:Loop)(args:List aLX):Array aLX:=(r.params.zip args.toArray).foldl (λtmps (t,a)=>tmps.setIfInBounds t a) r.tmps
theorem aAJ{r:Loop}{a:Tmp}{t:Array aLX}(hp:r.params= #[a])(ht:r.tmps=t)(x:aLX):VB r [x]=t.setIfInBounds a x:=by
 unfold VB;rw[hp,ht];simp
theorem aqJ{l:Nat}{r:Loop}{args:List aLX}{w:aLW}(h:w.heap[l]?=some (.loop r))(hs:args.length=r.params.size):
 (Ac (Gr l) args).run P w= .ok (.round l r.fn (VB r args) r.assign r.body) w:=by
 unfold Ac Gr Deferred.ofValue
 simp only[pure_bind,invoke,Array.empty_append]
 exact run_yield h (by simpa using hs)
theorem arU{f fi:FuncId}{fn:Func}{gf:Operand}{ps:Array Tmp}{aJx bd:Code}{Q:Exit->Env->aLW->Prop}{g:Env}{w:aLW}{cap:Array aLX}
 (hm:noMark (g DS)=true) (he:ev g gf= .func (.func fi) #[] cap) (hf:P.funcs[fi]?=some fn) (hb:fn.body.isSome=true) (hn:(fn.name== "runtime.NumGoroutine")=false)
 (h:aG P fi (#[Gr (w.heap.size+1)]++cap) (rfW f (RM P f) ps aJx bd g w) λ_ w3=>aCv (w.heap.size+1) Q (put g (some DS) (.pointer (some ⟨w.heap.size,0,none⟩))) w3):
 RF P f gf ps aJx bd Q g w:=by
 unfold RF
 rw[hm]
 simp only
 rw[he,aFE hf hb hn]
 exact h
theorem aL.putObj (w:aLW)(l:Nat)(o:Obj):aL w (w.putObj l o) (λy=>y=l):=
 ⟨rfl,rfl,rfl,by simp,λb hb hM=>World.putObj_heap_other hM⟩
theorem uZ{w w':aLW}{l:Nat}{o:Obj}{M:Nat->Prop}(h:w.heap[l]?=some o)(hx:aL w w' M)(hM:¬M l):w'.heap[l]?=some o:=by
 have:l<w.heap.size:=by
  rcases aKw l w.heap.size with h'|h'
  .exact h'
  .rw [aKj h']at h;cases h
 rw[hx.keep l this hM];exact h
theorem aDo{w:aLW}{l:Nat}{o:Obj}(h:w.heap[l]?=some o):l<w.heap.size:=by
 rcases aKw l w.heap.size with h'|h'
 .exact h'
 .rw [aKj h']at h;cases h
theorem aoE(f:FuncId)(N:Nat)(ps:Array Tmp)(aJx bd:Code)(g:Env)(w:aLW):
 aL w (rfW f N ps aJx bd g w) aT/\(rfW f N ps aJx bd g w).heap.size=w.heap.size+2/\(rfW f N ps aJx bd g w).heap[w.heap.size]?=some (.deferred (some []))/\
  (rfW f N ps aJx bd g w).heap[w.heap.size+1]?=some (.loop {state:= .ready,pending:=none,fn:=f,tmps:=tmpsOf N g,params:=ps,assign:=aJx,body:=bd,defers:=w.heap.size}):=by
 unfold rfW
 have x1:=aL.alloc w (.deferred (some [])) aT
 have h1:=World.alloc_heap_new w (.deferred (some []))
 have z1:(w.alloc (.deferred (some []))).heap.size=w.heap.size+1:=by simp
 generalize w.alloc (.deferred (some []))=w1 at*
 refine⟨x1.seq (aL.alloc w1 _ aT),by simp[z1],uZ h1 (aL.alloc w1 _ aT) (λh=>h), ?_⟩
 have:=World.alloc_heap_new w1 (.loop {state:= .ready,pending:=none,fn:=f,tmps:=tmpsOf N g,params:=ps,assign:=aJx,body:=bd,defers:=w.heap.size})
 rw[z1]at this
 exact this
theorem anV{l:Nat}{r:Loop}{w:aLW}{K:aLW->Prop}(h:w.heap[l]?=some (.loop r))(hr:r.state= .ready)
 (hk:∀w',w'.heap[l]?=some (.loop {r with state:= .busy})->aL w w' (λy=>y=l)->w'.heap.size=w.heap.size->K w'):Rdy l w K:=
 ⟨r,h,hr,hk _ (World.putObj_heap_same (aDo h)) (aL.putObj _ _ _) (by simp)⟩
theorem Vz{l:Nat}{r:Loop}{j:Option Code}{w:aLW}{R:aLX->aLW->Prop}(h:w.heap[l]?=some (.loop r))
 (hk:∀w',w'.heap[l]?=some (.loop {r with state:=jSt j,pending:=j})->aL w w' (λy=>y=l)->w'.heap.size=w.heap.size->R (.bool j.isNone) w'):afW l j R w:=
 ⟨r,h,hk _ (World.putObj_heap_same (aDo h)) (aL.putObj _ _ _) (by simp)⟩
theorem Sw{l:Nat}{r:Loop}{w:aLW}{Q:Exit->Env->aLW->Prop}{g:Env}(h:w.heap[l]?=some (.loop r))(hb:r.state≠.busy)
 (hk:∀w',aL w w' (λy=>y=l)->w'.heap.size=w.heap.size->aGI Q g r.pending w'):aCv l Q g w:=
 ⟨r,h,hb,hk _ (aL.putObj _ _ _) (by simp)⟩
theorem akC{b:Nat}{w:aLW}{K:aLW->Prop}(h:w.heap[b]?=some (.deferred (some [])))(hk:∀w',aL w w' (λy=>y=b)->w'.heap.size=w.heap.size->K w'):
 GJ (.pointer (some ⟨b,0,none⟩)) w K:=⟨h,hk _ (aL.putObj _ _ _) (by simp)⟩
theorem RQ{f:FuncId}(first captured:List aLX)(w:aLW):(Pf (.func f) first captured).run P w= .ok (.value (.func (.func f) first.toArray captured.toArray)) w:=by
 unfold Pf V Instr.makeFunc
 simp[Sem.run_bind,Sem.run_pure]
end
end Go.En
namespace Go.En
open Go
theorem auT{P:Program}{w:aLW}{t e:TypeId}{k k' k'':IntKind}{lo hi mx:Int}{i:TypeInfo}(hu:P.underlying t=some (.slice e))(hi':P.info? e=some i)(x:Option Addr)(n c:Nat)(h0:0<=lo)(h0':lo<=hi)(h1:hi<=mx)(h2:mx<=c):
 (dG t (.slice x n c) (some (.int k lo)) (some (.int k' hi)) (some (.int k'' mx))).run P w= .ok (.value (.slice (dD x mx.toNat lo.toNat i.size) (hi.toNat-lo.toNat) (mx.toNat-lo.toNat))) w:=by
 have h3:(0:Int)<=mx:=by omega
 have h4:hi<=(mx.toNat:Int):=by omega
 have h5:(0:Int)<=hi:=by omega
 have h6:lo<=(hi.toNat:Int):=by omega
 simp only[dG,iW,Instr.sliceAt,underlying,hu,Sem.run_bind,run_program,Result.andThen_ok,Sem.run_pure,Instr.slice,Instr.sliceBounds,pure_bind,jZ h3 h2,jZ h5 h4,jZ h0 h6,dZ hi',dD]
theorem aHe{w:aLW}{a:Option Addr}{n c:Nat}{l:List aLX}(h:Sl w (.slice a n c) l){i j:Nat}(hij:i<j)(hj:j<=n):Sl w (.slice (dD a j i 1) (j-i) (j-i)) ((l.drop i).take (j-i)):=by
 obtain⟨a',n',c',e,hn,hc,h⟩:=h
 cases e
 refine⟨_,_,_,rfl,by rw[aJL,aJO];omega,aJK _,λh0=> ?_⟩
 obtain⟨b,off,rfl,h2⟩:=h (by omega)
 have hs:dD (some ⟨b,off,none⟩) j i 1=some ⟨b,off+i,none⟩:=by unfold dD;rw[if_neg (by omega),aKo];unfold Addr.add;simp
 refine⟨b,off+i,hs,λq hq=> ?_⟩
 rw[aKz (by omega),aK1,aKu]
 exact h2 (i+q) (by omega)
theorem aFd{a:Option Addr}{n c i j:Nat}{M:Nat->Prop}(hij:i<j)(hj:j<=n)(h:fI (.slice (dD a j i 1) (j-i) (j-i)) M):fI (.slice a n c) M:=by
 obtain⟨n',rfl⟩:∃n',n=n'+1:=⟨n-1,by omega⟩
 obtain⟨d,hd⟩:∃d,j-i=d+1:=⟨j-i-1,by omega⟩
 rw[hd]at h
 cases a with
 |none=>unfold dD at h;rw[if_neg (by omega)]at h;exact h
 |some x=>
  have hs:dD (some x) j i 1=some (x.add (i*1)):=by unfold dD;rw[if_neg (by omega)]<;>rfl
  rw[hs]at h
  have e:(x.add (i*1)).block=x.block:=by unfold Addr.add;split<;>rfl
  have h3:M (x.add (i*1)).block:=h
  rw[e]at h3
  exact h3
end Go.En
namespace Go.Proofs.YteelnmpbnaohpaaGreatDoor
open Go Go.En Go.Pu
set_option maxRecDepth 4000
set_option linter.unusedSimpArgs false
set_option linter.unusedVariables false
theorem aEX{l:List UInt8}{v:aLX}{box bn lp:Nat}{r0:Loop}{w:aLW}(I:Nat->aLW->Prop)(S:aLW->Prop)
 (hI:∀i W,I i W->bD W box [v]/\bD W bn [.int .i64 13]/\Bs W v l/\W.heap[lp]?=some (.loop r0)) (hD:∀i W,I i W->I i (dr W)) (hp:r0.params.size=1) (hl:l.length<=1000000000) (h0:I 0 w)
 (hs:∀i W pv,i<l.length->I i W->Bs W pv ((l.drop i).take 13)->(∀M:Nat->Prop,fI pv M->fI v M)->aaB pg lp r0.fn (VB r0 [pv]) r0.assign r0.body W (λb W'=>(b= .bool true/\I (i+13) W')∨(b= .bool false/\S W'))):
 aG pg iM #[Gr lp,.pointer (some ⟨box,0,none⟩),.pointer (some ⟨bn,0,none⟩)] w (λr W=>r= .tuple #[]/\((∃i,l.length<=i/\I i W)∨S W)):=by
 refine Ja ?_
 obtain⟨RR,hRR⟩:∃RR:aLX->aLW->Prop,RR=λr W=>r= .tuple #[]/\((∃i,l.length<=i/\I i W)∨S W):=⟨_,rfl⟩
 rw[<-hRR]
 unfold Dt AF AE kI
 try simp only[true_and]
 refine bM.rule (λm (t:aLX) w'=>∃i:Nat,m=l.length-i/\t= .int .i64 (i:Nat)/\i<=l.length+13/\I i w') l.length ⟨0,rfl,rfl,by omega,h0⟩ ?_
 rintro m t w1 ⟨i,rfl,rfl,hi,hIw⟩
 obtain⟨o,on,hb,hlp⟩:=hI _ _ hIw
 obtain⟨a,c,rfl,hc⟩:=hb.len
 rw[aJy]at hb hc o
 have c1:=o.cell (off:=0)
 have c1d:=(dB o).cell (off:=0)
 have c2:=on.cell (off:=0)
 have c2d:=(dB on).cell (off:=0)
 simp only[aJz]at c1 c1d c2 c2d
 unfold pT
 by_cases hlt:i<l.length
 .have d1:decide ((i:Int)<(l.length:Int))=true:=by simp;omega
  obtain⟨q,hq⟩:∃q,q=min 13 (l.length-i):=⟨_,rfl⟩
  have e1:((l.length-i:Nat):Int)=((l.length-i:Nat):Int):=rfl
  have e2:(if((l.length-i:Nat):Int)<(13:Int)then((l.length-i:Nat):Int)else(13:Int))=(q:Int):=by split<;>omega
  have e3:(i:Int)+(q:Int)=((i+q:Nat):Int):=by omega
  have l1:=λw=>auT (P:=pg) (w:=w) (k:= .i64) (k':= .i64) (k'':= .i64) (lo:=(i:Int)) (hi:=((i+q:Nat):Int)) (mx:=((i+q:Nat):Int)) Tryz.underlying22 Ma a l.length c (by omega) (by omega) (by omega) (by omega)
  rw[aJy]at hI hs
  obtain⟨pv,hpv⟩:∃pv,pv=Value.slice (dD a (i+q) i 1) (i+q-i) (i+q-i):=⟨_,rfl⟩
  have l1:∀w,(dG 22 (.slice a l.length c) (some (.int .i64 (i:Nat))) (some (.int .i64 ((i+q:Nat):Int))) (some (.int .i64 ((i+q:Nat):Int)))).run pg w= .ok (.value pv) w:=λw=>by rw[hpv];exact l1 w
  have hpb:Bs w1 pv ((l.drop i).take 13):=by
   have:=aHe hb (i:=i) (j:=i+q) (by omega) (by omega)
   rw[<-aLf,<-aLz]at this
   rw[hpv]
   have e:(l.drop i).take 13=(l.drop i).take (i+q-i):=by
    rw[hq]
    by_cases h13:13<=l.length-i
    .rw [aJ1 h13,aKB]
    .rw [Nat.min_eq_right (by omega),aJD (by rw[aJO];omega),aJD (by rw[aJO];omega)]
   rw[e];exact this
  have hpn:∀M:Nat->Prop,fI pv M->fI (.slice a l.length c) M:=λM h=>aFd (i:=i) (j:=i+q) (by omega) (by omega) (by rw[hpv]at h;exact h)
  have qd:(dr w1).heap[lp]?=some (.loop r0):=hlp
  have q1:=aqJ (P:=pg) (args:=[pv]) hlp (by rw[hp]<;>rfl)
  have q1d:=aqJ (P:=pg) (args:=[pv]) qd (by rw[hp]<;>rfl)
  simp(disch:=omega)only[aA,Fl,c1,bL,uU,true_and,aI,mI,fD,d1,c2d,c1d,C4,aJE,auO,e2,fS,e3,dI,l1,q1d,abP,cN]
  obtain⟨b',w2,hret,hR⟩:=hs i (dr w1) pv hlt (hD _ _ hIw) (hpb.ext (aL.dr _ aT) (bC _)) hpn
  refine⟨b',w2,hret, ?_⟩
  rcases hR with⟨rfl,hI2⟩|⟨rfl,hS⟩
  .obtain ⟨_,on2,_,_⟩:=hI _ _ hI2
   have c3:=on2.cell (off:=0)
   simp only[aJz]at c3
   have e4:(i:Int)+13=((i+13:Nat):Int):=by omega
   simp(disch:=omega)only[Xc,aKU,aI,c3,bL,fS,e4,dI,bH]
   exact⟨l.length-(i+13),by omega,i+13,rfl,rfl,by omega,hI2⟩
  .simp (disch:=omega)only[Xc,aKD,aI,cN]
   rw[hRR]
   exact⟨rfl,.inr hS⟩
 .have d1:decide ((i:Int)<(l.length:Int))=false:=by simp;omega
  simp(disch:=omega)only[aA,Fl,c1,bL,uU,true_and,aI,mI,fD,d1,bH]
  rw[hRR]
  exact⟨rfl,.inl ⟨i,by omega,hIw⟩⟩
end Go.Proofs.YteelnmpbnaohpaaGreatDoor
namespace Go.Proofs.YteelnmpbnaohpaaGreatDoor
open Go Go.En Go.Pu
set_option maxRecDepth 4000
theorem aE7 {ox oy:Operand}(a b a' b':Int)(w:aLW):(aE .eql 109 ox oy (.agg #[.int .u8 a,.int .u64 b]) (.agg #[.int .u8 a',.int .u64 b'])).run pg w= .ok (.value (.bool (a==a'&&b==b'))) w:=by
 have a3:∀w,(isAgg 26).run pg w= .ok false w:=λw=>by kernel_rfl
 have a5:∀w,(isAgg 5).run pg w= .ok false w:=λw=>by kernel_rfl
 have u3:=Tryz.underlying26
 have u5:=Tryz.underlying5
 have g0:pg.eqGuardType pg.depth 109=false:=by kernel_rfl
 have g1:pg.underlying 109=some (.struct (pg.fieldsOf 109)):=by kernel_rfl
 have g2:pg.stoodInHeld 109=false:=by kernel_rfl
 unfold aE
 simp only[DY,iW,Sem.run_bind,run_eqGuard_agg w .eql 109 ox oy _ _ g0,Result.andThen_ok,run_eql_struct]
 rw[run_equalIn_agg w 9999 109 _ _ g1 g2]
 simp only[Program.fieldsOf,Tryz.underlying109,Op.eqFields]
 simp[part,a3,a5,run_equalIn_int w 9998 26 _ _ _ _ u3,run_equalIn_int w 9998 5 _ _ _ _ u5]
 by_cases h1:a=a'<;>by_cases h2:b=b'<;>simp[h1,h2]
theorem Zj(cf:List UInt8->Nat):∀(n m:Nat) (b:List UInt8),b.length<=n->b.length<=m->PY cf n b=PY cf m b
 |0,m,b,h,_=>by
  have:b=[]:=aJ9.1 (by omega)
  subst this
  cases m<;>simp[PY]
 |n+1,0,b,_,h=>by
  have:b=[]:=aJ9.1 (by omega)
  subst this
  simp[PY]
 |n+1,m+1,b,h,h'=>by
  rw[PY,PY]
  by_cases hb:b=[]
  .rw [if_pos hb,if_pos hb]
  .have hl:0<b.length:=List.length_pos_iff.2 hb
   rw[if_neg hb,if_neg hb,Zj cf n m (b.drop 13) (by rw[aJO];omega) (by rw[aJO];omega)]
theorem Zk{cf:List UInt8->Nat}{b:List UInt8}(h:b≠[]):fY cf b=if L7 cf (b.take 13)then(rdK (b.take 13),rdV (b.take 13))::fY cf (b.drop 13)else[]:=by
 have hl:0<b.length:=List.length_pos_iff.2 h
 unfold fY
 rw[Zj cf b.length (b.length-1+1) b (aJK _) (by omega),PY,if_neg h,Zj cf (b.length-1) (b.drop 13).length (b.drop 13) (by rw[aJO];omega) (aJK _)]
theorem tk1 {p:List UInt8}(h:0<p.length):tkR p 0 1=(p.take 1,p.drop 1,0):=by
 unfold tkR;rw[if_neg (by decide),if_neg (by omega)]
theorem tk8 {p:List UInt8}:Dk (tkR (p.drop 1) 0 8).1=rdV p:=by
 unfold tkR rdV
 rw[if_neg (by decide),aJO]
 by_cases h:p.length<9
 .rw [if_pos (by omega),if_pos h]<;>rfl
 .rw [if_neg (by omega),if_neg h]
theorem aDl:amC bX= #[13]:=by kernel_rfl
theorem aGQ:RM pg fV=46:=by kernel_rfl
def anW(w:aLW)(base:Nat)(o:aLX)(R:List (Nat×Nat)):Prop:=Di w (λb=>base<=b) 2 o R.length (R.flatMap oF)
theorem aBx{l:List UInt8}{v:aLX}{w:aLW}(hg:lO w)(hb:Bs w v l)(hl:l.length<=100000000):
 aG pg fV #[v] w (λr w'=>∃o,r= .tuple #[o,.int .i64 ((13*(fY aY l).length:Nat):Int)]/\anW w' w.heap.size o (fY aY l)/\aL w w' aT):=by
 refine Zm ?_
 obtain⟨RR,hRR⟩:∃RR:aLX->aLW->Prop,RR=λr w'=>∃o,r= .tuple #[o,.int .i64 ((13*(fY aY l).length:Nat):Int)]/\anW w' w.heap.size o (fY aY l)/\aL w w' aT:=⟨_,rfl⟩
 rw[<-hRR]
 unfold aaT OY OX Iv RD
 refine Tq λw1 o1 x1 s1=> ?_
 refine aGA λw2 o2 x2 s2=> ?_
 refine Db o2 rfl (by simp) λw3 o3 x3 s3=> ?_
 simp only[aJR]at o3
 unfold Iu It RC
 refine Oz ?_
 unfold Kg Fw Fv
 obtain⟨va,vn,vc,hv,-⟩:=id hb
 subst hv
 refine cA λw4 o4 x4 s4=> ?_
 simp only[Value.cells]at o4
 refine cA λw5 o5 x5 s5=> ?_
 simp only[Value.cells]at o5
 have c5:=o5.cell (off:=0)
 simp only[aJz]at c5
 have d5:decide ((13:Int)<1)=false:=rfl
 have q1:=λw=>RQ (P:=pg) (f:=iM) [] [.pointer (some ⟨w3.heap.size,0,none⟩),.pointer (some ⟨w4.heap.size,0,none⟩)] w
 unfold xQ
 simp(disch:=omega)only[seval,c5,d5,q1]
 unfold Is Ir
 intro g g4 g5 g12 gm
 generalize hn0:w.heap.size=n0 at*
 have e1:w1.heap.size=n0+1:=by omega
 have e3:w3.heap.size=n0+2:=by omega
 have e4:w4.heap.size=n0+3:=by omega
 have e5:w5.heap.size=n0+4:=by omega
 rw[e1]at o2 o3 x3 g5
 rw[e3]at o4 g12
 rw[e4]at o5 g12
 have x03:aL w w3 aT:=(x1.seq x2).trans x3 λy hy h=>by omega
 have x05:aL w w5 aT:=(x03.seq x4).seq x5
 have b1:bD w5 n0 [.slice none 0 0]:=(((o1.ext x2 (λh=>h)).ext x3 (by omega)).ext x4 (λh=>h)).ext x5 (λh=>h)
 have b2:bD w5 (n0+1) [.int .i64 0]:=(o3.ext x4 (λh=>h)).ext x5 (λh=>h)
 have b3:bD w5 (n0+2) [.slice va vn vc]:=o4.ext x5 (λh=>h)
 refine arU (fi:=iM) (cap:= #[.pointer (some ⟨n0+2,0,none⟩),.pointer (some ⟨n0+3,0,none⟩)]) (by show noMark (g 1000003)=true;rw[gm]<;>rfl) g12 Tryz.func111 (by kernel_rfl) (by kernel_rfl) ?_
 obtain⟨x8,s8,d8,l8⟩:=aoE fV (RM pg fV) (amC bX) (aeI bX) (Yb bX) g w5
 rw[e5]at s8 d8 l8⊢
 generalize rfW fV (RM pg fV) (amC bX) (aeI bX) (Yb bX) g w5=w8 at*
 obtain⟨r0,hr0⟩:∃r0:Loop,r0={state:= .ready,pending:=none,fn:=fV,tmps:=tmpsOf (RM pg fV) g,params:=amC bX,assign:=aeI bX,body:=Yb bX,defers:=n0+4}:=⟨_,rfl⟩
 rw[<-hr0]at l8
 have x08:aL w w8 aT:=x05.seq x8
 let M:Nat->Prop:=λy=>y=n0+5∨y=n0∨y=n0+1∨n0+5<y
 let Q:Nat->aLW->List (Nat×Nat)->Prop:=λbase W R=>∃ov,aL w8 W M/\bD W n0 [ov]/\bD W (n0+1) [.int .i64 ((13*R.length:Nat):Int)]/\Di W (λb=>n0+5<b) 2 ov R.length (R.flatMap oF)
 let I:Nat->aLW->Prop:=λi W=>∃R,fY aY l=R++fY aY (l.drop i)/\W.heap[n0+5]?=some (.loop r0)/\R.length<=i/\Q n0 W R
 let S:aLW->Prop:=λW=>W.heap[n0+5]?=some (.loop {r0 with state:= .done,pending:=some (.exit 0)})/\Q n0 W (fY aY l)
 have hQd:∀{W R},Q n0 W R->Q n0 (dr W) R:=λ{W R} ⟨ov,h1,h2,h3,h4⟩=>⟨ov,h1.seq (aL.dr _ _),h2.ext (aL.dr _ aT) (λh=>h),h3.ext (aL.dr _ aT) (λh=>h),h4.ext (aL.dr _ aT) (λ_ _ h=>h)⟩
 have hmain:=aEX (l:=l) (v:= .slice va vn vc) (box:=n0+2) (bn:=n0+3) (lp:=n0+5) (r0:=r0) (w:=w8) I S ?hI ?hD ?hp (by omega) ?h0 ?hs
 case hI=>
  rintro i W ⟨R,hR,hlp,hRl,ov,hx,q1,q2,q3⟩
  exact⟨(b3.ext x8 (λh=>h)).ext hx (by omega),(o5.ext x8 (λh=>h)).ext hx (by omega),hb.ext (x08.trans hx λy hy h=>by omega) (bC _),hlp⟩
 case hD=>
  rintro i W ⟨R,hR,hlp,hRl,hq⟩
  exact⟨R,hR,hlp,hRl,hQd hq⟩
 case hp=>rw[hr0,aDl]<;>rfl
 case h0=>exact⟨[],rfl,l8,aJK _,_,aL.refl _ _,b1.ext x8 (λh=>h),b2.ext x8 (λh=>h),⟨rfl,.inl ⟨rfl,rfl⟩⟩⟩
 case hs=>
  rintro i W pv hi ⟨R,hR,hlp,hRl,ov,hx,q1,q2,q3⟩ hpb hpn
  have zW:=hx.size
  have y08:aL w W aT:=x08.trans hx λy hy h=>by omega
  have hT:VB r0 [pv]=(tmpsOf 46 g).setIfInBounds 13 pv:=aAJ (by rw[hr0];exact aDl) (by rw[hr0];simp only;rw[aGQ]) _
  have hE:∀{x:Nat} {u v:aLX},x<13->g x=u->KG ((tmpsOf 46 g).setIfInBounds 13 v) x=u:=λ{x u v} h1 h2=>by
   rw[Ws (by simp[tmpsOf]),if_neg (by omega),anF (by omega),h2]
  have hE13:∀{v:aLX},KG ((tmpsOf 46 g).setIfInBounds 13 v) 13=v:=λ{v}=>by
   rw[Ws (by simp[tmpsOf]),if_pos rfl]
  rw[hT]
  subst hr0
  refine WJ (by simp[tmpsOf]) ?_
  rw[hE (by omega) g4,hE (by omega) g5,hE13]
  unfold OZ CI
  refine anV hlp rfl λW1 l1 y1 z1=> ?_
  obtain⟨p,hp⟩:∃p,p=(l.drop i).take 13:=⟨_,rfl⟩
  rw[<-hp]at hpb
  have hpl:p.length=min 13 (l.length-i):=by rw[hp,aJL,aJO]
  have hne:l.drop i≠[]:=λh=>by have:=congrArg List.length h;rw[aJO]at this;simp at this;omega
  have hstep:=Zk (cf:=aY) hne
  rw[<-hp,aLb]at hstep
  have y01:aL w W1 aT:=y08.trans y1 λy hy h=>by omega
  have hpv0:∀{N:Nat->Prop},(∀y,N y->n0<=y)->¬fI pv N:=λ{N} hN h=>hb.old (bO (hpn _ h) λy hy=>by rw[hn0];exact hN y hy)
  have hp1:Bs W1 pv p:=hpb.ext y1 (hpv0 λy hy=>by omega)
  have q1:=q1.ext y1 (by omega)
  have q2:=q2.ext y1 (by omega)
  have q3:=q3.ext y1 (λb hb h=>by omega)
  unfold vS
  refine(atY hp1 (by omega)).mono ?_
  rintro r W2 ⟨pr,rfl,hr2,y2⟩
  refine(agS (n:=1) hr2 (by omega) ⟨by omega,by omega⟩).mono ?_
  rintro r W3 ⟨rfl,hr3,y3⟩
  have tk:=tk1 (p:=p) (by omega)
  rw[tk]at hr3⊢
  have hk1:Dk (p.take 1)=rdK p:=rfl
  have hk256:rdK p<256:=by
   have:=G4 (p.take 1)
   rw[aJL,aJ1 (by omega)]at this
   rw[<-hk1];simpa using this
  rw[hk1]
  obtain⟨K,hK⟩:∃K,K=rdK p:=⟨_,rfl⟩
  rw[<-hK]at hk256⊢
  have e6:IntKind.u8.wrap (K:Int)=(K:Int):=aCf (by omega) (by omega)
  simp(disch:=omega)only[seval,e6]
  refine(agS (n:=8) hr3 (by rw[aJO];omega) ⟨by omega,by omega⟩).mono ?_
  rintro r W4 ⟨rfl,hr4,y4⟩
  rw[tk8]
  obtain⟨V,hV⟩:∃V,V=rdV p:=⟨_,rfl⟩
  have hV64:V<2^64:=by
   rw[hV]
   unfold rdV
   split
   .omega
   .have:=G4 ((p.drop 1).take 8)
    rw[aJL,aJO,aJ1 (by omega)]at this
    omega
  rw[<-hV]
  obtain⟨hr0a,hr0b,_⟩:=hr2
  have zW1:=y1.size
  have zW2:=y2.size
  have zW3:=y3.size
  have zW4:=y4.size
  have y14:aL W1 W4 aT:=(y2.trans y3 λy hy h=>by omega).trans y4 λy hy h=>by omega
  simp(disch:=omega)only[seval]
  refine DK λW5 o5 y5 z5=> ?_
  refine De o5 rfl (by simp[one]) (by decide) λW6 o6 y6 z6=> ?_
  obtain⟨pc,hpc⟩:∃pc,pc=W4.heap.size:=⟨_,rfl⟩
  rw[<-hpc]at o6 y6⊢
  have o6:bD W6 pc (oF (K,V)):=o6
  have y16:aL W1 W6 aT:=(y14.seq y5).trans y6 λy hy h=>by omega
  have y06:aL w W6 aT:=y01.seq y16
  have lr:=vR (off:=0) o6 (by simp)
  have lr:(aB 109 (.pointer (some ⟨pc,0,none⟩))).run pg W6= .ok (.value (alW K V)) W6:=lr
  have hz:=λox oy=>aE7 (ox:=ox) (oy:=oy) (K:Int) (V:Int) 0 0 W6
  have q1:=q1.ext y16 (λh=>h)
  have q2:=q2.ext y16 (λh=>h)
  have q3:=q3.ext y16 (λ_ _ h=>h)
  have l6:=uZ l1 y16 (λh=>h)
  have x86:aL w8 W6 M:=(hx.trans y1 λy hy h=> .inl h).seq (y16.mono λ_ _ h=>h.elim)
  have hbad:L7 aY p=false->∀W7,aL W6 W7 aT->afW (n0+5) (some (.exit 0)) (λb W'=>(b= .bool true/\I (i+13) W')∨(b= .bool false/\S W')) W7:=by
   intro hbd W7 y7
   have hLR:fY aY l=R:=by rw[hR,hstep,if_neg (by rw[hbd];decide),aKb]
   refine Vz (uZ l6 y7 (λh=>h)) λW8 l8' y8 z8=> .inr ⟨rfl,l8', ?_⟩
   rw[hLR]
   exact⟨ov,(x86.trans y7 λy hy h=>h.elim).trans y8 λy hy h=> .inl h,(q1.ext y7 (λh=>h)).ext y8 (by omega),(q2.ext y7 (λh=>h)).ext y8 (by omega),(q3.ext y7 (λ_ _ h=>h)).ext y8 (λb hb h=>by omega)⟩
  have hgd:L7 aY p=((K==1||K==2)&&mN aY K V==p):=by rw[hK,hV]<;>rfl
  by_cases hz0:K=0/\V=0
  .have d1:(((K:Nat):Int)==0&&((V:Nat):Int)==0)=true:=by rw[hz0.1,hz0.2]<;>rfl
   simp only[d1]at hz
   simp(disch:=omega)only[seval,lr,hz]
   exact hbad (by rw[hgd,hz0.1]<;>rfl) W6 (aL.refl _ _)
  have d1:(((K:Nat):Int)==0&&((V:Nat):Int)==0)=false:=by
   rw[aLN,beq_eq_false_iff_ne,beq_eq_false_iff_ne]
   omega
  simp only[d1]at hz
  simp(disch:=omega)only[seval,lr,hz]
  refine(atP (hg.ext y06) hk256 hV64).mono ?_
  rintro r W7 ⟨hr7,y7⟩
  by_cases hk12:K=1∨K=2
  rotate_left
  .rw [if_neg hk12]at hr7
   subst hr7
   have n1:((1:Int) !=0)=true:=rfl
   simp(disch:=omega)only[seval,n1]
   refine hbad ?_ W7 y7
   rw[hgd]
   have:(K==1||K==2)=false:=by rw[aLi,beq_eq_false_iff_ne,beq_eq_false_iff_ne];omega
   rw[this]<;>rfl
  rw[if_pos hk12]at hr7
  obtain⟨pb,rfl,hpbs⟩:=hr7
  have h13:=mJ aY K V
  have n0':((0:Int) !=0)=false:=rfl
  have y17:aL W1 W7 aT:=y16.seq y7
  simp(disch:=omega)only[seval,n0']
  refine(aBq (show Bs W7 pb (mN aY K V)from hpbs.sl) (hp1.ext y17 (bC _)) (by omega) (by omega)).mono ?_
  rintro r W8 ⟨rfl,y8⟩
  have y68:aL W6 W8 aT:=y7.seq y8
  cases hq:(mN aY K V==p)with
  |false=>
   simp(disch:=omega)only[seval]
   exact hbad (by rw[hgd,hq,Bool.and_false]) W8 y68
  |true=>
   have hgood:L7 aY p=true:=by
    rw[hgd,hq,Bool.and_true,aKq,beq_iff_eq,beq_iff_eq];exact hk12
   have hp13:=Td aY hgood
   have q1:=q1.ext y68 (λh=>h)
   have q2:=q2.ext y68 (λh=>h)
   have q3:=q3.ext y68 (λ_ _ h=>h)
   have l8:=uZ l6 y68 (λh=>h)
   have lr8:=vR (off:=0) (o6.ext y68 (λh=>h)) (by simp)
   have lr8:(aB 109 (.pointer (some ⟨pc,0,none⟩))).run pg W8= .ok (.value (alW K V)) W8:=lr8
   have c1:=q1.cell (off:=0)
   simp only[aJz]at c1
   simp(disch:=omega)only[seval,c1,lr8]
   refine Tx (cells:= #[.int .u8 (K:Nat),.int .u64 (V:Nat)]) (by decide) (by decide) (by kernel_rfl) λW9 o9 y9 z9=> ?_
   have o9:bD W9 W8.heap.size (oF (K,V)):=o9
   have z85:n0+5<W8.heap.size:=by
    have:=y17.size
    have:=y8.size
    have:=aDo l1
    omega
   obtain⟨oa,oc,rfl⟩:=xC q3
   have q3:=q3.ext y9 (λ_ _ h=>h)
   refine yG (m:=1) (news:=oF (K,V)) (i:=Tryz.t109) Tryz.underlying104 Tryz.underlying104 Vn rfl rfl rfl q3 (o9.cl (off:=0) (n:=1) rfl (λi hi=>by rw[aJC])) (by simp[one]) (λb hb=>by omega) (by omega) (by rw[show Tryz.t109.bytes=16 from rfl];omega) (by decide) λv' W10 o' y10=> ?_
   obtain⟨oa',oc',rfl⟩:=xC o'
   have q1:=(q1.ext y9 (λh=>h)).ext y10 (by omega)
   have q2:=(q2.ext y9 (λh=>h)).ext y10 (by omega)
   refine Ub q1 rfl (by simp) λW11 q1 y11 z11=> ?_
   simp only[aJR]at q1
   have q2:=q2.ext y11 (by omega)
   have o':=CL o' y11 (λb hb h=>by omega)
   have c2:=q2.cell (off:=0)
   simp only[aJz]at c2
   have e13:((13*R.length:Nat):Int)+13=((13*(R.length+1):Nat):Int):=by omega
   simp(disch:=omega)only[seval,c2,e13]
   refine Db q2 rfl (by simp) λW12 q2 y12 z12=> ?_
   simp only[aJR]at q2
   have y812:aL W8 W12 M:=(((y9.mono λ_ _ h=>h.elim).seq (y10.mono λy _ h=> .inr (.inr (.inr h)))).seq (y11.mono λy _ h=> .inr (.inl h))).seq (y12.mono λy _ h=> .inr (.inr (.inl h)))
   have l12:=uZ (uZ (uZ (uZ l8 y9 (λh=>h)) y10 (by omega)) y11 (by omega)) y12 (by omega)
   refine Vz l12 λW13 l13 y13 z13=> .inl ⟨rfl,R++[(K,V)], ?_,l13, ?_,_,((x86.trans y68 λy hy h=>h.elim).seq y812).seq (y13.mono λy _ h=> .inl h),q1.ext y12 (by omega)|>.ext y13 (by omega), ?_, ?_⟩
   .rw [hR,hstep,if_pos hgood,aJS,<-hK,<-hV]<;>rfl
   .rw [aJB];simp;omega
   .rw [aJB];exact q2.ext y13 (by omega)
   .rw [aJB,List.flatMap_append]
    exact CL (CL o' y12 (λb hb h=>by omega)) y13 (λb hb h=>by omega)
 refine hmain.mono ?_
 rintro r w9 ⟨rfl,h⟩
 have fin:∀{wa:aLW},wa.heap[n0+4]?=some (.deferred (some []))->Q n0 wa (fY aY l)->rC RR (.pointer (some ⟨n0,0,none⟩)) (.pointer (some ⟨n0+1,0,none⟩)) (.pointer (some ⟨n0+4,0,none⟩)) wa:=λ{wa} hd ⟨ov,hx,q1,q2,q3⟩=>by
  unfold rC
  have c1:=(dB q1).cell (off:=0)
  have c2:=(dB q2).cell (off:=0)
  simp only[aJz]at c1 c2
  simp(disch:=omega)only[seval,c1,c2]
  refine akC hd λwe ye ze=> ?_
  rw[hRR]
  refine⟨ov,rfl, ?_,((x08.trans hx λy hy h=>by omega).seq (aL.dr _ _)).trans ye λy hy h=>by omega⟩
  have o':=CL (CL q3 (aL.dr _ aT) (λ_ _ h=>h)) ye (λb hb h=>by omega)
  refine⟨o'.1, ?_⟩
  rcases o'.2 with h|⟨b,c,rest,g1,g2,g3⟩
  .exact .inl h
  .exact .inr ⟨b,c,rest,g1,by omega,g3⟩
 have hz4:put g (some DS) (.pointer (some ⟨n0+4,0,none⟩)) 4=g 4:=rfl
 have hz5:put g (some DS) (.pointer (some ⟨n0+4,0,none⟩)) 5=g 5:=rfl
 have hzm:put g (some DS) (.pointer (some ⟨n0+4,0,none⟩)) 1000003= .pointer (some ⟨n0+4,0,none⟩):=rfl
 have hQx:∀{W W' R},Q n0 W R->aL W W' (λy=>y=n0+5)->Q n0 W' R:=λ{W W' R} ⟨ov,h1,h2,h3,h4⟩ x=>⟨ov,h1.seq (x.mono λy _ h=> .inl h),h2.ext x (by omega),h3.ext x (by omega),CL h4 x (λb hb h=>by omega)⟩
 rcases h with⟨i,hil,R,hR,hlp,hRl,hQ⟩|⟨hlp,hQ⟩
 .have hnil:l.drop i=[]:=List.drop_eq_nil_of_le hil
  have hLR:fY aY l=R:=by rw[hR,hnil];exact aKb _
  obtain⟨ov,hx,_⟩:=id hQ
  refine Sw hlp (by rw[hr0];simp) λwa ya za=> ?_
  rw[hr0]
  show rC RR (put g (some DS) (.pointer (some ⟨n0+4,0,none⟩)) 4) (put g (some DS) (.pointer (some ⟨n0+4,0,none⟩)) 5) (put g (some DS) (.pointer (some ⟨n0+4,0,none⟩)) 1000003) wa
  rw[hz4,hz5,hzm,g4,g5]
  refine fin (uZ (uZ d8 hx (by omega)) ya (by omega)) ?_
  rw[hLR]
  exact hQx hQ ya
 .obtain ⟨ov,hx,_⟩:=id hQ
  refine Sw hlp (by simp) λwa ya za=> ?_
  show rC RR (put g (some DS) (.pointer (some ⟨n0+4,0,none⟩)) 4) (put g (some DS) (.pointer (some ⟨n0+4,0,none⟩)) 5) (put g (some DS) (.pointer (some ⟨n0+4,0,none⟩)) 1000003) wa
  rw[hz4,hz5,hzm,g4,g5]
  exact fin (uZ (uZ d8 hx (by omega)) ya (by omega)) (hQx hQ ya)
def zA(s:ByteArray):Bool:=decide (1<=s.size/\s.size<=32)
theorem aDt(s:ByteArray)(w:aLW):aG pg DI #[.string s] w (λr w'=>r= .bool (zA s)/\w'=w):=by
 refine alM ?_
 unfold asS aaH zA
 by_cases h1:1<=s.size
 .have d1:decide ((1:Int)<=(s.size:Int))=true:=by simp;omega
  by_cases h2:s.size<=32
  .have d2:decide ((s.size:Int)<=32)=true:=by simp;omega
   rw[decide_eq_true ⟨h1,h2⟩]
   simp(disch:=omega)only[seval,d1,d2]
  .have d2:decide ((s.size:Int)<=32)=false:=by simp;omega
   rw[decide_eq_false (λh=>h2 h.2)]
   simp(disch:=omega)only[seval,d1,d2]
 .have d1:decide ((1:Int)<=(s.size:Int))=false:=by simp;omega
  rw[decide_eq_false (λh=>h1 h.1)]
  simp(disch:=omega)only[seval,d1]
theorem aHc{m:Nat}{X:Nat->Prop}{ls:List (ByteArray×aLX)}{c:cI}{w:aLW}(hm:Mp w m Q6 ls)(hf:Fc w X ls c)(hs:bN c<=1099511627776):
 aG pg vK #[.map (some m)] w (λr w'=>r= .int .i64 (bN c:Nat)/\aL w w' aT):=by
 refine Q3 ?_
 unfold OP H5 H4 Bh Bg H3
 have hlt:=hm.lt
 refine US hm λw1 hi x1 s1=> ?_
 unfold sR
 have hf1:Fc w1 (λb=>X b∨w.heap.size<=b) ls c:=(hf.sub (Y:=λb=>X b∨w.heap.size<=b) λ_ h=>h).ext x1 λ_ h=>h.elim
 refine bM.rule (λk (t:aLX) w'=>∃(rest:List (ByteArray×aLX)) (cr:cI) (n:Nat),k=rest.length/\t= .int .i64 n/\Itr w' w.heap.size m Q6 rest/\Fc w' (λb=>X b∨w.heap.size<=b) rest cr/\n+bN cr=bN c/\aL w1 w' (λy=>y=w.heap.size)) ls.length
  ⟨ls,c,0,rfl,rfl,hi,hf1,by omega,aL.refl _ _⟩ ?_
 rintro k t w2 ⟨rest,cr,n,rfl,rfl,hi2,hf2,hn,x2⟩
 unfold Bf
 refine awH hi2 (by omega) (λh0=> ?_) λw3 j hj hi3 hc x3 s3=> ?_
 .have hl:=hf2.len
  rw[h0]at hl
  have hcr:cr=[]:=aJ9.1 hl.symm
  have hz:bN cr=0:=by rw[hcr]<;>rfl
  unfold Be
  have e1:n=bN c:=by omega
  simp(disch:=omega)only[seval,e1]
  exact x1.new x2 (aJK _)
 .have hl:=hf2.len
  have hat:=hf2.at hj (by omega)
  obtain⟨va,vc,hv,_⟩:=hat.2.1.len
  rw[aJy]at hv
  have he:=aAD (P:=pg) hc
  rw[hv]at he
  have hse:=asZ (c:=cr) (j:=j) (by omega)
  generalize(cr[j]'(by omega)).2.length=q at*
  have e1:(n:Int)+(q:Int)=((n+q:Nat):Int):=by omega
  simp(disch:=omega)only[seval,he,e1]
  refine⟨(rest.eraseIdx j).length,by rw[List.length_eraseIdx_of_lt hj];omega,_,cr.eraseIdx j,n+q,rfl,rfl,hi3,(hf2.erase j).ext x3 (λb h=> .inr (by omega)),by omega,x2.seq x3⟩
theorem azE(cs:List aLX)(n:Nat):eF cs n []=cs:=by unfold eF;rfl
theorem aAb(n:Nat):(List.replicate n (0:UInt8)).map gO=List.replicate n (Value.int .u8 0):=by rw[aLG]<;>rfl
theorem aHO{m:Nat}{X:Nat->Prop}{ls:List (ByteArray×aLX)}{c:cI}{o:LH}{va:Option Addr}{vc:Nat}{w:aLW}(hm:Mp w m Q6 ls)(hmX:X m)(hX:∀b,X b->b<w.heap.size)(hf:Fc w X ls c)
 (hd:Jw w X (.slice va o.bytes.length vc) o.bytes) (hs:bN c<=1099511627776) (ha:o.at'<=1099511627776) (hb:o.bytes.length<=1099511627776):
 aG pg tS #[.map (some m),.agg (YI o (.slice va o.bytes.length vc)).toArray] w (λr w'=>r= .tuple #[]/\∃ls',Mp w' m Q6 ls'/\Fc w' X ls' (TL o c)/\aL w w' (λb=>b=m)):=by
 refine Vl ?_
 unfold Ug L4
 refine cA λw1 o1 x1 s1=> ?_
 have o1:bD w1 w.heap.size [.int .i64 o.kind,.string o.name,.string o.other,.int .i64 o.at',.slice va o.bytes.length vc]:=o1
 have hlt:=hm.lt
 have hm1:=hm.ext x1 (λh=>h)
 have fin:∀{w':aLW} {ls':List (ByteArray×aLX)},Mp w' m Q6 ls'->Fc w' X ls' (TL o c)->aL w w' (λb=>b=m)->∃ls',Mp w' m Q6 ls'/\Fc w' X ls' (TL o c)/\aL w w' (λb=>b=m):=λh1 h2 h3=>⟨_,h1,h2,h3⟩
 have hfx:∀{w':aLW},aL w w' (λb=>b=m)->Fc w' X ls c:=λx=>hf.ext x λb h=>h▸hmX
 obtain⟨oa,oc,ob,th,l0,hbo,hnx,hob,hth⟩:∃(oa:Option Addr) (oc:Nat) (ob:List UInt8) (th:Bool),(CT 73 (.map (some m)) (.string o.name) true).run pg w1= .ok (.value (.tuple #[.slice oa ob.length oc,.bool th])) w1/\Bs w (.slice oa ob.length oc) ob/\¬fI (.slice oa ob.length oc) X/\
  (bF o.name c).getD []=ob/\(th=true/\bF o.name c=some ob∨th=false/\bF o.name c=none):=by
  have l0:=EM hm1 o.name
  rcases hf.get o.name with⟨h1,h2⟩|⟨v,b,h1,h2,h3⟩
  .rw [h1]at l0
   exact⟨none,0,[],false,l0,Sl.nil _,λh=>h,by rw[h2]<;>rfl,.inr ⟨rfl,h2⟩⟩
  .obtain ⟨a',c',hv,_⟩:=h3.1.len
   rw[aJy]at hv
   subst hv
   rw[h1]at l0
   exact⟨a',c',b,true,l0,h3.1,h3.2,by rw[h2]<;>rfl,.inl ⟨rfl,h2⟩⟩
 have c0:=o1.cell (off:=0)
 have c1:=o1.cell (off:=1)
 have c2:=o1.cell (off:=2)
 have c3:=o1.cell (off:=3)
 have c4:=o1.cell (off:=4)
 simp only[aJz,aJF]at c0 c1 c2 c3 c4
 have holdlen:ob.length<=1099511627776:=by rw[<-hob];have:=qV (k:=o.name) (c:=c);omega
 by_cases k0:o.kind=0
 .have n1:(((o.kind:Nat):Int)==0)=true:=by rw[k0]<;>rfl
  obtain⟨M,hM⟩:∃M,M=max ob.length (o.at'+o.bytes.length):=⟨_,rfl⟩
  have e1:(o.at':Int)+(o.bytes.length:Int)=((o.at'+o.bytes.length:Nat):Int):=by omega
  have hmax:(if((o.at'+o.bytes.length:Nat):Int)>(ob.length:Int)then((o.at'+o.bytes.length:Nat):Int)else(ob.length:Int))=((M:Nat):Int):=by
   split<;>omega
  simp(disch:=omega)only[seval,c0,c1,c3,c4,l0,n1,e1,hmax]
  refine RL (by omega) (by omega) λw2 o2 x2 s2=> ?_
  rw[aJE]at o2⊢
  have x02:=x1.seq x2
  have hnb:¬fI (.slice oa ob.length oc) (λy=>y=w1.heap.size):=λh=>hbo.old (bO h λb hb=>by omega)
  refine JP o2 (by rw[aJ5];omega) (hbo.ext x02 (bC _)) (DN _) λw3 o3 x3 s3=> ?_
  have P3:eF (List.replicate M (Value.int .u8 0)) 0 ((ob.map gO).take (min (ob.map gO).length M))=(ob++List.replicate (M-ob.length) 0).map gO:=by
   rw[aJy,aJ1 (by omega),aJD (by rw[aJy];omega)]
   have:=jB (ob.map gO) [] (List.replicate M (Value.int .u8 0)) (by rw[aJy,aJ5];omega)
   rw[aJX,aJX,aKy]at this
   rw[this,aJ7,aAb,List.drop_replicate,aJy]
  rw[P3]at o3
  have x03:aL w w3 aT:=x02.new x3 (by omega)
  have o13:=(o1.ext x2 (λh=>h)).ext x3 (by omega)
  have hm3:=hm.ext x03 (λh=>h)
  have q1:=o13.cell (off:=1)
  have q3:=o13.cell (off:=3)
  have q4:=o13.cell (off:=4)
  have q3d:=(dB o13).cell (off:=3)
  have q4d:=(dB o13).cell (off:=4)
  simp only[aJz,aJF]at q1 q3 q4 q3d q4d
  have hbd:Bs (dr w3) (.slice va o.bytes.length vc) o.bytes:=(hd.1.ext x03 (bC _)).ext (aL.dr _ aT) (bC _)
  have hhm:o.at'<=M:=by omega
  have hP:(ob++List.replicate (M-ob.length) (0:UInt8)).length=M:=by rw[aJB,aJ5];omega
  have hov:over ob o.at' o.bytes=(ob++List.replicate (M-ob.length) 0).take o.at'++o.bytes++(ob++List.replicate (M-ob.length) 0).drop (o.at'+o.bytes.length):=by unfold over;rw[<-hM]
  have hol:=xG ob o.at' o.bytes
  generalize ob++List.replicate (M-ob.length) (0:UInt8)=P at*
  have ending:∀(w4:aLW),bD w4 w1.heap.size ((over ob o.at' o.bytes).map gO)->aL w w4 aT→
      aA pg (VM 73 (.map (some m)) (.string o.name) (.slice (some ⟨w1.heap.size,0,none⟩) M M)) w4 λ_ w'=>∃ls',Mp w' m Q6 ls'/\Fc w' X ls' (TL o c)/\aL w w' (λb=>b=m):=λw4 o4 x4=>by
   refine Uu (hm.ext x4 (λh=>h)) o.name _ λw5 hm5 x5 s5=> ?_
   have x05:aL w w5 (λb=>b=m):=(x4.mono λ_ _ h=>h.elim).seq x5
   have hdo:TL o c=lP o.name (over ob o.at' o.bytes) c:=by unfold TL;rw[if_pos k0,hob]
   rw[hdo]
   refine⟨_,hm5,Fc.set ⟨?_,λh=> ?_⟩ (hfx x05),x05⟩
   .have:=bD.whole (c:=M) (o4.ext x5 (by omega)) (by omega)
    rw[hol,<-hM]at this
    exact this
   .obtain ⟨M',hM'⟩:∃M',M=M'+1∨M=0:=⟨M-1,by omega⟩
    rcases hM' with h'|h'
    .rw [h']at h
     have h:X w1.heap.size:=h
     have:=hX _ h
     omega
    .rw [h']at h
     exact h
  by_cases hat:o.at'<M
  .have hsh:dD (some ⟨w1.heap.size,0,none⟩) M o.at' 1=some ⟨w1.heap.size,0+o.at',none⟩:=azF (by omega)
   simp(disch:=omega)only[seval,q3,q4,q3d,q4d,hsh]
   refine JP (off:=o.at') (dB o3) (by rw[aJy];omega) hbd (DN _) λw4 o4 x4 s4=> ?_
   have P4:eF (P.map gO) o.at' ((o.bytes.map gO).take (min (o.bytes.map gO).length (M-o.at')))=(over ob o.at' o.bytes).map gO:=by
    rw[aJy,aJ1 (by omega),aJD (by rw[aJy];omega)]
    have:=jB (o.bytes.map gO) ((P.take o.at').map gO) ((P.drop o.at').map gO) (by rw[aJy,aJy,aJO];omega)
    rw[<-aJ7,aKI,aJy,aJL,aJ1 (by omega)]at this
    rw[this,hov,aJy,aJ7,aJ7,<-aLf,aLb]
   rw[P4]at o4
   have x34:aL w3 w4 (λy=>y=w1.heap.size):=(aL.dr _ _).seq x4
   have x04:aL w w4 aT:=x03.new x34 (by omega)
   have o14:=o13.ext x34 (by omega)
   have q1:=o14.cell (off:=1)
   have q1d:=(dB o14).cell (off:=1)
   simp only[aJz,aJF]at q1 q1d
   have e4:=ending w4 o4 x04
   simp(disch:=omega)only[seval,q1,q1d]
   exact e4
  .have hE:o.at'=M:=by omega
   have hb0:o.bytes=[]:=aJ9.1 (by omega)
   have hsh:dD (some ⟨w1.heap.size,0,none⟩) M o.at' 1=some ⟨w1.heap.size,0,none⟩:=by unfold dD;rw[if_pos hE.symm]
   simp(disch:=omega)only[seval,q3,q4,q3d,q4d,hsh]
   refine JP (off:=0) (dB o3) (by rw[aJy];omega) hbd (DN _) λw4 o4 x4 s4=> ?_
   have P4:eF (P.map gO) 0 ((o.bytes.map gO).take (min (o.bytes.map gO).length (M-o.at')))=(over ob o.at' o.bytes).map gO:=by
    rw[hov,hb0]
    show eF (P.map gO) 0 (List.take (min 0 (M-o.at')) [])=_
    rw[List.take_nil,azE,aKb,aKy,aLT,aKI]
   rw[P4]at o4
   have x34:aL w3 w4 (λy=>y=w1.heap.size):=(aL.dr _ _).seq x4
   have x04:aL w w4 aT:=x03.new x34 (by omega)
   have o14:=o13.ext x34 (by omega)
   have q1:=o14.cell (off:=1)
   have q1d:=(dB o14).cell (off:=1)
   simp only[aJz,aJF]at q1 q1d
   have e4:=ending w4 o4 x04
   simp(disch:=omega)only[seval,q1,q1d]
   exact e4
 have n1:(((o.kind:Nat):Int)==0)=false:=beq_eq_false_iff_ne.2 (by omega)
 have self:aL w w1 (λb=>b=m):=x1.mono λ_ _ h=>h.elim
 by_cases k1:o.kind=1
 .have n2:(((o.kind:Nat):Int)==1)=true:=by rw[k1]<;>rfl
  rcases hth with⟨rfl,hg⟩|⟨rfl,hg⟩
  .have hdo:TL o c=lP o.other ob (wU o.name c):=by unfold TL;rw[if_neg k0,if_pos k1,hg]
   simp(disch:=omega)only[seval,c0,c1,c2,c3,c4,l0,n1,n2]
   refine Uh hm1 o.name λw2 hm2 x2 s2=> ?_
   have x02:=self.seq x2
   have q2:=(o1.ext x2 (by omega)).cell (off:=2)
   simp only[aJz,aJF]at q2
   simp(disch:=omega)only[seval,q2]
   refine Uu hm2 o.other _ λw3 hm3 x3 s3=> ?_
   have x03:=x02.seq x3
   rw[hdo]
   refine fin (w':=w3) hm3 ?_ x03|>λh=>by rw[hdo]at h;exact h
   rw[hdo]
   exact Fc.set ⟨hbo.ext x03 (λh=>hnx (bO h λb hb=>by rw[hb];exact hmX)),hnx⟩ (Fc.del (hfx x03))
  .have hdo:TL o c=c:=by unfold TL;rw[if_neg k0,if_pos k1,hg]
   simp(disch:=omega)only[seval,c0,c1,c2,c3,c4,l0,n1,n2]
   exact fin hm1 (by rw[hdo];exact hfx self) self
 have n2:(((o.kind:Nat):Int)==1)=false:=beq_eq_false_iff_ne.2 (by omega)
 by_cases k2:o.kind=2
 .have n3:(((o.kind:Nat):Int)==2)=true:=by rw[k2]<;>rfl
  have hdo:TL o c=wU o.name c:=by unfold TL;rw[if_neg k0,if_neg k1,if_pos k2]
  simp(disch:=omega)only[seval,c0,c1,c2,c3,c4,l0,n1,n2,n3]
  refine Uh hm1 o.name λw2 hm2 x2 s2=> ?_
  have x02:=self.seq x2
  exact fin hm2 (by rw[hdo];exact Fc.del (hfx x02)) x02
 .have n3:(((o.kind:Nat):Int)==2)=false:=beq_eq_false_iff_ne.2 (by omega)
  have hdo:TL o c=c:=by unfold TL;rw[if_neg k0,if_neg k1,if_neg k2]
  simp(disch:=omega)only[seval,c0,c1,c2,c3,c4,l0,n1,n2,n3]
  exact fin hm1 (by rw[hdo];exact hfx self) self
abbrev dP(p:Nat):aLX:= .pointer (some ⟨p,0,none⟩)
def B3 (w:aLW)(p:Nat)(X D:Nat->Prop)(S':cF)(w':aLW):Prop:=∃X' D',fQ w' p X' D' S'/\(∀b,X' b->X b∨w.heap.size<=b)/\(∀b,D b->D' b)/\aL w w' X
theorem B3.refl {w:aLW}{p:Nat}{X D:Nat->Prop}{S:cF}(h:fQ w p X D S):B3 w p X D S w:=⟨X,D,h,λ_ h=> .inl h,λ_ h=>h,aL.refl _ _⟩
theorem B3.step {w w1 w2:aLW}{p:Nat}{X D X1 D1:Nat->Prop}{S2:cF}(x:aL w w1 X)(hX:∀b,X1 b->X b∨w.heap.size<=b)(hD:∀b,D b->D1 b)(h:B3 w1 p X1 D1 S2 w2):B3 w p X D S2 w2:=by
 obtain⟨X2,D2,h1,h2,h4,h3⟩:=h
 have z:=x.size
 refine⟨X2,D2,h1,λb hb=> ?_,λb hb=>h4 b (hD b hb),x.trans h3 λb hb hx=> ?_⟩
 .rcases h2 b hb with h|h
  .exact hX b h
  .exact .inr (by omega)
 .rcases hX b hx with h|h
  .exact h
  .omega
theorem afL{w:aLW}{S T:Nat->Prop}{sz n:Nat}{v:aLX}{l:List aLX}(h:Di w S sz v n l)(hT:∀b,S b->T b):Di w T sz v n l:=by
 refine⟨h.1, ?_⟩
 rcases h.2 with h2|⟨b,c,rest,h1,h2,h3⟩
 .exact .inl h2
 .exact .inr ⟨b,c,rest,h1,hT b h2,h3⟩
theorem aqC{w:aLW}{S:Nat->Prop}{sz n:Nat}{v:aLX}{l:List aLX}(h:Di w S sz v n l):Di w (λb=>S b/\b<w.heap.size) sz v n l:=by
 refine⟨h.1, ?_⟩
 rcases h.2 with h2|⟨b,c,rest,h1,h2,h3,h4⟩
 .exact .inl h2
 .exact .inr ⟨b,c,rest,h1,⟨h2,h3.lt⟩,h3,h4⟩
theorem aEp{p:Nat}{X D:Nat->Prop}{S:cF}{w:aLW}(h:fQ w p X D S):aG pg kJ #[dP p] w (λr w'=>r= .int .i64 (if S.down then 20 else 0)/\w'=w):=by
 refine Wo ?_
 unfold Wn OO
 obtain⟨ms,mn,sv,ls,ln,cs,h1,h2,h3,h4,h5,h6,hXD,hDl,o,hms,hmn,hfs,hfn,hu,ho⟩:=h
 have c5:=o.cell (off:=5)
 simp only[aJz,aJF]at c5
 cases hd:S.down with
 |true=>
  rw[hd]at c5
  simp(disch:=omega)only[seval,c5]
 |false=>
  rw[hd]at c5
  simp(disch:=omega)only[seval,c5]
def BT(l:Int):Int:=if 0<l then l-1 else l
def dnB(S:cF):Bool:=S.down||S.left==0
theorem aAY{p:Nat}{a b c d:aLX}{left:Int}{down:Bool}{w:aLW}(o:bD w p [a,b,c,d,.int .i64 left,.bool down])(hl: -1<=left/\left<=9223372036854775807):
 aG pg oU #[dP p] w (λr w'=>r= .bool (down||left==0)/\bD w' p [a,b,c,d,.int .i64 (BT left),.bool (down||left==0)]/\aL w w' (λy=>y=p)):=by
 refine Q2 ?_
 unfold ON H2 H0 BT
 have c4:=o.cell (off:=4)
 simp only[aJz,aJF]at c4
 by_cases h0:left=0
 .subst h0
  have n1:((0:Int)==0)=true:=rfl
  simp(disch:=omega)only[seval,c4,n1]
  refine tP o rfl (by simp) λw1 o1 x1 s1=> ?_
  simp only[aJR,aKe]at o1
  have c5:=o1.cell (off:=5)
  simp only[aJz,aJF]at c5
  unfold mT
  simp(disch:=omega)only[seval,c5]
  rw[Bool.or_true]
  exact⟨rfl,o1,x1⟩
 have n1:(left==0)=false:=beq_eq_false_iff_ne.2 h0
 rw[n1,aLx]
 by_cases h1:0<left
 .have d1:decide (0<left)=true:=by simpa using h1
  simp(disch:=omega)only[seval,c4,n1,d1]
  refine Db o rfl (by simp) λw1 o1 x1 s1=> ?_
  simp only[aJR,aKe]at o1
  have c5:=o1.cell (off:=5)
  simp only[aJz,aJF]at c5
  unfold mT
  rw[if_pos h1]
  simp(disch:=omega)only[seval,c5]
  exact⟨o1,x1⟩
 .have d1:decide (0<left)=false:=by simpa using h1
  have c5:=o.cell (off:=5)
  simp only[aJz,aJF]at c5
  unfold mT
  rw[if_neg h1]
  simp(disch:=omega)only[seval,c4,c5,n1,d1]
  exact⟨o,aL.refl _ _⟩
def wR(S:cF)(o:LH):cF×Int:=
 if dnB S then({S with left:=BT S.left,down:=dnB S},20)
 else({S with left:=BT S.left,down:=dnB S,under:=S.under++[o],seen:=TL o S.seen},0)
theorem axQ{p:Nat}{X D:Nat->Prop}{S:cF}{o:LH}{va:Option Addr}{vc:Nat}{w:aLW}(h:fQ w p X D S)(hd:Jw w D (.slice va o.bytes.length vc) o.bytes)(hl: -1<=S.left/\S.left<=9223372036854775807)
 (hs:bN S.seen<=1099511627776) (ha:o.at'<=1099511627776) (hb:o.bytes.length<=1099511627776) (hu:S.under.length<=1000000):
 aG pg mL #[dP p,.agg (YI o (.slice va o.bytes.length vc)).toArray] w (λr w'=>r= .int .i64 (wR S o).2/\B3 w p X D (wR S o).1 w'):=by
 refine TK ?_
 unfold Q1 JY
 refine cA λw1 o1 x1 s1=> ?_
 have o1:bD w1 w.heap.size (YI o (.slice va o.bytes.length vc)):=o1
 obtain⟨ms,mn,sv,ls,ln,cs,h1,h2,h3,h4,h5,h6,hXD,hDl,op,hms,hmn,hfs,hfn,hun,hop⟩:=h.new x1
 have h7:=λb (hb:X b)=>hDl b (hXD b hb)
 have hX0:∀b,X b->b<w.heap.size:=by obtain⟨_,_,_,_,_,_,_,_,_,_,_,_,q1,q2,_⟩:=h;exactλb hb=>q2 b (q1 b hb)
 refine(aAY op hl).mono ?_
 rintro r w2 ⟨rfl,op2,x2⟩
 have x2X:aL w1 w2 X:=x2.mono λb _ hb=>hb▸h1
 have x2D:aL w1 w2 D:=x2X.mono λb _ hb=>hXD b hb
 have x02:aL w w2 X:=(x1.mono λ_ _ h=>h.elim).seq x2X
 have z2:=x2.size
 have hms2:=hms.ext x2 (λh=>h4 h.symm)
 have hmn2:=hmn.ext x2 (λh=>h5 h.symm)
 have hfs2:=hfs.ext x2D (λb h=>h)
 have hfn2:=hfn.ext x2D (λb h=>h)
 have hun2:=hun.ext x2 (λb hb h=>hb.2.1 h)
 have hop2:=hop.ext x2D (λb h=>h)
 have h72:∀b,X b->b<w2.heap.size:=λb hb=>by have:=h7 b hb;omega
 have hD2:∀b,D b->b<w2.heap.size:=λb hb=>by have:=hDl b hb;omega
 have hdn:(S.down||S.left==0)=dnB S:=rfl
 rw[hdn]at*
 cases hD:dnB S with
 |true=>
  have hE:wR S o=({S with left:=BT S.left,down:=dnB S},20):=by unfold wR;rw[if_pos hD]
  rw[hE]
  simp(disch:=omega)only[seval]
  exact⟨X,D,⟨ms,mn,sv,ls,ln,cs,h1,h2,h3,h4,h5,h6,hXD,hD2,op2,hms2,hmn2,hfs2,hfn2,hun2,hop2⟩,λ_ h=> .inl h,λ_ h=>h,x02⟩
 |false=>
  have hE:wR S o=({S with left:=BT S.left,down:=dnB S,under:=S.under++[o],seen:=TL o S.seen},0):=by unfold wR;rw[if_neg (by rw[hD];decide)]
  rw[hE]
  have hb3:¬(w.heap.size=p):=λh=>by have:=hX0 p h1;omega
  have o12:=dB (o1.ext x2 hb3)
  have l1:=mY (off:=0) o12 (by unfold YI;simp)
  have l1':((YI o (.slice va o.bytes.length vc)).drop 0).take 5=YI o (.slice va o.bytes.length vc):=rfl
  rw[l1']at l1
  have op2d:=dB op2
  have q3:=op2d.cell (off:=3)
  simp only[aJz,aJF]at q3
  simp(disch:=omega)only[seval,q3,l1]
  refine QH (cells:=(YI o (.slice va o.bytes.length vc)).toArray) (by decide) (by decide) (by kernel_rfl) λw3 o3 x3 s3=> ?_
  have x3:aL w2 w3 aT:=(aL.dr _ _).seq x3
  have z3:=x3.size
  have s3:w3.heap.size=w2.heap.size+1:=s3
  have x03:aL w w3 X:=x02.trans x3 λ_ _ h=>h.elim
  have op3:=op2.ext x3 (λh=>h)
  have q3:=op3.cell (off:=3)
  have q3d:=(dB op3).cell (off:=3)
  simp only[aJz,aJF]at q3 q3d
  have hu3:Di w3 (λb=>(X b/\b≠p/\b≠ms/\b≠mn)∨w3.heap.size<=b) 5 sv S.under.length cs:=afL (hun2.ext x3 (λb _ h=>h)) λb h=> .inl h
  have o3:bD w3 w2.heap.size (YI o (.slice va o.bytes.length vc)):=o3
  simp(disch:=omega)only[seval,q3,q3d]
  refine yG (m:=1) (news:=YI o (.slice va o.bytes.length vc)) (i:=Tryz.t137) Tryz.underlying74 Tryz.underlying74 Zd rfl rfl rfl hu3 (o3.cl (off:=0) (n:=1) rfl (λi hi=>by rw[aJC])) (by unfold YI;simp[one]) (λb hb=> .inr hb) (by omega) (by rw[show Tryz.t137.bytes=72 from rfl];omega) (by decide) λv4 w4 o4 x4=> ?_
  have z4:=x4.size
  have hp3:p<w3.heap.size:=op3.lt
  have hms3:=hms2.ext x3 (λh=>h)
  have hmn3:=hmn2.ext x3 (λh=>h)
  have hmsl:=hms3.lt
  have hmnl:=hmn3.lt
  have op4:=op3.ext x4 (by rintro(⟨_,h,_⟩|h)<;>omega)
  have hms4:=hms3.ext x4 (by rintro(⟨_,_,h,_⟩|h)<;>omega)
  have hmn4:=hmn3.ext x4 (by rintro(⟨_,_,_,h⟩|h)<;>omega)
  obtain⟨Y,hY⟩:∃Y:Nat->Prop,Y=λb=>X b∨(w3.heap.size<=b/\b<w4.heap.size):=⟨_,rfl⟩
  have hYX:∀b,X b->Y b:=λb h=>by rw[hY];exact .inl h
  have hY3:∀b,Y b->X b∨w3.heap.size<=b:=λb h=>by rw[hY]at h;rcases h with h|h;exact .inl h;exact .inr h.1
  have hY4:∀b,Y b->b<w4.heap.size:=λb h=>by
   rw[hY]at h
   rcases h with h|h
   .have:=h72 b h;omega
   .exact h.2
  obtain⟨E,hE'⟩:∃E:Nat->Prop,E=λb=>D b∨(w3.heap.size<=b/\b<w4.heap.size):=⟨_,rfl⟩
  have hED:∀b,D b->E b:=λb h=>by rw[hE'];exact .inl h
  have hYE:∀b,Y b->E b:=λb h=>by
   rw[hY]at h;rw[hE']
   rcases h with h|h
   .exact .inl (hXD b h)
   .exact .inr h
  have hE3:∀b,E b->D b∨w3.heap.size<=b:=λb h=>by rw[hE']at h;rcases h with h|h;exact .inl h;exact .inr h.1
  have hE4:∀b,E b->b<w4.heap.size:=λb h=>by
   rw[hE']at h
   rcases h with h|h
   .have:=hD2 b h;omega
   .exact h.2
  have dat4:∀v b,Jw w3 D v b->Jw w4 E v b:=λv b hd=>by
   have h1:=(hd.sub (Y:=λb=>D b∨w3.heap.size<=b) λ_ h=>h).ext x4 (λb h=>by rcases h with h|h;exact .inl (hXD b h.1);exact .inr h)
   exact h1.sub λb h=> .inl (hE3 b h)
  have dat0:∀v b,Jw w2 D v b->Jw w4 E v b:=λv b hd=>dat4 v b (hd.ext x3 λ_ h=>h.elim)
  refine yE op4 (by obtain⟨a,c,e⟩:=o4.len;rw[e]<;>rfl) (by simp) λw5 op5 x5 s5=> ?_
  simp only[aJR,aKe]at op5
  have hne4:p≠ms/\p≠mn:=⟨h4,h5⟩
  have hms5:=hms4.ext x5 (λh=>h4 h.symm)
  have hmn5:=hmn4.ext x5 (λh=>h5 h.symm)
  have x5Y:aL w4 w5 E:=x5.mono λb _ h=>by rw[h];exact hYE _ (hYX _ h1)
  have dat5:∀v b,Jw w2 D v b->Jw w5 E v b:=λv b hd=>(dat0 v b hd).ext x5Y λ_ h=>h
  have o15:bD w5 w.heap.size (YI o (.slice va o.bytes.length vc)):=by
   have h1:=(o1.ext x2 hb3).ext x3 (λh=>h)
   have h2:=h1.ext x4 (by rintro(⟨h,_⟩|h);exact absurd (hX0 _ h) (by omega);omega)
   exact h2.ext x5 hb3
  have l5:=mY (off:=0) (dB o15) (by unfold YI;simp)
  rw[l1']at l5
  have r2:=(dB op5).cell (off:=2)
  simp only[aJz,aJF]at r2
  simp(disch:=omega)only[seval,r2,l5]
  have hd5:Jw w5 E (.slice va o.bytes.length vc) o.bytes:=dat5 _ _ ((hd.ext x1 λ_ h=>h.elim).ext x2D λ_ h=>h)
  have hE5:∀b,E b->b<w5.heap.size:=λb h=>by rw[s5];exact hE4 b h
  refine(aHO (X:=E) (c:=S.seen) (o:=o) (hmn5.dr) (hYE _ (hYX _ h3)) hE5 ((hfn2.map dat5).ext (aL.dr _ aT) λ_ h=>h.elim) (hd5.ext (aL.dr _ aT) λ_ h=>h.elim) hs ha hb).mono ?_
  rintro r w6 ⟨rfl,ln',hmn6,hfn6,x6⟩
  have x6:aL w5 w6 (λb=>b=mn):=(aL.dr _ _).seq x6
  have x6Y:aL w5 w6 E:=x6.mono λb _ h=>by rw[h];exact hYE _ (hYX _ h3)
  have z6:=x6.size
  have hou:Di w4 (λb=>Y b/\b≠p/\b≠ms/\b≠mn) 5 v4 (S.under.length+1) (cs++YI o (.slice va o.bytes.length vc)):=afL (aqC o4) λb h=>by
   rw[hY]
   rcases h with⟨h|h,h'⟩
   .exact ⟨.inl h.1,h.2⟩
   .exact ⟨.inr ⟨h,h'⟩,by omega,by omega,by omega⟩
  refine⟨Y,E,⟨ms,mn,v4,ls,ln',cs++YI o (.slice va o.bytes.length vc),hYX _ h1,hYX _ h2,hYX _ h3,h4,h5,h6,hYE,λb h=>by have:=hE5 b h;omega,op5.ext x6 (λh=>h5 h),hms5.ext x6 (λh=>h6 h),hmn6,(hfs2.map dat5).ext x6Y λ_ h=>h,hfn6, ?_, ?_⟩,λb h=> ?_,hED, ?_⟩
  .show Di w6 _ 5 v4 (S.under++[o]).length _
   rw[aJB]
   exact(hou.ext x5 (λb h e=>h.2.1 e)).ext x6 (λb h e=>h.2.2.2 e)
  .exact (OpR.snoc ⟨_,_,_,rfl⟩ hd5 (hop2.map dat5)).ext x6Y λ_ h=>h
  .rcases hY3 b h with h|h
   .exact .inl h
   .exact .inr (by omega)
  .refine ((x03.trans x4 λb hb h=> ?_).trans x5 λb hb h=>by rw[h];exact h1).trans x6 λb hb h=>by rw[h];exact h3
   rcases h with h|h
   .exact h.1
   .omega
end Go.Proofs.YteelnmpbnaohpaaGreatDoor
namespace Go.Proofs.YteelnmpbnaohpaaGreatDoor
open Go Go.En
def aI4:Go.Shelf.Ren:=⟨λx=>if x=5 then vL else if x=7 then aoV else x,λx=>if x=23 then 73 else if x=25 then 9 else if x=3 then 22 else if x=4 then 4 else 20,λx=>x⟩
theorem aI2:SlLaysW.n5 pg aI4 where
 mixed:=Tryz.checked.mixed
 f5:=⟨Tryz.f69.name,by kernel_rfl,by kernel_rfl⟩
 f7:=by kernel_rfl
 t4:=by kernel_rfl
 a4:=λw=>by kernel_rfl
 z4:=λw=>by kernel_rfl
 v4:=λw=>by kernel_rfl
 t20:=by kernel_rfl
 a20:=λw=>by kernel_rfl
 z20:=λw=>by kernel_rfl
 v20:=λw=>by kernel_rfl
 t23:=by kernel_rfl
 a23:=λw=>by kernel_rfl
 z23:=λw=>by kernel_rfl
 v23:=λw=>by kernel_rfl
theorem atV{m:Nat}{l:List (ByteArray×aLX)}{w:aLW}(hm:Mp w m Q6 l):
 aG pg vL #[.map (some m)] w (λr w'=>r= .map (some w.heap.size)/\Mp w' w.heap.size Q6 l/\aL w w' aT/\w'.heap.size=w.heap.size+1):=by
 obtain⟨es,c,hb,he,hg,hnd⟩:=hm
 refine⟨_,_,AnyW.maps_Clone aI2 m es c w hb,rfl,⟨es,c, ?_,he,hg,hnd⟩,aL.alloc _ _ _, ?_⟩
 .show (w.heap.push _)[w.heap.size]?=_
  simp
 .show (w.heap.push _).size=_
  simp
end Go.Proofs.YteelnmpbnaohpaaGreatDoor
namespace Go.Proofs.YteelnmpbnaohpaaGreatDoor
open Go Go.En Go.Pu
set_option maxRecDepth 4000
def WV(room:Int):cF:=⟨room,[],[],[],-1,false⟩
theorem aGG{room:Int}{w:aLW}(h0:0<=room)(h1:room<=16777216):aG pg DH #[.int .i64 room] w (λr w'=>∃p X,r= .tuple #[dP p,.int .i64 0]/\fQ w' p X X (WV room)/\(∀b,X b->w.heap.size<=b)/\aL w w' aT):=by
 refine alL ?_
 unfold asR aaG
 have d1:decide (room<0)=false:=by simp;omega
 have d2:decide (16777216<room)=false:=by simp;omega
 simp(disch:=omega)only[seval,d1,d2]
 refine Ut λw1 m1 x1 s1=> ?_
 refine Ut λw2 m2 x2 s2=> ?_
 simp(disch:=omega)only[seval]
 refine cA λw3 o3 x3 s3=> ?_
 have o3:bD w3 w2.heap.size [.int .i64 room,.map (some w.heap.size),.map (some w1.heap.size),.slice none 0 0,.int .i64 (-1),.bool false]:=o3
 refine⟨w2.heap.size,λb=>w.heap.size<=b/\b<w3.heap.size,rfl,⟨w.heap.size,w1.heap.size,.slice none 0 0,[],[],[],⟨by omega,by omega⟩,⟨by omega,by omega⟩,⟨by omega,by omega⟩,by omega,by omega,by omega,λ_ h=>h,λb h=>h.2,o3,(m1.ext x2 (λh=>h)).ext x3 (λh=>h),m2.ext x3 (λh=>h),trivial,trivial,⟨rfl,.inl ⟨rfl,rfl⟩⟩,rfl⟩,λb h=>h.1,(x1.seq x2).seq x3⟩
structure DBd(S:cF):Prop where
 left: -1<=S.left/\S.left<=9223372036854775807
 seen:bN S.seen<=1099511627776
 under:S.under.length<=1000000
 room:0<=S.room/\S.room<=16777216
theorem Jw.slice {w:aLW}{X:Nat->Prop}{v:aLX}{b:List UInt8}(h:Jw w X v b):∃a c,v= .slice a b.length c:=by
 obtain⟨a,c,e,_⟩:=h.1.len
 rw[aJy]at e
 exact⟨a,c,e⟩
theorem kW.dat {w w0:aLW}{X:Nat->Prop}{v:aLX}{l:List UInt8}(h:kW w w0.heap.size 1 v l.length (l.map gO))(hX:∀b,X b->b<w0.heap.size):Jw w X v l:=by
 refine⟨h.sl,λhi=> ?_⟩
 rcases h.2 with⟨rfl,_⟩|⟨b,c,rest,rfl,h2,_⟩
 .exact hi
 .unfold fI at hi
  split at hi
  .rename_i e
   simp only[Value.slice.injEq,aJ8]at e
   obtain⟨rfl,_⟩:=e
   have hi:X b:=hi
   have:=hX _ hi
   omega
  .exact hi
theorem fQ.lt {w:aLW}{p:Nat}{X D:Nat->Prop}{S:cF}(h:fQ w p X D S):∀b,D b->b<w.heap.size:=by
 obtain⟨_,_,_,_,_,_,_,_,_,_,_,_,_,h7,_⟩:=h;exact h7
def lR(S:cF)(name:ByteArray):List UInt8:=(bF name S.seen).getD []
def wrE(S:cF)(name:ByteArray)(a:Int)(n:Nat):Int:=
 if S.down then 20 else if zA name=false∨a<0 then 1 else if((lR S name).length:Int)<a then 17
 else if S.room<bN S.seen+max (a+n-(lR S name).length) 0 then 22 else 0
def yL(S:cF)(name:ByteArray)(a:Int)(l:List UInt8):cF×Int:=
 if wrE S name a l.length=0 then wR S ⟨0,name,⟨#[]⟩,a.toNat,l⟩else(S,wrE S name a l.length)
theorem Wq{p:Nat}{X D:Nat->Prop}{S:cF}{name:ByteArray}{a:Int}{bv:aLX}{l:List UInt8}{w:aLW}(h:fQ w p X D S)(hB:DBd S)(hb:Bs w bv l)(hl:l.length<=1000000000)(ha:a<=9000000000000000000)(ha': -9223372036854775808<=a):
 aG pg gA #[dP p,.string name,.int .i64 a,bv] w (λr w'=>r= .int .i64 (yL S name a l).2/\B3 w p X D (yL S name a l).1 w'):=by
 refine Q0 ?_
 unfold OM HZ
 obtain⟨ba,bc,rfl,_⟩:=hb.len
 rw[aJy]at hb
 rw[aJy]
 obtain⟨E,hE⟩:∃E,wrE S name a l.length=E:=⟨_,rfl⟩
 have hW:∀e,E=e->e≠0->yL S name a l=(S,e):=λe h1 h2=>by unfold yL;rw[hE,h1,if_neg h2]
 refine(aEp h).mono ?_
 rintro r w1 ⟨rfl,rfl⟩
 have hE0:=hE
 unfold wrE at hE
 by_cases hd:S.down=true
 .rw [if_pos hd]at hE
  rw[hW 20 hE.symm (by decide),if_pos hd]
  have n1:((20:Int) !=0)=true:=rfl
  simp(disch:=omega)only[seval,n1]
  exact B3.refl h
 rw[if_neg hd]at hE
 rw[if_neg hd]
 have n1:((0:Int) !=0)=false:=rfl
 have h':=h
 obtain⟨ms,mn,sv,ls,ln,cs,h1,h2,h3,h4,h5,h6,hXD,hDl,op,hms,hmn,hfs,hfn,hun,hop⟩:=h'
 have h7:∀b,X b->b<w1.heap.size:=λb hb=>hDl b (hXD b hb)
 have c2:=op.cell (off:=2)
 have c0d:=(dB op).cell (off:=0)
 have c2d:=(dB op).cell (off:=2)
 simp only[aJz,aJF]at c2 c0d c2d
 obtain⟨oa,oc,ob,l0,hob⟩:∃(oa:Option Addr) (oc:Nat) (ob:List UInt8),(CT 73 (.map (some mn)) (.string name) false).run pg w1= .ok (.value (.slice oa ob.length oc)) w1/\lR S name=ob:=by
  have l0:=ahN hmn name
  unfold lR
  rcases hfn.get name with⟨q1,q2⟩|⟨v,b,q1,q2,q3⟩
  .rw [q1]at l0
   exact⟨none,0,[],l0,by rw[q2]<;>rfl⟩
  .obtain ⟨a',c',rfl⟩:=Jw.slice q3
   rw[q1]at l0
   exact⟨a',c',b,l0,by rw[q2]<;>rfl⟩
 rw[hob]at hE
 have holdlen:ob.length<=1099511627776:=by rw[<-hob];have:=qV (k:=name) (c:=S.seen);have:=hB.seen;unfold lR;omega
 simp(disch:=omega)only[seval,n1,c2,l0]
 refine(aDt name _).mono ?_
 rintro r w2 ⟨rfl,hw⟩
 rw[hw];clear hw w2
 by_cases hmay:zA name=false
 .rw [if_pos (.inl hmay)]at hE
  rw[hW 1 hE.symm (by decide),hmay]
  simp(disch:=omega)only[seval]
  exact B3.refl h
 have hmay:zA name=true:=by cases hq:zA name with|true=>rfl|false=>exact absurd hq hmay
 rw[hmay]at hE⊢
 by_cases ha0:a<0
 .have d1:decide (a<0)=true:=by simpa using ha0
  rw[if_pos (.inr ha0)]at hE
  rw[hW 1 hE.symm (by decide)]
  simp(disch:=omega)only[seval,d1]
  exact B3.refl h
 have d1:decide (a<0)=false:=by simpa using ha0
 rw[if_neg (by rintro(h|h);cases h;exact ha0 h)]at hE
 by_cases ha1:(ob.length:Int)<a
 .have d2:decide ((ob.length:Int)<a)=true:=by simpa using ha1
  rw[if_pos ha1]at hE
  rw[hW 17 hE.symm (by decide)]
  simp(disch:=omega)only[seval,d1,d2]
  exact B3.refl h
 have d2:decide ((ob.length:Int)<a)=false:=by simpa using ha1
 rw[if_neg ha1]at hE
 have hbs:=hB.seen
 have hbr:=hB.room
 obtain⟨k,rfl⟩:∃k:Nat,a=k:=⟨a.toNat,by omega⟩
 simp(disch:=omega)only[seval,d1,d2,c2d]
 refine(aHc (c:=S.seen) hmn.dr (hfn.ext (aL.dr _ aT) λ_ h=>h.elim) hbs).mono ?_
 rintro r w2 ⟨rfl,x2⟩
 have x2:aL w1 w2 aT:=(aL.dr _ _).seq x2
 have op2:=op.ext x2 (λh=>h)
 have r0:=op2.cell (off:=0)
 have r0d:=(dB op2).cell (off:=0)
 simp only[aJz,aJF]at r0 r0d
 have e1:(k:Int)+(l.length:Int)=((k+l.length:Nat):Int):=by omega
 obtain⟨q,hq⟩:∃q:Nat,max (((k+l.length:Nat):Int)-(ob.length:Int)) 0=q:=⟨(max (((k+l.length:Nat):Int)-(ob.length:Int)) 0).toNat,by omega⟩
 have hmax:(if(0:Int)>((k+l.length:Nat):Int)-(ob.length:Int)then(0:Int)else((k+l.length:Nat):Int)-(ob.length:Int))=(q:Nat):=by
  split<;>omega
 have e2:((bN S.seen:Nat):Int)+(q:Int)=((bN S.seen+q:Nat):Int):=by omega
 rw[e1,hq,e2]at hE
 by_cases hsp:S.room<((bN S.seen+q:Nat):Int)
 .have d3:decide (S.room<((bN S.seen+q:Nat):Int))=true:=by simpa using hsp
  rw[if_pos hsp]at hE
  rw[hW 22 hE.symm (by decide)]
  simp(disch:=omega)only[seval,d1,d2,r0,r0d,c0d,e1,hmax,e2,d3]
  exact⟨X,D,h.new x2,λ_ h=> .inl h,λ_ h=>h,x2.mono λ_ _ h=>h.elim⟩
 have d3:decide (S.room<((bN S.seen+q:Nat):Int))=false:=by simpa using hsp
 rw[if_neg hsp]at hE
 have hW0:yL S name k l=wR S ⟨0,name,⟨#[]⟩,k,l⟩:=by unfold yL;rw[hE0,<-hE,if_pos rfl,aJE]
 rw[hW0]
 simp(disch:=omega)only[seval,d1,d2,r0,r0d,c0d,e1,hmax,e2,d3]
 refine(afC (hb.ext x2 (bC _)) hl).mono ?_
 rintro r w3 ⟨ho,x3⟩
 obtain⟨va,vc,rfl⟩:=ho.len
 have h2':=h.new x2
 have hd3:Jw w3 D (.slice va l.length vc) l:=kW.dat ho λb hb=>fQ.lt h2' b hb
 have opE:YI ⟨0,name,⟨#[]⟩,k,l⟩ (.slice va l.length vc)=[.int .i64 0,.string name,.string ⟨#[]⟩,.int .i64 k,.slice va l.length vc]:=rfl
 have hdn:=axQ (o:=⟨0,name,⟨#[]⟩,k,l⟩) (h2'.new x3) hd3 hB.left hbs (show k<=1099511627776 by omega) (show l.length<=1099511627776 by omega) hB.under
 rw[opE]at hdn
 simp(disch:=omega)only[seval]
 refine hdn.mono ?_
 rintro r w4 ⟨rfl,hp⟩
 exact⟨rfl,B3.step ((x2.seq x3).mono λ_ _ h=>h.elim) (λ_ h=> .inl h) (λ_ h=>h) hp⟩
theorem afF{p:Nat}{X D:Nat->Prop}{S:cF}{name:ByteArray}{w:aLW}(h:fQ w p X D S)(hB:DBd S)(hsz:∀b,bF name S.seen=some b->b.length<=1000000000):
 aG pg gR #[dP p,.string name] w (λr w'=>((S.down=true/\r= .tuple #[.slice none 0 0,.int .i64 20])∨(S.down=false/\bF name S.seen=none/\r= .tuple #[.slice none 0 0,.int .i64 21])∨
  (S.down=false/\∃b v,bF name S.seen=some b/\r= .tuple #[v,.int .i64 0]/\kW w' w.heap.size 1 v b.length (b.map gO)))/\aL w w' aT):=by
 refine TH ?_
 obtain⟨RR,hRR⟩:∃RR:aLX->aLW->Prop,RR=λr w'=>((S.down=true/\r= .tuple #[.slice none 0 0,.int .i64 20])∨(S.down=false/\bF name S.seen=none/\r= .tuple #[.slice none 0 0,.int .i64 21])∨
  (S.down=false/\∃b v,bF name S.seen=some b/\r= .tuple #[v,.int .i64 0]/\kW w' w.heap.size 1 v b.length (b.map gO)))/\aL w w' aT:=⟨_,rfl⟩
 rw[<-hRR]
 unfold QX JV
 refine(aEp h).mono ?_
 rintro r w1 ⟨rfl,rfl⟩
 by_cases hd:S.down=true
 .rw [if_pos hd]
  have n1:((20:Int) !=0)=true:=rfl
  simp(disch:=omega)only[seval,n1]
  rw[hRR]
  exact⟨.inl ⟨hd,rfl⟩,aL.refl _ _⟩
 have hd':S.down=false:=by cases hq:S.down with|true=>exact absurd hq hd|false=>rfl
 rw[if_neg hd]
 have n1:((0:Int) !=0)=false:=rfl
 obtain⟨ms,mn,sv,ls,ln,cs,h1,h2,h3,h4,h5,h6,hXD,hDl,op,hms,hmn,hfs,hfn,hun,hop⟩:=h
 have h7:=λb (hb:X b)=>hDl b (hXD b hb)
 have c2:=op.cell (off:=2)
 simp only[aJz,aJF]at c2
 have l0:=EM hmn name
 rcases hfn.get name with⟨q1,q2⟩|⟨v,b,q1,q2,q3⟩
 .rw [q1]at l0
  have l0:(CT 73 (.map (some mn)) (.string name) true).run pg w1= .ok (.value (.tuple #[.slice none 0 0,.bool false])) w1:=l0
  simp(disch:=omega)only[seval,n1,c2,l0]
  rw[hRR]
  exact⟨.inr (.inl ⟨hd',q2,rfl⟩),aL.refl _ _⟩
 .obtain ⟨a',c',rfl⟩:=Jw.slice q3
  rw[q1]at l0
  have l0:(CT 73 (.map (some mn)) (.string name) true).run pg w1= .ok (.value (.tuple #[.slice a' b.length c',.bool true])) w1:=l0
  simp(disch:=omega)only[seval,n1,c2,l0]
  refine(afC q3.1 (hsz b q2)).mono ?_
  rintro r w2 ⟨ho,x2⟩
  rw[hRR]
  exact⟨.inr (.inr ⟨hd',b,r,q2,rfl,ho⟩),x2⟩
theorem aBM{p:Nat}{X D:Nat->Prop}{S:cF}{w:aLW}(h:fQ w p X D S):aG pg pY #[dP p] w (λr w'=>r= .int .i64 (S.under.length:Nat)/\w'=w):=by
 refine Nl ?_
 unfold JU Fj
 obtain⟨ms,mn,sv,ls,ln,cs,h1,h2,h3,h4,h5,h6,hXD,hDl,op,hms,hmn,hfs,hfn,hun,hop⟩:=h
 have h7:=λb (hb:X b)=>hDl b (hXD b hb)
 have c3:=op.cell (off:=3)
 simp only[aJz,aJF]at c3
 obtain⟨ua,uc,rfl⟩:=hun.len
 simp(disch:=omega)only[seval,c3]
def Yd(S:cF)(name:ByteArray):cF×Int:=if S.down then(S,20)else if(bF name S.seen).isNone then(S,21)else wR S ⟨2,name,⟨#[]⟩,0,[]⟩
theorem aBn{p:Nat}{X D:Nat->Prop}{S:cF}{name:ByteArray}{w:aLW}(h:fQ w p X D S)(hB:DBd S):
 aG pg sE #[dP p,.string name] w (λr w'=>r= .int .i64 (Yd S name).2/\B3 w p X D (Yd S name).1 w'):=by
 refine PL ?_
 unfold L2 GB Yd
 refine(aEp h).mono ?_
 rintro r w1 ⟨rfl,rfl⟩
 by_cases hd:S.down=true
 .rw [if_pos hd,if_pos hd]
  have n1:((20:Int) !=0)=true:=rfl
  simp(disch:=omega)only[seval,n1]
  exact B3.refl h
 rw[if_neg hd,if_neg hd]
 have n1:((0:Int) !=0)=false:=rfl
 have h':=h
 obtain⟨ms,mn,sv,ls,ln,cs,h1,h2,h3,h4,h5,h6,hXD,hDl,op,hms,hmn,hfs,hfn,hun,hop⟩:=h'
 have h7:∀b,X b->b<w1.heap.size:=λb hb=>hDl b (hXD b hb)
 have c2:=op.cell (off:=2)
 simp only[aJz,aJF]at c2
 have l0:=EM hmn name
 rcases hfn.get name with⟨q1,q2⟩|⟨v,b,q1,q2,q3⟩
 .rw [q1]at l0
  have l0:(CT 73 (.map (some mn)) (.string name) true).run pg w1= .ok (.value (.tuple #[.slice none 0 0,.bool false])) w1:=l0
  rw[q2,if_pos (show(none:Option (List UInt8)).isNone=true from rfl)]
  simp(disch:=omega)only[seval,n1,c2,l0]
  exact B3.refl h
 .obtain ⟨a',c',rfl⟩:=Jw.slice q3
  rw[q1]at l0
  have l0:(CT 73 (.map (some mn)) (.string name) true).run pg w1= .ok (.value (.tuple #[.slice a' b.length c',.bool true])) w1:=l0
  rw[q2,if_neg (show¬(some b).isNone=true by simp)]
  have hdn:=axQ (o:=⟨2,name,⟨#[]⟩,0,[]⟩) (va:=none) (vc:=0) h ⟨Sl.nil _,λh=>h⟩ hB.left hB.seen (show 0<=_ by omega) (show 0<=_ by omega) hB.under
  have opE:YI ⟨2,name,⟨#[]⟩,0,[]⟩ (.slice none ([]:List UInt8).length 0)=[.int .i64 2,.string name,.string ⟨#[]⟩,.int .i64 0,.slice none 0 0]:=rfl
  rw[opE]at hdn
  simp(disch:=omega)only[seval,n1,c2,l0]
  exact hdn
def JG(S:cF)(old name:ByteArray):cF×Int:=if S.down then(S,20)else if zA old=false∨zA name=false then(S,1)else if(bF old S.seen).isNone then(S,21)else wR S ⟨1,old,name,0,[]⟩
theorem aBo{p:Nat}{X D:Nat->Prop}{S:cF}{old name:ByteArray}{w:aLW}(h:fQ w p X D S)(hB:DBd S):
 aG pg sG #[dP p,.string old,.string name] w (λr w'=>r= .int .i64 (JG S old name).2/\B3 w p X D (JG S old name).1 w'):=by
 refine PN ?_
 unfold L3 GC JG
 refine(aEp h).mono ?_
 rintro r w1 ⟨rfl,rfl⟩
 by_cases hd:S.down=true
 .rw [if_pos hd,if_pos hd]
  have n1:((20:Int) !=0)=true:=rfl
  simp(disch:=omega)only[seval,n1]
  exact B3.refl h
 rw[if_neg hd,if_neg hd]
 have n1:((0:Int) !=0)=false:=rfl
 have h':=h
 obtain⟨ms,mn,sv,ls,ln,cs,h1,h2,h3,h4,h5,h6,hXD,hDl,op,hms,hmn,hfs,hfn,hun,hop⟩:=h'
 have h7:∀b,X b->b<w1.heap.size:=λb hb=>hDl b (hXD b hb)
 have c2:=op.cell (off:=2)
 simp only[aJz,aJF]at c2
 simp(disch:=omega)only[seval,n1]
 refine(aDt old _).mono ?_
 rintro r w2 ⟨rfl,hw⟩
 rw[hw];clear hw w2
 cases hm1:zA old with
 |false=>
  rw[if_pos (.inl rfl)]
  simp(disch:=omega)only[seval]
  exact B3.refl h
 |true=>
  simp(disch:=omega)only[seval]
  refine(aDt name _).mono ?_
  rintro r w2 ⟨rfl,hw⟩
  rw[hw];clear hw w2
  cases hm2:zA name with
  |false=>
   rw[if_pos (.inr rfl)]
   simp(disch:=omega)only[seval]
   exact B3.refl h
  |true=>
   rw[if_neg (by simp)]
   have l0:=EM hmn old
   rcases hfn.get old with⟨q1,q2⟩|⟨v,b,q1,q2,q3⟩
   .rw [q1]at l0
    have l0:(CT 73 (.map (some mn)) (.string old) true).run pg w1= .ok (.value (.tuple #[.slice none 0 0,.bool false])) w1:=l0
    rw[q2,if_pos (show(none:Option (List UInt8)).isNone=true from rfl)]
    simp(disch:=omega)only[seval,n1,c2,l0]
    exact B3.refl h
   .obtain ⟨a',c',rfl⟩:=Jw.slice q3
    rw[q1]at l0
    have l0:(CT 73 (.map (some mn)) (.string old) true).run pg w1= .ok (.value (.tuple #[.slice a' b.length c',.bool true])) w1:=l0
    rw[q2,if_neg (show¬(some b).isNone=true by simp)]
    have hdn:=axQ (o:=⟨1,old,name,0,[]⟩) (va:=none) (vc:=0) h ⟨Sl.nil _,λh=>h⟩ hB.left hB.seen (show 0<=_ by omega) (show 0<=_ by omega) hB.under
    have opE:YI ⟨1,old,name,0,[]⟩ (.slice none ([]:List UInt8).length 0)=[.int .i64 1,.string old,.string name,.int .i64 0,.slice none 0 0]:=rfl
    rw[opE]at hdn
    simp(disch:=omega)only[seval,n1,c2,l0]
    exact hdn
theorem aHh{p:Nat}{X D:Nat->Prop}{S:cF}{a:Int}{w:aLW}(h:fQ w p X D S):aG pg yN #[dP p,.int .i64 a] w (λr w'=>r= .tuple #[]/\B3 w p X D {S with left:=max a (-1)} w'):=by
 refine TI ?_
 unfold QY JW
 obtain⟨ms,mn,sv,ls,ln,cs,h1,h2,h3,h4,h5,h6,hXD,hDl,op,hms,hmn,hfs,hfn,hun,hop⟩:=h
 have h7:=λb (hb:X b)=>hDl b (hXD b hb)
 have e1:(if(-1:Int)>a then(-1:Int)else a)=max a (-1):=by split<;>omega
 simp(disch:=omega)only[seval,e1]
 refine Db op rfl (by simp) λw1 o1 x1 s1=> ?_
 simp only[aJR,aKe]at o1
 have xX:aL w w1 X:=x1.mono λb _ h=>h▸h1
 have xD:aL w w1 D:=xX.mono λb _ h=>hXD b h
 exact⟨X,D,⟨ms,mn,sv,ls,ln,cs,h1,h2,h3,h4,h5,h6,hXD,λb hb=>by have:=hDl b hb;omega,o1,hms.ext x1 (λh=>h4 h.symm),hmn.ext x1 (λh=>h5 h.symm),hfs.ext xD λ_ h=>h,hfn.ext xD λ_ h=>h,hun.ext x1 (λb hb h=>hb.2.1 h),hop.ext xD λ_ h=>h⟩,λ_ h=> .inl h,λ_ h=>h,xX⟩
def Ad(S:cF):cF×Int:=
 if S.down then(S,20)else if dnB S then({S with left:=BT S.left,down:=dnB S},20)
 else({S with left:=BT S.left,down:=dnB S,sure:=S.seen,under:=[]},0)
theorem aHj{p:Nat}{X D:Nat->Prop}{S:cF}{w:aLW}(h:fQ w p X D S)(hB:DBd S):
 aG pg dQ #[dP p] w (λr w'=>r= .int .i64 (Ad S).2/\B3 w p X D (Ad S).1 w'):=by
 refine TJ ?_
 unfold QZ JX Ad
 refine(aEp h).mono ?_
 rintro r w1 ⟨rfl,rfl⟩
 by_cases hd:S.down=true
 .rw [if_pos hd,if_pos hd]
  have n1:((20:Int) !=0)=true:=rfl
  simp(disch:=omega)only[seval,n1]
  exact B3.refl h
 rw[if_neg hd,if_neg hd]
 have n1:((0:Int) !=0)=false:=rfl
 obtain⟨ms,mn,sv,ls,ln,cs,h1,h2,h3,h4,h5,h6,hXD,hDl,op,hms,hmn,hfs,hfn,hun,hop⟩:=h
 have h7:=λb (hb:X b)=>hDl b (hXD b hb)
 simp(disch:=omega)only[seval,n1]
 refine(aAY op hB.left).mono ?_
 rintro r w2 ⟨rfl,op2,x2⟩
 have hdn:(S.down||S.left==0)=dnB S:=rfl
 rw[hdn]at op2⊢
 have xX:aL w1 w2 X:=x2.mono λb _ h=>h▸h1
 have xD:aL w1 w2 D:=xX.mono λb _ h=>hXD b h
 have z2:=x2.size
 have h72:∀b,X b->b<w2.heap.size:=λb hb=>by have:=h7 b hb;omega
 have hD2:∀b,D b->b<w2.heap.size:=λb hb=>by have:=hDl b hb;omega
 have hms2:=hms.ext x2 (λh=>h4 h.symm)
 have hmn2:=hmn.ext x2 (λh=>h5 h.symm)
 have hfs2:=hfs.ext xD λ_ h=>h
 have hfn2:=hfn.ext xD λ_ h=>h
 cases hD:dnB S with
 |true=>
  rw[hD]at op2
  rw[if_pos rfl]
  simp(disch:=omega)only[seval]
  exact⟨X,D,⟨ms,mn,sv,ls,ln,cs,h1,h2,h3,h4,h5,h6,hXD,hD2,op2,hms2,hmn2,hfs2,hfn2,hun.ext x2 (λb hb h=>hb.2.1 h),hop.ext xD λ_ h=>h⟩,λ_ h=> .inl h,λ_ h=>h,xX⟩
 |false=>
  rw[hD]at op2
  rw[if_neg (by decide)]
  have c2:=op2.cell (off:=2)
  simp only[aJz,aJF]at c2
  simp(disch:=omega)only[seval,c2]
  refine(atV hmn2).mono ?_
  rintro r w3 ⟨rfl,hmc,x3,s3⟩
  have op3:=op2.ext x3 (λh=>h)
  refine UZ op3 rfl (by simp) λw4 op4 x4 s4=> ?_
  simp only[aJR,aKe]at op4
  refine yE op4 rfl (by simp) λw5 op5 x5 s5=> ?_
  simp only[aJR,aKe]at op5
  have hp2:p<w2.heap.size:=op2.lt
  have hmn2l:=hmn2.lt
  have x45:aL w3 w5 (λy=>y=p):=x4.seq x5
  obtain⟨Y,hY⟩:∃Y:Nat->Prop,Y=λb=>X b∨b=w2.heap.size:=⟨_,rfl⟩
  have hYX:∀b,X b->Y b:=λb h=>by rw[hY];exact .inl h
  have hY2:∀b,Y b->X b∨w2.heap.size<=b:=λb h=>by rw[hY]at h;rcases h with h|h;exact .inl h;exact .inr (by omega)
  obtain⟨E,hE⟩:∃E:Nat->Prop,E=λb=>D b∨b=w2.heap.size:=⟨_,rfl⟩
  have hED:∀b,D b->E b:=λb h=>by rw[hE];exact .inl h
  have hYE:∀b,Y b->E b:=λb h=>by rw[hY]at h;rw[hE];rcases h with h|h;exact .inl (hXD b h);exact .inr h
  have hE2:∀b,E b->D b∨w2.heap.size<=b:=λb h=>by rw[hE]at h;rcases h with h|h;exact .inl h;exact .inr (by omega)
  have x3Y:aL w2 w3 E:=x3.mono λ_ _ h=>h.elim
  have x45Y:aL w3 w5 E:=x45.mono λb _ h=>by rw[h];exact hED _ (hXD _ h1)
  have dat:∀v b,Jw w2 D v b->Jw w5 E v b:=λv b hd=>((hd.sub hE2).ext x3Y λ_ h=>h).ext x45Y λ_ h=>h
  refine⟨Y,E,⟨w2.heap.size,mn,.slice none 0 0,ln,ln,[],hYX _ h1,by rw[hY];exact .inr rfl,hYX _ h3,by omega,h5,by omega,hYE,λb h=> ?_,op5,hmc.ext x45 (by omega),(hmn2.ext x3 (λh=>h)).ext x45 (λh=>h5 h.symm),hfn2.map dat,hfn2.map dat,⟨rfl,.inl ⟨rfl,rfl⟩⟩,rfl⟩,λb h=> ?_,hED,(xX.trans x3 λ_ _ h=>h.elim).trans x45 λb _ h=>by rw[h];exact h1⟩
  .rw [hE]at h
   rcases h with h|h
   .have:=hD2 b h;omega
   .omega
  .rcases hY2 b h with h|h
   .exact .inl h
   .exact .inr (by omega)
def crN(os:List LH)(ks:List Bool)(c:cI):Nat->cI
 |0=>c
 |i+1=>match os[i]?,ks[i]? with
  |some o,some true=>TL o (crN os ks c i)
  |_,_=>crN os ks c i
def crS(S:cF)(ks:List Bool):cF:={S with sure:=crN S.under ks S.sure S.under.length,seen:=crN S.under ks S.sure S.under.length,under:=[],left:= -1,down:=false}
theorem aEY{p:Nat}{X D:Nat->Prop}{S:cF}{kv:aLX}{ks:List Bool}{w:aLW}(h:fQ w p X D S)(hk:Sl w kv (ks.map Value.bool))(hkX:¬fI kv X)(hkl:ks.length<=9223372036854775807)(hu:S.under.length<=1000000)
 (hs:∀i,i<=S.under.length->bN (crN S.under ks S.sure i)<=1099511627776) (hop':∀o∈S.under,o.at'<=1099511627776/\o.bytes.length<=1099511627776):
 aG pg vI #[dP p,kv] w (λr w'=>r= .tuple #[]/\B3 w p X D (crS S ks) w'):=by
 refine QV ?_
 unfold OK GA Gz
 simp(disch:=omega)only[seval]
 obtain⟨ms,mn,sv,ls,ln,cs,h1,h2,h3,h4,h5,h6,hXD,hDl,op,hms,hmn,hfs,hfn,hun,hop⟩:=h
 have h7:=λb (hb:X b)=>hDl b (hXD b hb)
 have hp:p<w.heap.size:=op.lt
 have hmsl:=hms.lt
 have hmnl:=hmn.lt
 have c3:=op.cell (off:=3)
 simp only[aJz,aJF]at c3
 obtain⟨ua,uc,rfl⟩:=hun.len
 obtain⟨ka,kc,rfl,_⟩:=hk.len
 rw[aJy]at hk hkX⊢
 unfold Bd Bc HX
 simp(disch:=omega)only[seval,c3]
 unfold sQ
 have hol:=hop.len
 refine bM.rule (λm (t:aLX) w'=>∃(i:Nat) (ls':List (ByteArray×aLX)),m=S.under.length-i/\t= .int .i64 i/\i<=S.under.length/\Mp w' ms Q6 ls'/\Fc w' D ls' (crN S.under ks S.sure i)/\aL w w' (λb=>b=ms)) S.under.length
  ⟨0,ls,rfl,rfl,by omega,hms,hfs,aL.refl _ _⟩ ?_
 rintro m t w1 ⟨i,ls',rfl,rfl,hi,hms1,hf1,x1⟩
 have z1:=x1.size
 have x1X:aL w w1 X:=x1.mono λb _ h=>h▸h2
 have x1D:aL w w1 D:=x1X.mono λb _ h=>hXD b h
 have op1:=op.ext x1 (λh=>h4 h)
 unfold Bb HW
 by_cases hlt:i<S.under.length
 .have d1:decide ((i:Int)<(S.under.length:Int))=true:=by simp;omega
  obtain⟨v,⟨va,vn,vc,rfl⟩,hcs,hdat⟩:=hop.at hlt
  obtain⟨a',c',e'⟩:=Jw.slice hdat
  simp only[Value.slice.injEq]at e'
  obtain⟨-,rfl,-⟩:=e'
  rcases hun.2 with⟨hnil,h0⟩|⟨b,c,rest,hsv,hbX,ob,hbl,hbc⟩
  .omega
  simp only[Value.slice.injEq]at hsv
  obtain⟨rfl,-,rfl⟩:=hsv
  have ob1:=ob.ext x1 (λh=>hbX.2.2.1 h)
  have l1:=mY (off:=i*5) ob1 (by rw[aJB];omega)
  have htk:((cs++rest).drop (i*5)).take 5=YI S.under[i] (.slice va S.under[i].bytes.length vc):=by
   rw[aKk (by omega),aKd (by rw[aJO];omega)];exact hcs
  rw[htk]at l1
  have hmem:=hop' _ (aKl hlt)
  have hcr:crN S.under ks S.sure (i+1)=match ks[i]? with|some true=>TL S.under[i] (crN S.under ks S.sure i)|_=>crN S.under ks S.sure i:=by
   rw[crN,aJA hlt]
   cases ks[i]? with
   |none=>rfl
   |some q=>cases q<;>rfl
  have hsi:=hs i hi
  generalize S.under[i]=o at*
  simp(disch:=omega)only[seval,d1,l1]
  refine V6 λw2 o2 x2 s2=> ?_
  refine VT o2 rfl (by unfold YI;simp[one]) (by simp) λw3 o3 x3 s3=> ?_
  have o3:bD w3 w1.heap.size (YI o (.slice va o.bytes.length vc)):=o3
  have x13:aL w1 w3 aT:=x2.new x3 (aJK _)
  have x03:=x1.trans x13 λ_ _ h=>h.elim
  have hms3:=hms1.ext x13 (λh=>h)
  have hf3:=hf1.ext x13 λ_ h=>h.elim
  have hd3:Jw w3 D (.slice va o.bytes.length vc) o.bytes:=(hdat.ext x1D λ_ h=>h).ext x13 λ_ h=>h.elim
  have op3:=op1.ext x13 (λh=>h)
  have q1d:=(dB op3).cell (off:=1)
  have q1:=op3.cell (off:=1)
  simp only[aJz,aJF]at q1 q1d
  have l3:=mY (off:=0) o3 (by unfold YI;simp)
  have l3d:=mY (off:=0) (dB o3) (by unfold YI;simp)
  have l3':((YI o (.slice va o.bytes.length vc)).drop 0).take 5=YI o (.slice va o.bytes.length vc):=rfl
  rw[l3']at l3 l3d
  have z3:=x13.size
  unfold Ba
  have skip:crN S.under ks S.sure (i+1)=crN S.under ks S.sure i->∃m,m<S.under.length-i/\∃(i':Nat) (ls':List (ByteArray×aLX)),m=S.under.length-i'/\Value.int .i64 ((i+1:Nat):Int)= .int .i64 i'/\i'<=S.under.length/\Mp w3 ms Q6 ls'/\Fc w3 D ls' (crN S.under ks S.sure i')/\aL w w3 (λb=>b=ms):=λe=>
   ⟨S.under.length-(i+1),by omega,i+1,ls',rfl,rfl,by omega,hms3,by rw[e];exact hf3,x03⟩
  have ei:(i:Int)+1=((i+1:Nat):Int):=by omega
  by_cases hki:i<ks.length
  .have d2:decide ((i:Int)<(ks.length:Int))=true:=by simp;omega
   obtain⟨kb,koff,rfl,hcell⟩:=aI5 (hk.ext x03 (λh=>hkX (bO h λb hb=>by rw[hb];exact h2))) (by omega)
   have g1:=hcell i hki
   rw[aJ0,aJA hki]at g1
   simp only[aKo]at g1
   rw[aJA hki]at hcr
   generalize ks[i]=kq at*
   cases kq with
   |false=>
    simp(disch:=omega)only[seval,d2,g1,ei]
    exact skip hcr
   |true=>
    simp(disch:=omega)only[seval,d2,g1,q1,q1d,l3,l3d]
    refine(aHO (X:=D) (c:=crN S.under ks S.sure i) (o:=o) hms3.dr (hXD _ h2) (λb hb=>by have:=hDl b hb;show b<w3.heap.size;omega) (hf3.ext (aL.dr _ aT) λ_ h=>h.elim) (hd3.ext (aL.dr _ aT) λ_ h=>h.elim) hsi hmem.1 hmem.2).mono ?_
    rintro r w4 ⟨rfl,ls4,hms4,hf4,x4⟩
    have x4:aL w3 w4 (λb=>b=ms):=(aL.dr _ _).seq x4
    simp(disch:=omega)only[seval,ei]
    exact⟨S.under.length-(i+1),by omega,i+1,ls4,rfl,rfl,by omega,hms4,by rw[hcr];exact hf4,x03.seq x4⟩
  .have d2:decide ((i:Int)<(ks.length:Int))=false:=by simp;omega
   rw[aKp (by omega)]at hcr
   simp(disch:=omega)only[seval,d2,ei]
   exact skip hcr
 .have d1:decide ((i:Int)<(S.under.length:Int))=false:=by simp;omega
  obtain rfl:i=S.under.length:=by omega
  have c1:=op1.cell (off:=1)
  simp only[aJz,aJF]at c1
  unfold A9
  simp(disch:=omega)only[seval,d1,c1]
  refine(atV hms1).mono ?_
  rintro r w3 ⟨rfl,hmc,x3,s3⟩
  have op3:=op1.ext x3 (λh=>h)
  refine UZ op3 rfl (by simp) λw4 op4 x4 s4=> ?_
  simp only[aJR,aKe]at op4
  refine yE op4 rfl (by simp) λw5 op5 x5 s5=> ?_
  simp only[aJR,aKe]at op5
  refine Db op5 rfl (by simp) λw6 op6 x6 s6=> ?_
  simp only[aJR,aKe]at op6
  refine tP op6 rfl (by simp) λw7 op7 x7 s7=> ?_
  simp only[aJR,aKe]at op7
  have x37:aL w3 w7 (λy=>y=p):=((x4.seq x5).seq x6).seq x7
  obtain⟨Y,hY⟩:∃Y:Nat->Prop,Y=λb=>X b∨b=w1.heap.size:=⟨_,rfl⟩
  have hYX:∀b,X b->Y b:=λb h=>by rw[hY];exact .inl h
  have hY2:∀b,Y b->X b∨w1.heap.size<=b:=λb h=>by rw[hY]at h;rcases h with h|h;exact .inl h;exact .inr (by omega)
  obtain⟨E,hE⟩:∃E:Nat->Prop,E=λb=>D b∨b=w1.heap.size:=⟨_,rfl⟩
  have hED:∀b,D b->E b:=λb h=>by rw[hE];exact .inl h
  have hYE:∀b,Y b->E b:=λb h=>by rw[hY]at h;rw[hE];rcases h with h|h;exact .inl (hXD b h);exact .inr h
  have hE2:∀b,E b->D b∨w1.heap.size<=b:=λb h=>by rw[hE]at h;rcases h with h|h;exact .inl h;exact .inr (by omega)
  have x3Y:aL w1 w3 E:=x3.mono λ_ _ h=>h.elim
  have x37Y:aL w3 w7 E:=x37.mono λb _ h=>by rw[h];exact hED _ (hXD _ h1)
  have dat:∀v b,Jw w1 D v b->Jw w7 E v b:=λv b hd=>((hd.sub hE2).ext x3Y λ_ h=>h).ext x37Y λ_ h=>h
  refine⟨Y,E,⟨ms,w1.heap.size,.slice none 0 0,ls',ls',[],hYX _ h1,hYX _ h2,by rw[hY];exact .inr rfl,h4,by omega,by omega,hYE,λb h=> ?_,op7,(hms1.ext x3 (λh=>h)).ext x37 (λh=>h4 h.symm),hmc.ext x37 (by omega),hf1.map dat,hf1.map dat,⟨rfl,.inl ⟨rfl,rfl⟩⟩,rfl⟩,λb h=> ?_,hED,(x1X.trans x3 λ_ _ h=>h.elim).trans x37 λb _ h=>by rw[h];exact h1⟩
  .rw [hE]at h
   rcases h with h|h
   .have:=hDl b h;omega
   .omega
  .rcases hY2 b h with h|h
   .exact .inl h
   .exact .inr (by omega)
end Go.Proofs.YteelnmpbnaohpaaGreatDoor
namespace Go.Proofs.YteelnmpbnaohpaaGreatDoor
open Go Go.En Go.Pu
structure FT where
 size:Nat
 part:Nat
 leaves:List (List UInt8)
structure eQ where
 nm:ByteArray
 man:FT
 epoch:Nat
 hv:List Bool
 log:Nat
 fin:Bool
 err:Int
def aZ(n:ByteArray):ByteArray:=n++⟨#[46,112,97,114,116]⟩
def cY(n:ByteArray):ByteArray:=n++⟨#[46,108,111,103]⟩
section
variable(lf:List UInt8->List UInt8)(cf:List UInt8->Nat)
def vH(m:FT)(i:Nat)(b:List UInt8):Bool:=b.length==UY m.size m.part i&&lf b==m.leaves.getD i []
def wholeAt(m:FT)(b:List UInt8)(i:Nat):Bool:=decide (m.part*i+UY m.size m.part i<=b.length)&&vH lf m i (B4 m.size m.part i b)
def bQ(m:FT)(b:List UInt8):List Bool:=(List.range m.leaves.length).map (wholeAt lf m b)
def yV(l:List Bool):Bool:= !l.contains false
def bS(S:cF)(n:ByteArray):List UInt8×Bool×Int:=if S.down then([],false,20)else match bF n S.seen with
 |none=>([],false,0)
 |some b=>(b,true,0)
def bZ(S:cF)(s:eQ)(k v:Nat):cF×eQ×Int:=
 let r:=yL S (cY s.nm) s.log (mN cf k v)
 if r.2=0 then(r.1,{s with log:=s.log+13},0)else(r.1,s,r.2)
def cC(S:cF)(s:eQ):cF×List UInt8×Int:=
 let r:=bS S (aZ s.nm)
 if r.2.2≠0 then(S,[],r.2.2)
 else if s.man.size<r.1.length then
  let d:=Yd S (aZ s.nm)
  if d.2≠0 then(d.1,[],d.2)else
    let e:=yL d.1 (aZ s.nm) 0 (List.replicate s.man.size 0)
    (e.1,[],e.2)
 else if r.1.length<s.man.size∨r.2.1=false then
  let e:=yL S (aZ s.nm) r.1.length (List.replicate (s.man.size-r.1.length) 0)
  (e.1,r.1,e.2)
 else(S,r.1,0)
def lE(l:List (Nat×Nat))(w:List Bool)(n:Nat):List Bool:=(List.range n).map λi=>l.any (λr=>r.1==2&&r.2==i)&&w.getD i false
def rH(S:cF)(n:ByteArray)(m:FT):cF×Option eQ×Int:=
 let r:=bS S n
 if r.2.2≠0 then(S,none,r.2.2)else
 let hv:=bQ lf m r.1
 let fin:=r.2.1&&r.1.length==m.size&&yV hv
 let g:=bS S (cY n)
 if g.2.2≠0 then(S,none,g.2.2)else
 let l:=fY cf g.1
 let last:=dT 1 l
 if last=18446744073709551615 then(S,none,23)else
 let s:eQ:=⟨n,m,last+1,hv,13*l.length,fin,0⟩
 let q:=bZ cf S s 1 (last+1)
 if q.2.2≠0 then(q.1,none,q.2.2)else
 if fin then
   let y:=Ad q.1
   if y.2≠0 then(y.1,none,y.2)else(y.1,some q.2.1,0)
 else
  let f:=cC q.1 q.2.1
  if f.2.2≠0 then(f.1,none,f.2.2)else
  let y:=Ad f.1
  if y.2≠0 then(y.1,none,y.2)else(y.1,some {q.2.1 with hv:=lE l (bQ lf m f.2.1) m.leaves.length},0)
def fA(S:cF)(s:eQ)(i:Nat)(b:List UInt8):cF×eQ×Int:=
 let r:=yL S (aZ s.nm) (s.man.part*i:Nat) b
 if r.2≠0 then(r.1,s,r.2)else
 let y:=Ad r.1
 if y.2≠0 then(y.1,s,y.2)else
 let q:=bZ cf y.1 s 2 i
 if q.2.2≠0 then(q.1,q.2.1,q.2.2)else
 let z:=Ad q.1
 (z.1,q.2.1,z.2)
def xK(S:cF)(s:eQ)(i:Int)(b:List UInt8):cF×eQ×Int:=
 if s.err≠0 then(S,s,s.err)
 else if i<0∨(s.hv.length:Int)<=i then(S,s,17)
 else if s.fin||s.hv.getD i.toNat false then(S,s,0)
 else if vH lf s.man i.toNat b=false then(S,s,13)
 else
  let q:=fA cf S s i.toNat b
  (q.1,{q.2.1 with err:=q.2.2,hv:=q.2.1.hv.set i.toNat (q.2.2==0)},q.2.2)
def dU(S:cF)(s:eQ):cF×eQ×Int:=
 if s.err≠0 then(S,s,s.err)
 else if s.fin then(S,s,0)
 else if yV s.hv=false then(S,s,30)
 else if S.down then(S,{s with err:=20},20)
 else match bF (aZ s.nm) S.seen with
 |none=>(S,{s with err:=21},21)
 |some b=>
  if yV (bQ lf s.man b)=false then(S,{s with hv:=bQ lf s.man b},13)
  else
   let r:=JG S (aZ s.nm) s.nm
   if r.2≠0 then(r.1,{s with hv:=bQ lf s.man b,err:=r.2,fin:=false},r.2)else
   let y:=Ad r.1
   (y.1,{s with hv:=bQ lf s.man b,err:=y.2,fin:=y.2==0},y.2)
def jG(f:List UInt8)(k:Nat):FT:=⟨f.length,k,(List.range (jT f.length k)).map λi=>lf (B4 f.length k i f)⟩
end
structure Gt(n:Nat)(S:cF):Prop where
 bd:DBd S
 sz:bN S.seen<=1000000000
 un:S.under.length+n<=1000000
theorem Gt.le {n m:Nat}{S:cF}(h:Gt n S)(hm:m<=n):Gt m S:=⟨h.bd,h.sz,by have:=h.un;omega⟩
theorem Gt.file {n:Nat}{S:cF}(h:Gt n S){k:ByteArray}{b:List UInt8}(hb:bF k S.seen=some b):b.length<=1000000000:=by
 have h1:=qV (k:=k) (c:=S.seen)
 rw[hb]at h1
 have:=h.sz
 have h1:b.length<=bN S.seen:=h1
 omega
theorem WK{l:Int}(h: -1<=l/\l<=9223372036854775807): -1<=BT l/\BT l<=9223372036854775807:=by
 unfold BT
 split<;>omega
theorem apS{n:Nat}{S:cF}{o:LH}(h:Gt (n+1) S)(hs:bN (TL o S.seen)<=1000000000):Gt n (wR S o).1:=by
 have hb:=h.bd
 have hu:=h.un
 have hz:=h.sz
 unfold wR
 split
 .exact ⟨⟨WK hb.left,hb.seen,hb.under,hb.room⟩,hz,by show S.under.length+n<=_;omega⟩
 .refine ⟨⟨WK hb.left,by show bN (TL o S.seen)<=_;omega, ?_,hb.room⟩,hs, ?_⟩
  .show (S.under++[o]).length<=_;rw[aJB];simp;omega
  .show (S.under++[o]).length+n<=_;rw[aJB];simp;omega
theorem awV{n:Nat}{S:cF}{k:ByteArray}{a:Int}{l:List UInt8}(h:Gt (n+1) S):Gt n (yL S k a l).1:=by
 unfold yL
 split
 .rename_i h0
  refine apS h ?_
  unfold wrE at h0
  split at h0
  .omega
  split at h0
  .omega
  rename_i h1
  split at h0
  .omega
  split at h0
  .omega
  rename_i h2
  have hr:=h.bd.room
  have e:TL ⟨0,k,⟨#[]⟩,a.toNat,l⟩ S.seen=lP k (over (lR S k) a.toNat l) S.seen:=rfl
  have hs:=qW k (over (lR S k) a.toNat l) S.seen
  rw[xG]at hs
  rw[e]
  unfold lR at*
  generalize((bF k S.seen).getD []).length=q at*
  have:0<=a:=by
   by_cases ha:a<0
   .exact absurd (.inr ha) h1
   .omega
  omega
 .exact h.le (by omega)
theorem aAH{n:Nat}{S:cF}{k:ByteArray}(h:Gt (n+1) S):Gt n (Yd S k).1:=by
 unfold Yd
 split
 .exact h.le (by omega)
 .split
  .exact h.le (by omega)
  .refine apS h ?_
   have:=Hw k S.seen
   have hz:=h.sz
   show bN (wU k S.seen)<=_
   omega
theorem aGn{n:Nat}{S:cF}{k j:ByteArray}(h:Gt (n+1) S):Gt n (JG S k j).1:=by
 unfold JG
 split
 .exact h.le (by omega)
 .split
  .exact h.le (by omega)
  .split
   .exact h.le (by omega)
   .refine apS h ?_
    have hz:=h.sz
    unfold TL
    rw[if_neg (show¬(1:Nat)=0 by decide),if_pos (show(1:Nat)=1 from rfl)]
    show bN (match bF k S.seen with|none=>S.seen|some old=>lP j old (wU k S.seen))<=_
    have h1:=Hw k S.seen
    cases hg:bF k S.seen with
    |none=>exact hz
    |some old=>
     rw[hg]at h1
     have h1:bN (wU k S.seen)+old.length=bN S.seen:=h1
     have h2:=qW j old (wU k S.seen)
     show bN (lP j old (wU k S.seen))<=_
     omega
theorem aGo{n:Nat}{S:cF}(h:Gt n S):Gt n (Ad S).1:=by
 have hb:=h.bd
 have hu:=h.un
 unfold Ad
 split
 .exact h
 .split
  .exact ⟨⟨WK hb.left,hb.seen,hb.under,hb.room⟩,h.sz,hu⟩
  .exact ⟨⟨WK hb.left,hb.seen,by simp,hb.room⟩,h.sz,by simp;omega⟩
structure Calm(S:cF):Prop where
 up:S.down=false
 left:S.left= -1
theorem aAe{S:cF}(h:Calm S):dnB S=false:=by unfold dnB;rw[h.up,h.left]<;>rfl
theorem anA{S:cF}(h:Calm S)(o:LH):wR S o=({S with under:=S.under++[o],seen:=TL o S.seen},0):=by
 have h1:=h.up
 have h2:=h.left
 unfold wR
 rw[aAe h,if_neg (by decide)]
 obtain⟨room,sure,seen,under,left,down⟩:=S
 simp only at h1 h2
 subst h1;subst h2
 rfl
theorem Yz{S:cF}(h:Calm S):Ad S=({S with sure:=S.seen,under:=[]},0):=by
 have h1:=h.up
 have h2:=h.left
 unfold Ad
 rw[aAe h,h.up,if_neg (show¬false=true by decide),if_neg (show¬false=true by decide)]
 obtain⟨room,sure,seen,under,left,down⟩:=S
 simp only at h1 h2
 subst h1;subst h2
 rfl
theorem arI{S:cF}{k:ByteArray}{a:Nat}{l:List UInt8}(h:Calm S)(hk:zA k=true)(ha:a<=(lR S k).length):
 yL S k a l=if S.room<((bN S.seen+(a+l.length-(lR S k).length):Nat):Int)then(S,22)else({S with under:=S.under++[⟨0,k,⟨#[]⟩,a,l⟩],seen:=lP k (over (lR S k) a l) S.seen},0):=by
 have e:wrE S k a l.length=if S.room<((bN S.seen+(a+l.length-(lR S k).length):Nat):Int)then 22 else 0:=by
  unfold wrE
  rw[h.up,if_neg (by decide),hk,if_neg (by rintro(h|h);cases h;omega),if_neg (by omega)]
  have:((bN S.seen:Nat):Int)+max ((a:Int)+(l.length:Int)-((lR S k).length:Int)) 0=((bN S.seen+(a+l.length-(lR S k).length):Nat):Int):=by omega
  rw[this]
 unfold yL
 rw[e]
 by_cases h1:S.room<((bN S.seen+(a+l.length-(lR S k).length):Nat):Int)
 .rw [if_pos h1,if_pos h1,if_neg (by decide)]
 .rw [if_neg h1,if_neg h1,if_pos rfl,anA h,aJE]
  rfl
end Go.Proofs.YteelnmpbnaohpaaGreatDoor

/- Parts of the proof of EncodeBound: merged and given short names by a program of ours. -/
import Derived.WalkKit
import Derived.ProofKit
import Derived.OpenShut
import Derived.Test.YtoecppploooloaaGreatDoorZbB
set_option linter.unusedVariables false
set_option linter.unusedSimpArgs false
open Bool renaming false_eq_true → aLF, and_eq_true → aLQ, not_false → aMD, not_true → aMy
open Int renaming toNat_natCast → aLx, fdiv_eq_ediv_of_nonneg → aMh, tdiv_eq_ediv_of_nonneg → aNm, tmod_eq_emod_of_nonneg → aNn
open List renaming getElem?_append_right → aL0, map_append → aL2, mem_map → aL5, map_cons → aL7, drop_eq_getElem_cons → aL8, nil_append → aL9, set_cons_succ → aLB, take_succ_cons → aLC, length_take → aLD, drop_zero → aLE, getElem?_eq_none → aLH, append_assoc → aLJ, take_zero → aLK, mem_cons_of_mem → aLN, take_of_length_le → aLO, length_drop → aLP, getElem?_map → aLR, length_cons → aLS, getElem_mem → aLT, getElem?_append_left → aLU, getElem?_take_of_lt → aLX, length_append → aLs, getElem?_eq_getElem → aLt, getElem?_cons_zero → aLu, length_map → aLv, getElem?_cons_succ → aLw, set_cons_zero → aLy, getD_eq_getElem?_getD → aLz, length_set → aM1, getElem?_replicate → aM4, map_set → aM5, count_cons → aM9, getElem?_drop → aMA, map_congr_left → aME, take_add_one → aMG, drop_of_length_le → aMI, getElem_cons_succ → aMJ, drop_drop → aMK, count_append → aMO, ext_getElem? → aMP, getElem_range → aMR, ext_getElem → aMU, take_append_of_le_length → aMW, mem_cons_self → aMa, length_eq_zero_iff → aMc, mem_cons → aMd, append_nil → aMf, length_singleton → aMg, cons_append → aMo, getElem_map → aMp, mem_append → aMq, length_replicate → aMr, mem_range → aMs, set_append_right → aMt, replicate_succ → aMw, mem_of_mem_take → aMx, take_append_drop → aMz, mem_filter → aN0, nodup_cons → aN1, length_erase_of_mem → aN2, drop_left → aNB, filter_cons → aNC, getElem_set → aND, getElem?_range → aNF, drop_left' → aNI, take_left' → aNK, drop_append_of_le_length → aNO, length_range → aNQ, mem_append_right → aNT, getLast?_eq_getElem? → aNb, map_replicate → aNf, map_take → aNg, drop_eq_nil_of_le → aNj, getElem_cons_zero → aNk, mem_append_left → aNs, take_length → aNv, map_drop → aNx, set_append_left → aNz, range'_succ → aOd, getElem_set_self → aOf, range_succ → aOh
open Nat renaming mul_le_mul_right → aL1, add_zero → aL3, le_refl → aLA, pow_le_pow_right → aLG, zero_add → aLI, lt_or_ge → aLL, mod_eq_of_lt → aLV, two_pow_pos → aLZ, sub_zero → aM0, add_sub_cancel → aM3, mul_one → aM6, eq_zero_or_pos → aMC, pow_add → aMF, add_assoc → aMM, zero_le → aMQ, div_div_eq_div_mul → aMV, div_lt_iff_lt_mul → aMZ, mul_comm → aMb, pow_succ → aMe, min_eq_left → aMk, add_mul → aMl, le_trans → aMu, one_le_two_pow → aN4, add_sub_cancel_left → aN7, or_lt_two_pow → aN9, mul_div_cancel_left → aNG, mod_lt → aNM, le_div_iff_mul_le → aNU, mul_add → aNW, div_mul_le_self → aNY, and_two_pow_sub_one_eq_mod → aNc, sub_self → aNl, testBit_eq_decide_div_mod_eq → aNo, lt_of_lt_of_le → aNr, lt_trichotomy → aNt, mul_assoc → aOb, div_le_self → aOi, pow_dvd_pow → aOk, zero_mul → aOl
open Option renaming map_some → aL6, isNone_none → aMS, isNone_some → aMT
open Option.some renaming inj → aLW
open UInt8 renaming toNat_lt → aM7, toNat_ofNat_of_lt' → aN6, toNat_ofNat' → aNN
namespace Go.Proofs.YtoecppploooloaaGreatDoor
open Go Go.En
set_option maxRecDepth 4000
theorem dY{ty:TypeId}(x:Option Addr)(n c:Nat)(w:aOm):(dD .len #[22] ty [.slice x n c]).run pg w= .ok (.value (.int .i64 n)) w:=Xv Tryz.underlying22 x n c
theorem fK{k:IntKind}(a:Int)(w:aOm):(cH 5 3 (.int k a)).run pg w= .ok (.value (.int .i64 (IntKind.i64.wrap a))) w:=Ap Tryz.underlying5 Tryz.underlying3
theorem VN{k:IntKind}(a:Int)(w:aOm):(cH 29 3 (.int k a)).run pg w= .ok (.value (.int .i64 (IntKind.i64.wrap a))) w:=Ap Tryz.underlying29 Tryz.underlying3
theorem Hq:(pg).info? 5=some Tryz.t5:=by kernel_rfl
theorem auC{k:IntKind}{n:Int}{w:aOm}{K:aOn->aOm->Prop}(h0:0<=n)(hn:1*n<=2^48)(hk:∀w',aZ w' w.heap.size (List.replicate n.toNat (.int .u8 0))->aN w w' bJ->w'.heap.size=w.heap.size+1->K (.slice (some ⟨w.heap.size,0,none⟩) n.toNat n.toNat) w'):aA pg (iX 22 (.int k n) (.int k n)) w K:=akA (i:=Tryz.t5) Tryz.underlying22 Hq rfl rfl rfl h0 hn (by omega) hk
theorem lF{k:IntKind}{a:Int}(b o n c:Nat)(w:aOm)(h0:0<=a)(h1:a<n):(aO 22 (.slice (some ⟨b,o,none⟩) n c) (.int k a)).run pg w= .ok (.value (.pointer (some ⟨b,o+a.toNat,none⟩))) w:=UK rfl Tryz.underlying22 Hq b o n c h0 h1
theorem ZH{b off:Nat}{cs:List aOn}{w:aOm}{v:aOn}{K:aOn->aOm->Prop}(ho:aZ w b cs)(hv:one v=true)(h:off<cs.length)(hk:∀w',aZ w' b (cs.set off v)->aN w w' (λx=>x=b)->w'.heap.size=w.heap.size->K undef w'):aA pg (aM 5 (.pointer (some ⟨b,off,none⟩)) v) w K:=rG Hq rfl ho hv h hk
theorem Jf{l:List UInt8}{v:aOn}{w:aOm}(h:Bs w v l):(cH 22 9 v).run pg w= .ok (.value (.string ⟨l.toArray⟩)) w:=aEI Tryz.underlying22 Tryz.underlying9 Tryz.underlying5 h
theorem gA{k:IntKind}(a:Int)(w:aOm):(cH 38 32 (.int k a)).run pg w= .ok (.value (.int .u64 (IntKind.u64.wrap a))) w:=Ap Tryz.underlying38 Tryz.underlying32
theorem qX{k:IntKind}(a:Int)(w:aOm):(cH 3 32 (.int k a)).run pg w= .ok (.value (.int .u64 (IntKind.u64.wrap a))) w:=Ap Tryz.underlying3 Tryz.underlying32
theorem iM{n:Nat}{ps:List (Nat×aOn)}{cells:Array aOn}{w:aOm}(h1:¬n*1>2^24)(h0:¬n*1=0)(hf:Go.Instr.fill (λj=>some (j*1,1)) ((Array.range (n*1)).map ((Tryz.t5.zero.get!).cells[·%(Tryz.t5.zero.get!).cells.size]!)) ps=some cells){K:aOn->aOm->Prop}(hk:∀w',aZ w' w.heap.size cells.toList->aN w w' bJ->w'.heap.size=w.heap.size+1->K (.slice (some ⟨w.heap.size,0,none⟩) n n) w'):aA pg (bT 22 n ps) w K:=Kx (i:=Tryz.t5) Tryz.underlying22 Hq rfl h1 h0 hf hk
theorem eD{k:IntKind}{hi:Int}(a:Option Addr)(n c:Nat)(w:aOm)(h0:0<=hi)(h1:hi<=c):(bP 22 (.slice a n c) none (some (.int k hi)) none).run pg w= .ok (.value (.slice (cW a c (0) 1) (hi.toNat-0) (c-0))) w:=Xw Tryz.underlying22 Hq _ n c h0 h1
theorem aAP:(pg).info? 45=some Tryz.t45:=by kernel_rfl
theorem dU{w:aOm}{K:aOn->aOm->Prop}(hk:∀w',aZ w' w.heap.size [(.int .u32 0),(.int .u32 0),(.int .u32 0)]->aN w w' bJ->w'.heap.size=w.heap.size+1->K (.pointer (some ⟨w.heap.size,0,none⟩)) w'):aA pg (bG 45) w K:=eL (i:=Tryz.t45) aAP rfl hk
theorem cB{b off:Nat}{cs:List aOn}{w:aOm}{xs:Array aOn}{K:aOn->aOm->Prop}(ho:aZ w b cs)(hs:xs.size=3)(hv:∀x∈xs.toList,one x=true)(h:off+3<=cs.length)(hk:∀w',aZ w' b (aT cs off xs.toList)->aN w w' (λx=>x=b)->w'.heap.size=w.heap.size->K undef w'):aA pg (aM 45 (.pointer (some ⟨b,off,none⟩)) (.agg xs)) w K:=gD (v:= .agg xs) aAP ho hs hv h hk
theorem dJ{b off:Nat}{cs:List aOn}{w:aOm}(ho:aZ w b cs)(h:off+3<=cs.length):(aH 45 (.pointer (some ⟨b,off,none⟩))).run pg w= .ok (.value (.agg ((cs.drop off).take 3).toArray)) w:=zT Tryz.underlying45 rfl aAP ho h
theorem dH{base n m:Nat}{ty:TypeId}{w:aOm}{v x:aOn}{l news:List aOn}(h:pC w base 1 v n l)(hx:Cl w 1 x m news)(hone:∀y∈news,one y=true)(hb:base<=w.heap.size)(hbytes:(n+m)*1<=140737488355328){K:aOn->aOm->Prop}(hk:∀v' w',pC w' base 1 v' (n+m) (l++news)->aN w w' (λy=>base<=y)->K v' w'):aA pg (dD .append #[22,22] ty [v,x]) w K:=ajZ (i:=Tryz.t5) Tryz.underlying22 Tryz.underlying22 Hq rfl rfl rfl h hx hone hb (by omega) hbytes (by decide) hk
theorem fB{k:IntKind}(a:Int)(w:aOm):(cH 32 5 (.int k a)).run pg w= .ok (.value (.int .u8 (IntKind.u8.wrap a))) w:=Ap Tryz.underlying32 Tryz.underlying5
theorem YT:(pg).info? 22=some Tryz.t22:=by kernel_rfl
theorem HN(b o:Nat)(w:aOm):(aJ 56 (.pointer (some ⟨b,o,none⟩)) 3).run pg w= .ok (.value (.pointer (some ⟨b,o+3,none⟩))) w:=dE (i:=3) Tryz.underlying56 rfl YT (by decide) _
theorem iO(x:Addr)(w:aOm):(aH 22 (.pointer (some x))).run pg w=ldC (w.cell? x) w (far pg 22 x w):=acD Tryz.underlying22 rfl x w
theorem FX{k:IntKind}(a:Int)(w:aOm):(cH 32 3 (.int k a)).run pg w= .ok (.value (.int .i64 (IntKind.i64.wrap a))) w:=Ap Tryz.underlying32 Tryz.underlying3
theorem iQ{b off:Nat}{cs:List aOn}{w:aOm}(ho:aZ w b cs)(h:off+3<=cs.length){K:aOn->Prop}(hk:K (.agg ((cs.drop off).take 3).toArray)):vV pg 45 (.pointer (some ⟨b,off,none⟩)) w K:=F9 Tryz.underlying45 rfl aAP ho h hk
theorem Ea(n0:Int)(n1:Int)(n2:Int)(w:aOm):(bH 45 [(0,(.int .u32 n0)),(1,(.int .u32 n1)),(2,(.int .u32 n2))]).run pg w= .ok (.value (.agg #[(.int .u32 n0),(.int .u32 n1),(.int .u32 n2)])) w:=by kernel_rfl
theorem OO{k k':IntKind}{lo hi:Int}(a:Option Addr)(n c:Nat)(w:aOm)(h0:0<=lo)(h1:lo<=hi)(h2:hi<=c):(bP 22 (.slice a n c) (some (.int k lo)) (some (.int k' hi)) none).run pg w= .ok (.value (.slice (cW a c (lo.toNat) 1) (hi.toNat-lo.toNat) (c-lo.toNat))) w:=aqK Tryz.underlying22 Hq _ n c h0 h1 h2
theorem yC(b0:Bool)(n1:Int)(n2:Int)(w:aOm):(bH 65 [(0,(.bool b0)),(1,(.int .i64 n1)),(2,(.int .i64 n2))]).run pg w= .ok (.value (.agg #[(.bool b0),(.int .i64 n1),(.int .i64 n2)])) w:=by kernel_rfl
theorem aAQ:(pg).info? 65=some Tryz.t65:=by kernel_rfl
theorem CH{w:aOm}{K:aOn->aOm->Prop}(hk:∀w',aZ w' w.heap.size [(.bool false),(.int .i64 0),(.int .i64 0)]->aN w w' bJ->w'.heap.size=w.heap.size+1->K (.pointer (some ⟨w.heap.size,0,none⟩)) w'):aA pg (bG 65) w K:=eL (i:=Tryz.t65) aAQ rfl hk
theorem vH{b off:Nat}{cs:List aOn}{w:aOm}{xs:Array aOn}{K:aOn->aOm->Prop}(ho:aZ w b cs)(hs:xs.size=3)(hv:∀x∈xs.toList,one x=true)(h:off+3<=cs.length)(hk:∀w',aZ w' b (aT cs off xs.toList)->aN w w' (λx=>x=b)->w'.heap.size=w.heap.size->K undef w'):aA pg (aM 65 (.pointer (some ⟨b,off,none⟩)) (.agg xs)) w K:=gD (v:= .agg xs) aAQ ho hs hv h hk
theorem Cr:(pg).info? 3=some Tryz.t3:=by kernel_rfl
theorem HO(b o:Nat)(w:aOm):(aJ 65 (.pointer (some ⟨b,o,none⟩)) 1).run pg w= .ok (.value (.pointer (some ⟨b,o+1,none⟩))) w:=dE (i:=1) Tryz.underlying65 rfl Cr (by decide) _
theorem rF{b off:Nat}{cs:List aOn}{w:aOm}{v:aOn}{K:aOn->aOm->Prop}(ho:aZ w b cs)(hv:one v=true)(h:off<cs.length)(hk:∀w',aZ w' b (cs.set off v)->aN w w' (λx=>x=b)->w'.heap.size=w.heap.size->K undef w'):aA pg (aM 3 (.pointer (some ⟨b,off,none⟩)) v) w K:=rG Cr rfl ho hv h hk
theorem HQ(b o:Nat)(w:aOm):(aJ 65 (.pointer (some ⟨b,o,none⟩)) 2).run pg w= .ok (.value (.pointer (some ⟨b,o+2,none⟩))) w:=dE (i:=2) Tryz.underlying65 rfl Cr (by decide) _
theorem afI{b off:Nat}{cs:List aOn}{w:aOm}(ho:aZ w b cs)(h:off+3<=cs.length):(aH 65 (.pointer (some ⟨b,off,none⟩))).run pg w= .ok (.value (.agg ((cs.drop off).take 3).toArray)) w:=zT Tryz.underlying65 rfl aAQ ho h
theorem D9 (p0:Option Addr)(n1:Int)(n2:Int)(w:aOm):(bH 56 [(0,(.pointer p0)),(1,(.int .u64 n1)),(2,(.int .i64 n2))]).run pg w= .ok (.value (.agg #[(.pointer p0),(.int .u64 n1),(.int .i64 n2),(.slice none 0 0),(.int .i64 0),(.int .i64 0)])) w:=by kernel_rfl
theorem aHl:(pg).info? 54=some Tryz.t54:=by kernel_rfl
theorem Ly(b o:Nat)(w:aOm):(aJ 56 (.pointer (some ⟨b,o,none⟩)) 0).run pg w= .ok (.value (.pointer (some ⟨b,o,none⟩))) w:=dE (i:=0) Tryz.underlying56 rfl aHl (by decide) _
theorem JP(x:Addr)(w:aOm):(aH 54 (.pointer (some x))).run pg w=ldC (w.cell? x) w (far pg 54 x w):=acD Tryz.underlying54 rfl x w
theorem gU{ox oy:Operand}(x:Option Addr)(n c:Nat)(w:aOm):(aD .eql 22 ox oy (.slice x n c) (.slice none 0 0)).run pg w= .ok (.value (.bool x.isNone)) w:=aGI Tryz.underlying22 x n c
theorem C5 (b o:Nat)(w:aOm):(aJ 56 (.pointer (some ⟨b,o,none⟩)) 4).run pg w= .ok (.value (.pointer (some ⟨b,o+4,none⟩))) w:=dE (i:=4) Tryz.underlying56 rfl Cr (by decide) _
theorem sU(x:Addr)(w:aOm):(aH 3 (.pointer (some x))).run pg w=ldC (w.cell? x) w (far pg 3 x w):=acD Tryz.underlying3 rfl x w
theorem Eo(b o:Nat)(w:aOm):(aJ 56 (.pointer (some ⟨b,o,none⟩)) 5).run pg w= .ok (.value (.pointer (some ⟨b,o+5,none⟩))) w:=dE (i:=5) Tryz.underlying56 rfl Cr (by decide) _
theorem Li(w:aOm):(bH 77 []).run pg w= .ok (.value (.agg #[(.slice none 0 0)])) w:=by kernel_rfl
theorem GQ{ox oy:Operand}(x:Option Addr)(w:aOm):(aD .eql 60 ox oy (.pointer x) (.pointer none)).run pg w= .ok (.value (.bool x.isNone)) w:=aqJ Tryz.underlying60 x
theorem Js(b o:Nat)(w:aOm):(aJ 77 (.pointer (some ⟨b,o,none⟩)) 0).run pg w= .ok (.value (.pointer (some ⟨b,o,none⟩))) w:=dE (i:=0) Tryz.underlying77 rfl YT (by decide) _
theorem mW{k:IntKind}(a:Int)(w:aOm):(cH 3 50 (.int k a)).run pg w= .ok (.value (.int .u64 (IntKind.u64.wrap a))) w:=Ap Tryz.underlying3 Tryz.underlying50
theorem lK{b off:Nat}{cs:List aOn}{w:aOm}{v:aOn}{K:aOn->aOm->Prop}(ho:aZ w b cs)(hv:one v=true)(h:off<cs.length)(hk:∀w',aZ w' b (cs.set off v)->aN w w' (λx=>x=b)->w'.heap.size=w.heap.size->K undef w'):aA pg (aM 22 (.pointer (some ⟨b,off,none⟩)) v) w K:=rG YT rfl ho hv h hk
theorem nT{ty:TypeId}(x:Option Addr)(n c:Nat)(w:aOm):(dD .len #[80] ty [.slice x n c]).run pg w= .ok (.value (.int .i64 n)) w:=Xv Tryz.underlying80 x n c
theorem aiL:(pg).info? 84=some Tryz.t84:=by kernel_rfl
theorem JM{k:IntKind}{a:Int}(b o n c:Nat)(w:aOm)(h0:0<=a)(h1:a<n):(aO 80 (.slice (some ⟨b,o,none⟩) n c) (.int k a)).run pg w= .ok (.value (.pointer (some ⟨b,o+a.toNat*3,none⟩))) w:=acC rfl Tryz.underlying80 aiL b o n c h0 h1
theorem abO{b off:Nat}{l:List aOn}{w:aOm}(hl:l.length=3)(h:∀j,j<l.length->w.cell? ⟨b,off+j,none⟩=l[j]?):(aH 84 (.pointer (some ⟨b,off,none⟩))).run pg w= .ok (.value (.agg l.toArray)) w:=P1 Tryz.underlying84 rfl aiL hl.symm h
theorem EW{b off:Nat}{cs:List aOn}{w:aOm}(ho:aZ w b cs)(h:off+3<=cs.length):(aH 84 (.pointer (some ⟨b,off,none⟩))).run pg w= .ok (.value (.agg ((cs.drop off).take 3).toArray)) w:=zT Tryz.underlying84 rfl aiL ho h
theorem G9 {w:aOm}{K:aOn->aOm->Prop}(hk:∀w',aZ w' w.heap.size [(.int .u32 0),(.int .u32 0),(.int .u32 0)]->aN w w' bJ->w'.heap.size=w.heap.size+1->K (.pointer (some ⟨w.heap.size,0,none⟩)) w'):aA pg (bG 84) w K:=eL (i:=Tryz.t84) aiL rfl hk
theorem Fo{b off:Nat}{cs:List aOn}{w:aOm}{xs:Array aOn}{K:aOn->aOm->Prop}(ho:aZ w b cs)(hs:xs.size=3)(hv:∀x∈xs.toList,one x=true)(h:off+3<=cs.length)(hk:∀w',aZ w' b (aT cs off xs.toList)->aN w w' (λx=>x=b)->w'.heap.size=w.heap.size->K undef w'):aA pg (aM 84 (.pointer (some ⟨b,off,none⟩)) (.agg xs)) w K:=gD (v:= .agg xs) aiL ho hs hv h hk
theorem JO:(pg).info? 38=some Tryz.t38:=by kernel_rfl
theorem AZ(b o:Nat)(w:aOm):(aJ 84 (.pointer (some ⟨b,o,none⟩)) 0).run pg w= .ok (.value (.pointer (some ⟨b,o,none⟩))) w:=dE (i:=0) Tryz.underlying84 rfl JO (by decide) _
theorem iP(x:Addr)(w:aOm):(aH 38 (.pointer (some x))).run pg w=ldC (w.cell? x) w (far pg 38 x w):=acD Tryz.underlying38 rfl x w
theorem VO{k:IntKind}(a:Int)(w:aOm):(cH 38 3 (.int k a)).run pg w= .ok (.value (.int .i64 (IntKind.i64.wrap a))) w:=Ap Tryz.underlying38 Tryz.underlying3
theorem Em(b o:Nat)(w:aOm):(aJ 84 (.pointer (some ⟨b,o,none⟩)) 1).run pg w= .ok (.value (.pointer (some ⟨b,o+1,none⟩))) w:=dE (i:=1) Tryz.underlying84 rfl JO (by decide) _
theorem C4 (b o:Nat)(w:aOm):(aJ 84 (.pointer (some ⟨b,o,none⟩)) 2).run pg w= .ok (.value (.pointer (some ⟨b,o+2,none⟩))) w:=dE (i:=2) Tryz.underlying84 rfl JO (by decide) _
theorem Fm{b off:Nat}{cs:List aOn}{w:aOm}{v:aOn}{K:aOn->aOm->Prop}(ho:aZ w b cs)(hv:one v=true)(h:off<cs.length)(hk:∀w',aZ w' b (cs.set off v)->aN w w' (λx=>x=b)->w'.heap.size=w.heap.size->K undef w'):aA pg (aM 38 (.pointer (some ⟨b,off,none⟩)) v) w K:=rG JO rfl ho hv h hk
theorem Sm{n:Nat}{ps:List (Nat×aOn)}{cells:Array aOn}{w:aOm}(h1:¬n*1>2^24)(h0:¬n*1=0)(hf:Go.Instr.fill (λj=>some (j*1,1)) ((Array.range (n*1)).map ((Tryz.t22.zero.get!).cells[·%(Tryz.t22.zero.get!).cells.size]!)) ps=some cells){K:aOn->aOm->Prop}(hk:∀w',aZ w' w.heap.size cells.toList->aN w w' bJ->w'.heap.size=w.heap.size+1->K (.slice (some ⟨w.heap.size,0,none⟩) n n) w'):aA pg (bT 137 n ps) w K:=Kx (i:=Tryz.t22) Tryz.underlying137 YT rfl h1 h0 hf hk
theorem aGk:(pg).info? 4=some Tryz.t4:=by kernel_rfl
theorem HP(b o:Nat)(w:aOm):(aJ 65 (.pointer (some ⟨b,o,none⟩)) 0).run pg w= .ok (.value (.pointer (some ⟨b,o,none⟩))) w:=dE (i:=0) Tryz.underlying65 rfl aGk (by decide) _
theorem aAU(x:Addr)(w:aOm):(aH 4 (.pointer (some x))).run pg w=ldC (w.cell? x) w (far pg 4 x w):=acD Tryz.underlying4 rfl x w
theorem D8 (n0:Int)(n1:Int)(n2:Int)(n3:Int)(w:aOm):(bH 90 [(0,(.int .u64 n0)),(1,(.int .u64 n1)),(2,(.int .u64 n2)),(3,(.int .u64 n3))]).run pg w= .ok (.value (.agg #[(.int .u64 n0),(.int .u64 n1),(.int .u64 n2),(.int .u64 n3)])) w:=by kernel_rfl
theorem VH(aFv aFw aFx aKe:aOn)(w:aOm):(bH 93 [(0,(.agg #[aFv,aFw,aFx,aKe]))]).run pg w= .ok (.value (.agg #[aFv,aFw,aFx,aKe,(.int .u8 0),(.int .u8 0),(.int .u8 0),(.int .u8 0),(.int .u8 0),(.int .u8 0),(.int .u8 0),(.int .u8 0),(.int .u8 0),(.int .u8 0),(.int .u8 0),(.int .u8 0),(.int .u8 0),(.int .u8 0),(.int .u8 0),(.int .u8 0),(.int .u8 0),(.int .u8 0),(.int .u8 0),(.int .u8 0),(.int .u8 0),(.int .u8 0),(.int .u8 0),(.int .u8 0),(.int .u8 0),(.int .u8 0),(.int .u8 0),(.int .u8 0),(.int .u8 0),(.int .u8 0),(.int .u8 0),(.int .u8 0),(.int .i64 0),(.int .u64 0)])) w:=by kernel_rfl
theorem Q7 {ox oy:Operand}(x:Option Addr)(w:aOm):(aD .eql 68 ox oy (.pointer x) (.pointer none)).run pg w= .ok (.value (.bool x.isNone)) w:=aqJ Tryz.underlying68 x
theorem aiK:(pg).info? 32=some Tryz.t32:=by kernel_rfl
theorem QK(b o:Nat)(w:aOm):(aJ 93 (.pointer (some ⟨b,o,none⟩)) 3).run pg w= .ok (.value (.pointer (some ⟨b,o+37,none⟩))) w:=dE (i:=3) Tryz.underlying93 rfl aiK (by decide) _
theorem anB(x:Addr)(w:aOm):(aH 32 (.pointer (some x))).run pg w=ldC (w.cell? x) w (far pg 32 x w):=acD Tryz.underlying32 rfl x w
theorem IT{b off:Nat}{cs:List aOn}{w:aOm}{v:aOn}{K:aOn->aOm->Prop}(ho:aZ w b cs)(hv:one v=true)(h:off<cs.length)(hk:∀w',aZ w' b (cs.set off v)->aN w w' (λx=>x=b)->w'.heap.size=w.heap.size->K undef w'):aA pg (aM 32 (.pointer (some ⟨b,off,none⟩)) v) w K:=rG aiK rfl ho hv h hk
theorem aJI:(pg).info? 91=some Tryz.t91:=by kernel_rfl
theorem NZ(b o:Nat)(w:aOm):(aJ 93 (.pointer (some ⟨b,o,none⟩)) 1).run pg w= .ok (.value (.pointer (some ⟨b,o+4,none⟩))) w:=dE (i:=1) Tryz.underlying93 rfl aJI (by decide) _
theorem VU(b o:Nat)(w:aOm):(aJ 93 (.pointer (some ⟨b,o,none⟩)) 2).run pg w= .ok (.value (.pointer (some ⟨b,o+36,none⟩))) w:=dE (i:=2) Tryz.underlying93 rfl Cr (by decide) _
theorem ON{k:IntKind}{lo:Int}(b o:Nat)(w:aOm)(h0:0<=lo)(h1:lo<=32):(bP 91 (.pointer (some ⟨b,o,none⟩)) (some (.int k lo)) none none).run pg w= .ok (.value (.slice (some (iD ⟨b,o,none⟩ 32 (lo.toNat) 1)) (32-lo.toNat) (32-lo.toNat))) w:=auZ Tryz.underlying91 Hq _ h0 (by simpa using h1)
theorem SD{ty:TypeId}{w:aOm}{b off dl c:Nat}{cs:List aOn}(ho:aZ w b cs)(hl:off+dl<=cs.length){v:aOn}{l:List aOn}(h:Sl w v l)(hv:∀x∈l,one x=true){K:aOn->aOm->Prop}(hk:∀w',aZ w' b (aT cs off (l.take (min l.length dl)))->aN w w' (λx=>x=b)->w'.heap.size=w.heap.size->K (.int .i64 (min l.length dl:Nat)) w'):aA pg (dD .copy #[22,22] ty [.slice (some ⟨b,off,none⟩) dl c,v]) w K:=avU Tryz.underlying22 Hq rfl ho hl h hv hk
theorem fS{k:IntKind}{lo:Int}(a:Option Addr)(n c:Nat)(w:aOm)(h0:0<=lo)(h1:lo<=n):(bP 22 (.slice a n c) (some (.int k lo)) none none).run pg w= .ok (.value (.slice (cW a c (lo.toNat) 1) (n-lo.toNat) (c-lo.toNat))) w:=azC Tryz.underlying22 Hq _ n c h0 h1
theorem aHm:(pg).info? 90=some Tryz.t90:=by kernel_rfl
theorem VV(b o:Nat)(w:aOm):(aJ 93 (.pointer (some ⟨b,o,none⟩)) 0).run pg w= .ok (.value (.pointer (some ⟨b,o,none⟩))) w:=dE (i:=0) Tryz.underlying93 rfl aHm (by decide) _
theorem Wd{k:IntKind}{a:Int}(b o:Nat)(w:aOm)(h0:0<=a)(h1:a<4):(aO 90 (.pointer (some ⟨b,o,none⟩)) (.int k a)).run pg w= .ok (.value (.pointer (some ⟨b,o+a.toNat,none⟩))) w:=IS rfl Tryz.underlying90 aiK b o h0 (by simpa using h1)
theorem Kp{k k':IntKind}{lo hi:Int}(b o:Nat)(w:aOm)(h0:0<=lo)(h1:lo<=hi)(h2:hi<=32):(bP 91 (.pointer (some ⟨b,o,none⟩)) (some (.int k lo)) (some (.int k' hi)) none).run pg w= .ok (.value (.slice (some (iD ⟨b,o,none⟩ 32 (lo.toNat) 1)) (hi.toNat-lo.toNat) (32-lo.toNat))) w:=WD Tryz.underlying91 Hq _ h0 h1 (by simpa using h2)
theorem OM{k:IntKind}{hi:Int}(b o:Nat)(w:aOm)(h0:0<=hi)(h1:hi<=32):(bP 91 (.pointer (some ⟨b,o,none⟩)) none (some (.int k hi)) none).run pg w= .ok (.value (.slice (some (iD ⟨b,o,none⟩ 32 (0) 1)) (hi.toNat-0) (32-0))) w:=TI Tryz.underlying91 Hq _ h0 (by simpa using h1)
theorem yL(x:Addr)(w:aOm):(aH 5 (.pointer (some x))).run pg w=ldC (w.cell? x) w (far pg 5 x w):=acD Tryz.underlying5 rfl x w
theorem Qx{k:IntKind}(a:Int)(w:aOm):(cH 5 32 (.int k a)).run pg w= .ok (.value (.int .u64 (IntKind.u64.wrap a))) w:=Ap Tryz.underlying5 Tryz.underlying32
theorem I4 (a0:Option Addr)(l0 c0:Nat)(w:aOm):(bH 97 [(0,(.slice a0 l0 c0))]).run pg w= .ok (.value (.agg #[(.slice a0 l0 c0),(.int .i64 0)])) w:=by kernel_rfl
theorem GP{ox oy:Operand}(x:Option Addr)(w:aOm):(aD .eql 54 ox oy (.pointer x) (.pointer none)).run pg w= .ok (.value (.bool x.isNone)) w:=aqJ Tryz.underlying54 x
theorem Jq(b o:Nat)(w:aOm):(aJ 97 (.pointer (some ⟨b,o,none⟩)) 0).run pg w= .ok (.value (.pointer (some ⟨b,o,none⟩))) w:=dE (i:=0) Tryz.underlying97 rfl YT (by decide) _
theorem aEb:(pg).info? 24=some Tryz.t24:=by kernel_rfl
theorem Jr(b o:Nat)(w:aOm):(aJ 97 (.pointer (some ⟨b,o,none⟩)) 1).run pg w= .ok (.value (.pointer (some ⟨b,o+1,none⟩))) w:=dE (i:=1) Tryz.underlying97 rfl aEb (by decide) _
theorem YW(x:Addr)(w:aOm):(aH 24 (.pointer (some x))).run pg w=ldC (w.cell? x) w (far pg 24 x w):=acD Tryz.underlying24 rfl x w
theorem apK:(pg).info? 101=some Tryz.t101:=by kernel_rfl
theorem Bm{w:aOm}{K:aOn->aOm->Prop}(hk:∀w',aZ w' w.heap.size [(.int .u64 0),(.int .u64 0),(.bool false),(.bool false)]->aN w w' bJ->w'.heap.size=w.heap.size+1->K (.pointer (some ⟨w.heap.size,0,none⟩)) w'):aA pg (bG 101) w K:=eL (i:=Tryz.t101) apK rfl hk
theorem jC{b off:Nat}{cs:List aOn}{w:aOm}{xs:Array aOn}{K:aOn->aOm->Prop}(ho:aZ w b cs)(hs:xs.size=4)(hv:∀x∈xs.toList,one x=true)(h:off+4<=cs.length)(hk:∀w',aZ w' b (aT cs off xs.toList)->aN w w' (λx=>x=b)->w'.heap.size=w.heap.size->K undef w'):aA pg (aM 101 (.pointer (some ⟨b,off,none⟩)) (.agg xs)) w K:=gD (v:= .agg xs) apK ho hs hv h hk
theorem XI{b off:Nat}{cs:List aOn}{w:aOm}{v:aOn}{K:aOn->aOm->Prop}(ho:aZ w b cs)(hv:one v=true)(h:off<cs.length)(hk:∀w',aZ w' b (cs.set off v)->aN w w' (λx=>x=b)->w'.heap.size=w.heap.size->K undef w'):aA pg (aM 54 (.pointer (some ⟨b,off,none⟩)) v) w K:=rG aHl rfl ho hv h hk
theorem mN(b o:Nat)(w:aOm):(aJ 101 (.pointer (some ⟨b,o,none⟩)) 0).run pg w= .ok (.value (.pointer (some ⟨b,o,none⟩))) w:=dE (i:=0) Tryz.underlying101 rfl aiK (by decide) _
theorem C6 (b o:Nat)(w:aOm):(aJ 56 (.pointer (some ⟨b,o,none⟩)) 1).run pg w= .ok (.value (.pointer (some ⟨b,o+1,none⟩))) w:=dE (i:=1) Tryz.underlying56 rfl aiK (by decide) _
theorem Ep(b o:Nat)(w:aOm):(aJ 101 (.pointer (some ⟨b,o,none⟩)) 2).run pg w= .ok (.value (.pointer (some ⟨b,o+2,none⟩))) w:=dE (i:=2) Tryz.underlying101 rfl aGk (by decide) _
theorem GB(b o:Nat)(w:aOm):(aJ 101 (.pointer (some ⟨b,o,none⟩)) 1).run pg w= .ok (.value (.pointer (some ⟨b,o+1,none⟩))) w:=dE (i:=1) Tryz.underlying101 rfl aiK (by decide) _
theorem GA(b o:Nat)(w:aOm):(aJ 56 (.pointer (some ⟨b,o,none⟩)) 2).run pg w= .ok (.value (.pointer (some ⟨b,o+2,none⟩))) w:=dE (i:=2) Tryz.underlying56 rfl Cr (by decide) _
theorem Lj(aFv aFw aFx:aOn)(w:aOm):(bH 110 [(2,(.agg #[aFv,aFw,aFx]))]).run pg w= .ok (.value (.agg #[(.slice none 0 0),(.int .i64 0),(.slice none 0 0),(.int .i64 0),(.slice none 0 0),(.int .i64 0),(.slice none 0 0),aFv,aFw,aFx])) w:=by kernel_rfl
theorem apL:(pg).info? 110=some Tryz.t110:=by kernel_rfl
theorem Qs{w:aOm}{K:aOn->aOm->Prop}(hk:∀w',aZ w' w.heap.size [(.slice none 0 0),(.int .i64 0),(.slice none 0 0),(.int .i64 0),(.slice none 0 0),(.int .i64 0),(.slice none 0 0),(.int .u32 0),(.int .u32 0),(.int .u32 0)]->aN w w' bJ->w'.heap.size=w.heap.size+1->K (.pointer (some ⟨w.heap.size,0,none⟩)) w'):aA pg (bG 110) w K:=eL (i:=Tryz.t110) apL rfl hk
theorem gC{b off:Nat}{cs:List aOn}{w:aOm}{xs:Array aOn}{K:aOn->aOm->Prop}(ho:aZ w b cs)(hs:xs.size=10)(hv:∀x∈xs.toList,one x=true)(h:off+10<=cs.length)(hk:∀w',aZ w' b (aT cs off xs.toList)->aN w w' (λx=>x=b)->w'.heap.size=w.heap.size->K undef w'):aA pg (aM 110 (.pointer (some ⟨b,off,none⟩)) (.agg xs)) w K:=gD (v:= .agg xs) apL ho hs hv h hk
theorem EX{b off:Nat}{cs:List aOn}{w:aOm}(ho:aZ w b cs)(h:off+10<=cs.length):(aH 110 (.pointer (some ⟨b,off,none⟩))).run pg w= .ok (.value (.agg ((cs.drop off).take 10).toArray)) w:=zT Tryz.underlying110 rfl apL ho h
theorem HS(b o:Nat)(w:aOm):(aJ 101 (.pointer (some ⟨b,o,none⟩)) 3).run pg w= .ok (.value (.pointer (some ⟨b,o+3,none⟩))) w:=dE (i:=3) Tryz.underlying101 rfl aGk (by decide) _
theorem GN{w:aOm}{K:aOn->aOm->Prop}(hk:∀w',Mp w' w.heap.size (Yp (n:=4)) ([]:List (Rk 4×aOn))->aN w w' bJ->w'.heap.size=w.heap.size+1->K (.map (some w.heap.size)) w'):aA pg (acQ 116 none) w K:=aCJ _ hk
theorem Om{k:IntKind}{n:Int}{w:aOm}{K:aOn->aOm->Prop}(h0:0<=n)(hn:8*n<=2^48)(hk:∀w',aZ w' w.heap.size (List.replicate n.toNat (.int .i64 0))->aN w w' bJ->w'.heap.size=w.heap.size+1->K (.slice (some ⟨w.heap.size,0,none⟩) n.toNat n.toNat) w'):aA pg (iX 117 (.int k n) (.int k n)) w K:=akA (i:=Tryz.t3) Tryz.underlying117 Cr rfl rfl rfl h0 hn (by omega) hk
theorem Ac(a0:Option Addr)(l0 c0:Nat)(n1:Int)(m2:Option Nat)(a3:Option Addr)(l3 c3:Nat)(n4:Int)(w:aOm):(bH 119 [(0,(.slice a0 l0 c0)),(1,(.int .i64 n1)),(2,(.map m2)),(3,(.slice a3 l3 c3)),(4,(.int .i64 n4))]).run pg w= .ok (.value (.agg #[(.slice a0 l0 c0),(.int .i64 n1),(.map m2),(.slice a3 l3 c3),(.int .i64 n4)])) w:=by kernel_rfl
theorem AX{k:IntKind}(a:Int)(w:aOm):(cH 3 38 (.int k a)).run pg w= .ok (.value (.int .u32 (IntKind.u32.wrap a))) w:=Ap Tryz.underlying3 Tryz.underlying38
theorem D6 (n0:Int)(n1:Int)(n2:Int)(w:aOm):(bH 84 [(0,(.int .u32 n0)),(1,(.int .u32 n1)),(2,(.int .u32 n2))]).run pg w= .ok (.value (.agg #[(.int .u32 n0),(.int .u32 n1),(.int .u32 n2)])) w:=by kernel_rfl
theorem WY{n:Nat}{ps:List (Nat×aOn)}{cells:Array aOn}{w:aOm}(h1:¬n*3>2^24)(h0:¬n*3=0)(hf:Go.Instr.fill (λj=>some (j*3,3)) ((Array.range (n*3)).map ((Tryz.t84.zero.get!).cells[·%(Tryz.t84.zero.get!).cells.size]!)) ps=some cells){K:aOn->aOm->Prop}(hk:∀w',aZ w' w.heap.size cells.toList->aN w w' bJ->w'.heap.size=w.heap.size+1->K (.slice (some ⟨w.heap.size,0,none⟩) n n) w'):aA pg (bT 80 n ps) w K:=Kx (i:=Tryz.t84) Tryz.underlying80 aiL rfl h1 h0 hf hk
theorem BE{base n m:Nat}{ty:TypeId}{w:aOm}{v x:aOn}{l news:List aOn}(h:pC w base 3 v n l)(hx:Cl w 3 x m news)(hone:∀y∈news,one y=true)(hb:base<=w.heap.size)(hbytes:(n+m)*12<=140737488355328){K:aOn->aOm->Prop}(hk:∀v' w',pC w' base 3 v' (n+m) (l++news)->aN w w' (λy=>base<=y)->K v' w'):aA pg (dD .append #[80,80] ty [v,x]) w K:=ajZ (i:=Tryz.t84) Tryz.underlying80 Tryz.underlying80 aiL rfl rfl rfl h hx hone hb (by omega) hbytes (by decide) hk
theorem Lh(n0:Int)(w:aOm):(bH 84 [(0,(.int .u32 n0))]).run pg w= .ok (.value (.agg #[(.int .u32 n0),(.int .u32 0),(.int .u32 0)])) w:=by kernel_rfl
theorem adG{w:aOm}{K:aOn->aOm->Prop}(hk:∀w',aZ w' w.heap.size [(.slice none 0 0)]->aN w w' bJ->w'.heap.size=w.heap.size+1->K (.pointer (some ⟨w.heap.size,0,none⟩)) w'):aA pg (bG 22) w K:=eL (i:=Tryz.t22) YT rfl hk
theorem apW{k:IntKind}{n:Int}{w:aOm}{K:aOn->aOm->Prop}(h0:0<=n)(hn:4*n<=2^48)(hk:∀w',aZ w' w.heap.size (List.replicate n.toNat (.int .u32 0))->aN w w' bJ->w'.heap.size=w.heap.size+1->K (.slice (some ⟨w.heap.size,0,none⟩) n.toNat n.toNat) w'):aA pg (iX 128 (.int k n) (.int k n)) w K:=akA (i:=Tryz.t38) Tryz.underlying128 JO rfl rfl rfl h0 hn (by omega) hk
theorem dX{k:IntKind}{a:Int}(b o n c:Nat)(w:aOm)(h0:0<=a)(h1:a<n):(aO 128 (.slice (some ⟨b,o,none⟩) n c) (.int k a)).run pg w= .ok (.value (.pointer (some ⟨b,o+a.toNat,none⟩))) w:=UK rfl Tryz.underlying128 JO b o n c h0 h1
theorem apN:(pg).info? 131=some Tryz.t131:=by kernel_rfl
theorem FV{w:aOm}{K:aOn->aOm->Prop}(hk:∀w',aZ w' w.heap.size [(.slice none 0 0),(.slice none 0 0),(.slice none 0 0)]->aN w w' bJ->w'.heap.size=w.heap.size+1->K (.pointer (some ⟨w.heap.size,0,none⟩)) w'):aA pg (bG 131) w K:=eL (i:=Tryz.t131) apN rfl hk
theorem Kw{b off:Nat}{cs:List aOn}{w:aOm}{xs:Array aOn}{K:aOn->aOm->Prop}(ho:aZ w b cs)(hs:xs.size=3)(hv:∀x∈xs.toList,one x=true)(h:off+3<=cs.length)(hk:∀w',aZ w' b (aT cs off xs.toList)->aN w w' (λx=>x=b)->w'.heap.size=w.heap.size->K undef w'):aA pg (aM 131 (.pointer (some ⟨b,off,none⟩)) (.agg xs)) w K:=gD (v:= .agg xs) apN ho hs hv h hk
theorem aD9:(pg).info? 108=some Tryz.t108:=by kernel_rfl
theorem UR{w:aOm}{K:aOn->aOm->Prop}(hk:∀w',aZ w' w.heap.size [(.int .i64 0),(.slice none 0 0),(.int .i64 0),(.slice none 0 0),(.int .i64 0),(.slice none 0 0)]->aN w w' bJ->w'.heap.size=w.heap.size+1->K (.pointer (some ⟨w.heap.size,0,none⟩)) w'):aA pg (bG 108) w K:=eL (i:=Tryz.t108) aD9 rfl hk
theorem apM:(pg).info? 117=some Tryz.t117:=by kernel_rfl
theorem Wb{k:IntKind}{a:Int}(b o:Nat)(w:aOm)(h0:0<=a)(h1:a<3):(aO 131 (.pointer (some ⟨b,o,none⟩)) (.int k a)).run pg w= .ok (.value (.pointer (some ⟨b,o+a.toNat,none⟩))) w:=IS rfl Tryz.underlying131 apM b o h0 (by simpa using h1)
theorem anA(x:Addr)(w:aOm):(aH 117 (.pointer (some x))).run pg w=ldC (w.cell? x) w (far pg 117 x w):=acD Tryz.underlying117 rfl x w
theorem aiI:(pg).info? 106=some Tryz.t106:=by kernel_rfl
theorem pU{w:aOm}{K:aOn->aOm->Prop}(hk:∀w',aZ w' w.heap.size [(.int .i64 0),(.slice none 0 0)]->aN w w' bJ->w'.heap.size=w.heap.size+1->K (.pointer (some ⟨w.heap.size,0,none⟩)) w'):aA pg (bG 106) w K:=eL (i:=Tryz.t106) aiI rfl hk
theorem fX{b off:Nat}{cs:List aOn}{w:aOm}{xs:Array aOn}{K:aOn->aOm->Prop}(ho:aZ w b cs)(hs:xs.size=2)(hv:∀x∈xs.toList,one x=true)(h:off+2<=cs.length)(hk:∀w',aZ w' b (aT cs off xs.toList)->aN w w' (λx=>x=b)->w'.heap.size=w.heap.size->K undef w'):aA pg (aM 106 (.pointer (some ⟨b,off,none⟩)) (.agg xs)) w K:=gD (v:= .agg xs) aiI ho hs hv h hk
theorem vO{b off:Nat}{cs:List aOn}{w:aOm}(ho:aZ w b cs)(h:off+2<=cs.length):(aH 106 (.pointer (some ⟨b,off,none⟩))).run pg w= .ok (.value (.agg ((cs.drop off).take 2).toArray)) w:=zT Tryz.underlying106 rfl aiI ho h
theorem HX{k:IntKind}{a:Int}(b o:Nat)(w:aOm)(h0:0<=a)(h1:a<3):(aO 108 (.pointer (some ⟨b,o,none⟩)) (.int k a)).run pg w= .ok (.value (.pointer (some ⟨b,o+a.toNat*2,none⟩))) w:=aCo rfl Tryz.underlying108 aiI b o h0 (by simpa using h1)
theorem JQ{b off:Nat}{cs:List aOn}{w:aOm}(ho:aZ w b cs)(h:off+3<=cs.length):(aH 131 (.pointer (some ⟨b,off,none⟩))).run pg w= .ok (.value (.agg ((cs.drop off).take 3).toArray)) w:=zT Tryz.underlying131 rfl apN ho h
theorem Tn{b off:Nat}{cs:List aOn}{w:aOm}(ho:aZ w b cs)(h:off+6<=cs.length):(aH 108 (.pointer (some ⟨b,off,none⟩))).run pg w= .ok (.value (.agg ((cs.drop off).take 6).toArray)) w:=zT Tryz.underlying108 rfl aD9 ho h
theorem nU{ty:TypeId}(x:Option Addr)(n c:Nat)(w:aOm):(dD .len #[137] ty [.slice x n c]).run pg w= .ok (.value (.int .i64 n)) w:=Xv Tryz.underlying137 x n c
theorem lE{k:IntKind}{a:Int}(b o n c:Nat)(w:aOm)(h0:0<=a)(h1:a<n):(aO 137 (.slice (some ⟨b,o,none⟩) n c) (.int k a)).run pg w= .ok (.value (.pointer (some ⟨b,o+a.toNat,none⟩))) w:=UK rfl Tryz.underlying137 YT b o n c h0 h1
theorem dN(n0:Int)(n1:Int)(n2:Int)(n3:Int)(w:aOm):(bH 139 [(0,(.int .i64 n0)),(1,(.int .i64 n1)),(2,(.int .i64 n2)),(3,(.int .i64 n3))]).run pg w= .ok (.value (.agg #[(.int .i64 n0),(.int .i64 n1),(.int .i64 n2),(.int .i64 n3)])) w:=by kernel_rfl
theorem nO{k:IntKind}{a:Int}(cs:Array aOn)(w:aOm)(h0:0<=a)(h1:a<4):(IJ 139 (.agg cs) (.int k a)).run pg w=ldC cs[a.toNat]? w (aD1 pg 139 cs k a w):=aqH Tryz.underlying139 Tryz.underlying3 rfl Cr rfl cs h0 (by simpa using h1)
theorem aiN{b off:Nat}{cs:List aOn}{w:aOm}(ho:aZ w b cs)(h:off+4<=cs.length):(aH 90 (.pointer (some ⟨b,off,none⟩))).run pg w= .ok (.value (.agg ((cs.drop off).take 4).toArray)) w:=zT Tryz.underlying90 rfl aHm ho h
theorem Wf{k:IntKind}{a:Int}(cs:Array aOn)(w:aOm)(h0:0<=a)(h1:a<4):(IJ 90 (.agg cs) (.int k a)).run pg w=ldC cs[a.toNat]? w (aD1 pg 90 cs k a w):=aqH Tryz.underlying90 Tryz.underlying32 rfl aiK rfl cs h0 (by simpa using h1)
theorem IM{b off:Nat}{cs:List aOn}{w:aOm}{v:aOn}{K:aOn->aOm->Prop}(ho:aZ w b cs)(hv:one v=true)(h:off<cs.length)(hk:∀w',aZ w' b (cs.set off v)->aN w w' (λx=>x=b)->w'.heap.size=w.heap.size->K undef w'):aA pg (aM 24 (.pointer (some ⟨b,off,none⟩)) v) w K:=rG aEb rfl ho hv h hk
theorem T5 {k k':IntKind}{hi mx:Int}(a:Option Addr)(n c:Nat)(w:aOm)(h0:0<=hi)(h1:hi<=mx)(h2:mx<=c):(bP 22 (.slice a n c) none (some (.int k hi)) (some (.int k' mx))).run pg w= .ok (.value (.slice (cW a mx.toNat 0 1) (hi.toNat-0) (mx.toNat-0))) w:=azB Tryz.underlying22 Hq a n c h0 h1 h2
theorem sV{b off:Nat}{cs:List aOn}{w:aOm}(ho:aZ w b cs)(h:off+4<=cs.length){K:aOn->Prop}(hk:K (.agg ((cs.drop off).take 4).toArray)):vV pg 101 (.pointer (some ⟨b,off,none⟩)) w K:=F9 Tryz.underlying101 rfl apK ho h hk
theorem EI(w:aOm):(bH 101 []).run pg w= .ok (.value (.agg #[(.int .u64 0),(.int .u64 0),(.bool false),(.bool false)])) w:=by kernel_rfl
theorem CL(b0:Bool)(w:aOm):(bH 101 [(3,(.bool b0))]).run pg w= .ok (.value (.agg #[(.int .u64 0),(.int .u64 0),(.bool false),(.bool b0)])) w:=by kernel_rfl
theorem aGV{b off:Nat}{cs:List aOn}{w:aOm}{v:aOn}{K:aOn->aOm->Prop}(ho:aZ w b cs)(hv:one v=true)(h:off<cs.length)(hk:∀w',aZ w' b (cs.set off v)->aN w w' (λx=>x=b)->w'.heap.size=w.heap.size->K undef w'):aA pg (aM 4 (.pointer (some ⟨b,off,none⟩)) v) w K:=rG aGk rfl ho hv h hk
theorem abN{b off:Nat}{cs:List aOn}{w:aOm}(ho:aZ w b cs)(h:off+4<=cs.length):(aH 101 (.pointer (some ⟨b,off,none⟩))).run pg w= .ok (.value (.agg ((cs.drop off).take 4).toArray)) w:=zT Tryz.underlying101 rfl apK ho h
theorem nE{b off:Nat}{cs:List aOn}{w:aOm}(ho:aZ w b cs)(h:off+10<=cs.length){K:aOn->Prop}(hk:K (.agg ((cs.drop off).take 10).toArray)):vV pg 110 (.pointer (some ⟨b,off,none⟩)) w K:=F9 Tryz.underlying110 rfl apL ho h hk
theorem Nj(w:aOm):(bH 110 []).run pg w= .ok (.value (.agg #[(.slice none 0 0),(.int .i64 0),(.slice none 0 0),(.int .i64 0),(.slice none 0 0),(.int .i64 0),(.slice none 0 0),(.int .u32 0),(.int .u32 0),(.int .u32 0)])) w:=by kernel_rfl
theorem aiJ:(pg).info? 146=some Tryz.t146:=by kernel_rfl
theorem Pb{w:aOm}{K:aOn->aOm->Prop}(hk:∀w',aZ w' w.heap.size [(.int .u8 0),(.int .u8 0),(.int .u8 0),(.int .u8 0)]->aN w w' bJ->w'.heap.size=w.heap.size+1->K (.pointer (some ⟨w.heap.size,0,none⟩)) w'):aA pg (bG 146) w K:=eL (i:=Tryz.t146) aiJ rfl hk
theorem Gj{b off:Nat}{cs:List aOn}{w:aOm}{xs:Array aOn}{K:aOn->aOm->Prop}(ho:aZ w b cs)(hs:xs.size=4)(hv:∀x∈xs.toList,one x=true)(h:off+4<=cs.length)(hk:∀w',aZ w' b (aT cs off xs.toList)->aN w w' (λx=>x=b)->w'.heap.size=w.heap.size->K undef w'):aA pg (aM 146 (.pointer (some ⟨b,off,none⟩)) (.agg xs)) w K:=gD (v:= .agg xs) aiJ ho hs hv h hk
theorem aIa:(pg).info? 116=some Tryz.t116:=by kernel_rfl
theorem GD(b o:Nat)(w:aOm):(aJ 119 (.pointer (some ⟨b,o,none⟩)) 2).run pg w= .ok (.value (.pointer (some ⟨b,o+2,none⟩))) w:=dE (i:=2) Tryz.underlying119 rfl aIa (by decide) _
theorem GH(x:Addr)(w:aOm):(aH 116 (.pointer (some x))).run pg w=ldC (w.cell? x) w (far pg 116 x w):=acD Tryz.underlying116 rfl x w
theorem alI{b off:Nat}{l:List aOn}{w:aOm}(hl:l.length=4)(h:∀j,j<l.length->w.cell? ⟨b,off+j,none⟩=l[j]?):(aH 146 (.pointer (some ⟨b,off,none⟩))).run pg w= .ok (.value (.agg l.toArray)) w:=P1 Tryz.underlying146 rfl aiJ hl.symm h
theorem MC{b off:Nat}{cs:List aOn}{w:aOm}(ho:aZ w b cs)(h:off+4<=cs.length):(aH 146 (.pointer (some ⟨b,off,none⟩))).run pg w= .ok (.value (.agg ((cs.drop off).take 4).toArray)) w:=zT Tryz.underlying146 rfl aiJ ho h
theorem GJ{w:aOm}{m:Nat}{l:List (Rk 4×aOn)}(hm:Mp w m (Yp (n:=4)) l)(k:Rk 4):(avL 116 (.map (some m)) ((Yp (n:=4)) k) true).run pg w= .ok (.value (.tuple #[(assoc k l).getD (.int .i64 0),.bool (assoc k l).isSome])) w:=aIA Tryz.underlying116 Cr rfl (amW (n:=4) Tryz.underlying146 Tryz.underlying5 Hq rfl) hm k
theorem Er(b o:Nat)(w:aOm):(aJ 119 (.pointer (some ⟨b,o,none⟩)) 3).run pg w= .ok (.value (.pointer (some ⟨b,o+3,none⟩))) w:=dE (i:=3) Tryz.underlying119 rfl apM (by decide) _
theorem gS{k:IntKind}{a:Int}(b o n c:Nat)(w:aOm)(h0:0<=a)(h1:a<n):(aO 117 (.slice (some ⟨b,o,none⟩) n c) (.int k a)).run pg w= .ok (.value (.pointer (some ⟨b,o+a.toNat,none⟩))) w:=UK rfl Tryz.underlying117 Cr b o n c h0 h1
theorem TC{w:aOm}{m:Nat}{l:List (Rk 4×aOn)}(hm:Mp w m (Yp (n:=4)) l)(k:Rk 4)(v:aOn){K:aOn->aOm->Prop}(hk:∀w',Mp w' m (Yp (n:=4)) (upd k v l)->aN w w' (λy=>y=m)->w'.heap.size=w.heap.size->K undef w'):aA pg (ajS 116 (.map (some m)) ((Yp (n:=4)) k) v) w K:=aCI Tryz.underlying116 (amW (n:=4) Tryz.underlying146 Tryz.underlying5 Hq rfl) hm k v hk
theorem Et(b o:Nat)(w:aOm):(aJ 119 (.pointer (some ⟨b,o,none⟩)) 4).run pg w= .ok (.value (.pointer (some ⟨b,o+4,none⟩))) w:=dE (i:=4) Tryz.underlying119 rfl Cr (by decide) _
theorem Nk(w:aOm):(bH 45 []).run pg w= .ok (.value (.agg #[(.int .u32 0),(.int .u32 0),(.int .u32 0)])) w:=by kernel_rfl
theorem QU{k:IntKind}{a:Int}(b o:Nat)(w:aOm)(h0:0<=a)(h1:a<3):(aO 45 (.pointer (some ⟨b,o,none⟩)) (.int k a)).run pg w= .ok (.value (.pointer (some ⟨b,o+a.toNat,none⟩))) w:=IS rfl Tryz.underlying45 JO b o h0 (by simpa using h1)
theorem G0 {k k':IntKind}{lo hi:Int}(b o:Nat)(w:aOm)(h0:0<=lo)(h1:lo<=hi)(h2:hi<=3):(bP 45 (.pointer (some ⟨b,o,none⟩)) (some (.int k lo)) (some (.int k' hi)) none).run pg w= .ok (.value (.slice (some (iD ⟨b,o,none⟩ 3 (lo.toNat) 1)) (hi.toNat-lo.toNat) (3-lo.toNat))) w:=WD Tryz.underlying45 JO _ h0 h1 (by simpa using h2)
theorem Kq{k:IntKind}{hi:Int}(b o:Nat)(w:aOm)(h0:0<=hi)(h1:hi<=3):(bP 45 (.pointer (some ⟨b,o,none⟩)) none (some (.int k hi)) none).run pg w= .ok (.value (.slice (some (iD ⟨b,o,none⟩ 3 (0) 1)) (hi.toNat-0) (3-0))) w:=TI Tryz.underlying45 JO _ h0 (by simpa using h1)
theorem aoS{ty:TypeId}{w:aOm}{b off dl c:Nat}{cs:List aOn}(ho:aZ w b cs)(hl:off+dl<=cs.length){v:aOn}{l:List aOn}(h:Sl w v l)(hv:∀x∈l,one x=true){K:aOn->aOm->Prop}(hk:∀w',aZ w' b (aT cs off (l.take (min l.length dl)))->aN w w' (λx=>x=b)->w'.heap.size=w.heap.size->K (.int .i64 (min l.length dl:Nat)) w'):aA pg (dD .copy #[128,128] ty [.slice (some ⟨b,off,none⟩) dl c,v]) w K:=avU Tryz.underlying128 JO rfl ho hl h hv hk
theorem hJ{ty:TypeId}(x:Option Addr)(n c:Nat)(w:aOm):(dD .len #[128] ty [.slice x n c]).run pg w= .ok (.value (.int .i64 n)) w:=Xv Tryz.underlying128 x n c
theorem hZ{k:IntKind}{hi:Int}(a:Option Addr)(n c:Nat)(w:aOm)(h0:0<=hi)(h1:hi<=c):(bP 128 (.slice a n c) none (some (.int k hi)) none).run pg w= .ok (.value (.slice (cW a c (0) 1) (hi.toNat-0) (c-0))) w:=Xw Tryz.underlying128 JO _ n c h0 h1
theorem sW{ty:TypeId}(x:Option Addr)(n c:Nat)(w:aOm):(dD .len #[117] ty [.slice x n c]).run pg w= .ok (.value (.int .i64 n)) w:=Xv Tryz.underlying117 x n c
theorem mL{k:IntKind}(a:Int)(w:aOm):(cH 3 5 (.int k a)).run pg w= .ok (.value (.int .u8 (IntKind.u8.wrap a))) w:=Ap Tryz.underlying3 Tryz.underlying5
theorem aiO{b off:Nat}{cs:List aOn}{w:aOm}(ho:aZ w b cs)(h:off+3<=cs.length){K:aOn->Prop}(hk:K (.agg ((cs.drop off).take 3).toArray)):vV pg 131 (.pointer (some ⟨b,off,none⟩)) w K:=F9 Tryz.underlying131 rfl apN ho h hk
theorem We{k:IntKind}{a:Int}(cs:Array aOn)(w:aOm)(h0:0<=a)(h1:a<3):(IJ 44 (.agg cs) (.int k a)).run pg w=ldC cs[a.toNat]? w (aD1 pg 44 cs k a w):=aqH Tryz.underlying44 Tryz.underlying38 rfl JO rfl cs h0 (by simpa using h1)
theorem aBw{n:Nat}{ps:List (Nat×aOn)}{cells:Array aOn}{w:aOm}(h1:¬n*1>2^24)(h0:¬n*1=0)(hf:Go.Instr.fill (λj=>some (j*1,1)) ((Array.range (n*1)).map ((Tryz.t3.zero.get!).cells[·%(Tryz.t3.zero.get!).cells.size]!)) ps=some cells){K:aOn->aOm->Prop}(hk:∀w',aZ w' w.heap.size cells.toList->aN w w' bJ->w'.heap.size=w.heap.size+1->K (.slice (some ⟨w.heap.size,0,none⟩) n n) w'):aA pg (bT 117 n ps) w K:=Kx (i:=Tryz.t3) Tryz.underlying117 Cr rfl h1 h0 hf hk
theorem aCG{b off:Nat}{cs:List aOn}{w:aOm}{v:aOn}{K:aOn->aOm->Prop}(ho:aZ w b cs)(hv:one v=true)(h:off<cs.length)(hk:∀w',aZ w' b (cs.set off v)->aN w w' (λx=>x=b)->w'.heap.size=w.heap.size->K undef w'):aA pg (aM 117 (.pointer (some ⟨b,off,none⟩)) v) w K:=rG apM rfl ho hv h hk
theorem Ga{b off:Nat}{cs:List aOn}{w:aOm}(ho:aZ w b cs)(h:off+2<=cs.length){K:aOn->Prop}(hk:K (.agg ((cs.drop off).take 2).toArray)):vV pg 106 (.pointer (some ⟨b,off,none⟩)) w K:=F9 Tryz.underlying106 rfl aiI ho h hk
theorem VG(w:aOm):(bH 106 []).run pg w= .ok (.value (.agg #[(.int .i64 0),(.slice none 0 0)])) w:=by kernel_rfl
theorem aIb:(pg).info? 160=some Tryz.t160:=by kernel_rfl
theorem aeM{w:aOm}{K:aOn->aOm->Prop}(hk:∀w',aZ w' w.heap.size [(.int .u32 0),(.int .u32 0),(.int .u32 0),(.int .u32 0),(.int .u32 0),(.int .u32 0),(.int .u32 0),(.int .u32 0),(.int .u32 0),(.int .u32 0),(.int .u32 0),(.int .u32 0),(.int .u32 0),(.int .u32 0),(.int .u32 0),(.int .u32 0),(.int .u32 0),(.int .u32 0),(.int .u32 0),(.int .u32 0),(.int .u32 0),(.int .u32 0),(.int .u32 0),(.int .u32 0),(.int .u32 0),(.int .u32 0),(.int .u32 0),(.int .u32 0),(.int .u32 0),(.int .u32 0),(.int .u32 0),(.int .u32 0),(.int .u32 0),(.int .u32 0),(.int .u32 0),(.int .u32 0),(.int .u32 0),(.int .u32 0),(.int .u32 0),(.int .u32 0),(.int .u32 0),(.int .u32 0),(.int .u32 0),(.int .u32 0),(.int .u32 0),(.int .u32 0),(.int .u32 0),(.int .u32 0),(.int .u32 0),(.int .u32 0),(.int .u32 0),(.int .u32 0),(.int .u32 0),(.int .u32 0),(.int .u32 0),(.int .u32 0),(.int .u32 0),(.int .u32 0),(.int .u32 0),(.int .u32 0),(.int .u32 0),(.int .u32 0),(.int .u32 0),(.int .u32 0),(.int .u32 0),(.int .u32 0),(.int .u32 0),(.int .u32 0),(.int .u32 0),(.int .u32 0),(.int .u32 0),(.int .u32 0),(.int .u32 0),(.int .u32 0),(.int .u32 0),(.int .u32 0),(.int .u32 0),(.int .u32 0),(.int .u32 0),(.int .u32 0),(.int .u32 0),(.int .u32 0),(.int .u32 0),(.int .u32 0),(.int .u32 0),(.int .u32 0),(.int .u32 0),(.int .u32 0),(.int .u32 0),(.int .u32 0),(.int .u32 0),(.int .u32 0),(.int .u32 0),(.int .u32 0),(.int .u32 0),(.int .u32 0),(.int .u32 0),(.int .u32 0),(.int .u32 0),(.int .u32 0),(.int .u32 0),(.int .u32 0),(.int .u32 0),(.int .u32 0),(.int .u32 0),(.int .u32 0),(.int .u32 0),(.int .u32 0),(.int .u32 0),(.int .u32 0),(.int .u32 0),(.int .u32 0),(.int .u32 0),(.int .u32 0),(.int .u32 0),(.int .u32 0),(.int .u32 0),(.int .u32 0),(.int .u32 0),(.int .u32 0),(.int .u32 0),(.int .u32 0),(.int .u32 0),(.int .u32 0),(.int .u32 0),(.int .u32 0),(.int .u32 0),(.int .u32 0),(.int .u32 0),(.int .u32 0),(.int .u32 0),(.int .u32 0),(.int .u32 0),(.int .u32 0),(.int .u32 0),(.int .u32 0),(.int .u32 0),(.int .u32 0),(.int .u32 0),(.int .u32 0),(.int .u32 0),(.int .u32 0),(.int .u32 0),(.int .u32 0),(.int .u32 0),(.int .u32 0),(.int .u32 0),(.int .u32 0),(.int .u32 0),(.int .u32 0),(.int .u32 0),(.int .u32 0),(.int .u32 0),(.int .u32 0),(.int .u32 0),(.int .u32 0),(.int .u32 0),(.int .u32 0),(.int .u32 0),(.int .u32 0),(.int .u32 0),(.int .u32 0),(.int .u32 0),(.int .u32 0),(.int .u32 0),(.int .u32 0),(.int .u32 0),(.int .u32 0),(.int .u32 0),(.int .u32 0),(.int .u32 0),(.int .u32 0),(.int .u32 0),(.int .u32 0),(.int .u32 0),(.int .u32 0),(.int .u32 0),(.int .u32 0),(.int .u32 0),(.int .u32 0),(.int .u32 0),(.int .u32 0),(.int .u32 0),(.int .u32 0),(.int .u32 0),(.int .u32 0),(.int .u32 0),(.int .u32 0),(.int .u32 0),(.int .u32 0),(.int .u32 0),(.int .u32 0),(.int .u32 0),(.int .u32 0),(.int .u32 0),(.int .u32 0),(.int .u32 0),(.int .u32 0),(.int .u32 0),(.int .u32 0),(.int .u32 0),(.int .u32 0),(.int .u32 0),(.int .u32 0),(.int .u32 0),(.int .u32 0),(.int .u32 0),(.int .u32 0),(.int .u32 0),(.int .u32 0),(.int .u32 0),(.int .u32 0),(.int .u32 0),(.int .u32 0),(.int .u32 0),(.int .u32 0),(.int .u32 0),(.int .u32 0),(.int .u32 0),(.int .u32 0),(.int .u32 0),(.int .u32 0),(.int .u32 0),(.int .u32 0),(.int .u32 0),(.int .u32 0),(.int .u32 0),(.int .u32 0),(.int .u32 0),(.int .u32 0),(.int .u32 0),(.int .u32 0),(.int .u32 0),(.int .u32 0),(.int .u32 0),(.int .u32 0),(.int .u32 0),(.int .u32 0),(.int .u32 0),(.int .u32 0),(.int .u32 0),(.int .u32 0),(.int .u32 0),(.int .u32 0),(.int .u32 0),(.int .u32 0),(.int .u32 0),(.int .u32 0),(.int .u32 0),(.int .u32 0),(.int .u32 0),(.int .u32 0),(.int .u32 0),(.int .u32 0),(.int .u32 0),(.int .u32 0)]->aN w w' bJ->w'.heap.size=w.heap.size+1->K (.pointer (some ⟨w.heap.size,0,none⟩)) w'):aA pg (bG 160) w K:=eL (i:=Tryz.t160) aIb rfl hk
theorem QT{k:IntKind}{a:Int}(b o:Nat)(w:aOm)(h0:0<=a)(h1:a<256):(aO 160 (.pointer (some ⟨b,o,none⟩)) (.int k a)).run pg w= .ok (.value (.pointer (some ⟨b,o+a.toNat,none⟩))) w:=IS rfl Tryz.underlying160 JO b o h0 (by simpa using h1)
theorem apP:(pg).info? 162=some Tryz.t162:=by kernel_rfl
theorem kK{w:aOm}{K:aOn->aOm->Prop}(hk:∀w',aZ w' w.heap.size [(.int .i64 0),(.slice none 0 0)]->aN w w' bJ->w'.heap.size=w.heap.size+1->K (.pointer (some ⟨w.heap.size,0,none⟩)) w'):aA pg (bG 162) w K:=eL (i:=Tryz.t162) apP rfl hk
theorem eE{b off:Nat}{cs:List aOn}{w:aOm}{xs:Array aOn}{K:aOn->aOm->Prop}(ho:aZ w b cs)(hs:xs.size=2)(hv:∀x∈xs.toList,one x=true)(h:off+2<=cs.length)(hk:∀w',aZ w' b (aT cs off xs.toList)->aN w w' (λx=>x=b)->w'.heap.size=w.heap.size->K undef w'):aA pg (aM 162 (.pointer (some ⟨b,off,none⟩)) (.agg xs)) w K:=gD (v:= .agg xs) apP ho hs hv h hk
theorem Eu(b o:Nat)(w:aOm):(aJ 162 (.pointer (some ⟨b,o,none⟩)) 1).run pg w= .ok (.value (.pointer (some ⟨b,o+1,none⟩))) w:=dE (i:=1) Tryz.underlying162 rfl apM (by decide) _
theorem fL{b off:Nat}{cs:List aOn}{w:aOm}(ho:aZ w b cs)(h:off+2<=cs.length):(aH 162 (.pointer (some ⟨b,off,none⟩))).run pg w= .ok (.value (.agg ((cs.drop off).take 2).toArray)) w:=zT Tryz.underlying162 rfl apP ho h
theorem Ko{k:IntKind}{hi:Int}(b o:Nat)(w:aOm)(h0:0<=hi)(h1:hi<=256):(bP 160 (.pointer (some ⟨b,o,none⟩)) none (some (.int k hi)) none).run pg w= .ok (.value (.slice (some (iD ⟨b,o,none⟩ 256 (0) 1)) (hi.toNat-0) (256-0))) w:=TI Tryz.underlying160 JO _ h0 (by simpa using h1)
theorem aIc:(pg).info? 172=some Tryz.t172:=by kernel_rfl
theorem awQ{w:aOm}{K:aOn->aOm->Prop}(hk:∀w',aZ w' w.heap.size [(.int .i64 0),(.int .i64 0),(.int .i64 0)]->aN w w' bJ->w'.heap.size=w.heap.size+1->K (.pointer (some ⟨w.heap.size,0,none⟩)) w'):aA pg (bG 172) w K:=eL (i:=Tryz.t172) aIc rfl hk
theorem Ni(n0:Int)(n1:Int)(n2:Int)(w:aOm):(bH 172 [(0,(.int .i64 n0)),(1,(.int .i64 n1)),(2,(.int .i64 n2))]).run pg w= .ok (.value (.agg #[(.int .i64 n0),(.int .i64 n1),(.int .i64 n2)])) w:=by kernel_rfl
theorem aiM{k:IntKind}{a:Int}(cs:Array aOn)(w:aOm)(h0:0<=a)(h1:a<3):(IJ 172 (.agg cs) (.int k a)).run pg w=ldC cs[a.toNat]? w (aD1 pg 172 cs k a w):=aqH Tryz.underlying172 Tryz.underlying3 rfl Cr rfl cs h0 (by simpa using h1)
theorem aiH{k:IntKind}{a:Int}(b o:Nat)(w:aOm)(h0:0<=a)(h1:a<3):(aO 172 (.pointer (some ⟨b,o,none⟩)) (.int k a)).run pg w= .ok (.value (.pointer (some ⟨b,o+a.toNat,none⟩))) w:=IS rfl Tryz.underlying172 Cr b o h0 (by simpa using h1)
theorem aEc:(pg).info? 44=some Tryz.t44:=by kernel_rfl
theorem VE{w:aOm}{K:aOn->aOm->Prop}(hk:∀w',aZ w' w.heap.size [(.int .u32 0),(.int .u32 0),(.int .u32 0)]->aN w w' bJ->w'.heap.size=w.heap.size+1->K (.pointer (some ⟨w.heap.size,0,none⟩)) w'):aA pg (bG 44) w K:=eL (i:=Tryz.t44) aEc rfl hk
theorem T7 {b off:Nat}{cs:List aOn}{w:aOm}{xs:Array aOn}{K:aOn->aOm->Prop}(ho:aZ w b cs)(hs:xs.size=3)(hv:∀x∈xs.toList,one x=true)(h:off+3<=cs.length)(hk:∀w',aZ w' b (aT cs off xs.toList)->aN w w' (λx=>x=b)->w'.heap.size=w.heap.size->K undef w'):aA pg (aM 44 (.pointer (some ⟨b,off,none⟩)) (.agg xs)) w K:=gD (v:= .agg xs) aEc ho hs hv h hk
theorem Wc{k:IntKind}{a:Int}(b o:Nat)(w:aOm)(h0:0<=a)(h1:a<3):(aO 44 (.pointer (some ⟨b,o,none⟩)) (.int k a)).run pg w= .ok (.value (.pointer (some ⟨b,o+a.toNat,none⟩))) w:=IS rfl Tryz.underlying44 JO b o h0 (by simpa using h1)
theorem NY(b o:Nat)(w:aOm):(aJ 106 (.pointer (some ⟨b,o,none⟩)) 0).run pg w= .ok (.value (.pointer (some ⟨b,o,none⟩))) w:=dE (i:=0) Tryz.underlying106 rfl Cr (by decide) _
theorem GR{ox oy:Operand}(x:Option Addr)(w:aOm):(aD .neq 60 ox oy (.pointer x) (.pointer none)).run pg w= .ok (.value (.bool (!x.isNone))) w:=aIB Tryz.underlying60 x
theorem QX{b off:Nat}{cs:List aOn}{w:aOm}(ho:aZ w b cs)(h:off+3<=cs.length){K:aOn->Prop}(hk:K (.agg ((cs.drop off).take 3).toArray)):vV pg 65 (.pointer (some ⟨b,off,none⟩)) w K:=F9 Tryz.underlying65 rfl aAQ ho h hk
theorem Hc(w:aOm):(bH 65 []).run pg w= .ok (.value (.agg #[(.bool false),(.int .i64 0),(.int .i64 0)])) w:=by kernel_rfl
theorem SG{k:IntKind}(a:Int)(w:aOm):(cH 50 3 (.int k a)).run pg w= .ok (.value (.int .i64 (IntKind.i64.wrap a))) w:=Ap Tryz.underlying50 Tryz.underlying3
theorem Wi{b off:Nat}{cs:List aOn}{w:aOm}(ho:aZ w b cs)(h:off+4<=cs.length){K:aOn->Prop}(hk:K (.agg ((cs.drop off).take 4).toArray)):vV pg 146 (.pointer (some ⟨b,off,none⟩)) w K:=F9 Tryz.underlying146 rfl aiJ ho h hk
theorem LB(b o:Nat)(w:aOm):(aJ 119 (.pointer (some ⟨b,o,none⟩)) 0).run pg w= .ok (.value (.pointer (some ⟨b,o,none⟩))) w:=dE (i:=0) Tryz.underlying119 rfl YT (by decide) _
theorem VF(w:aOm):(bH 146 []).run pg w= .ok (.value (.agg #[(.int .u8 0),(.int .u8 0),(.int .u8 0),(.int .u8 0)])) w:=by kernel_rfl
theorem ZF{w:aOm}(x:Option Addr)(n c:Nat)(h:4<=n):(aGN 146 (.slice x n c)).run pg w= .ok (.value (.pointer x)) w:=aJU Tryz.underlying146 x n c h
theorem Jt(b o:Nat)(w:aOm):(aJ 119 (.pointer (some ⟨b,o,none⟩)) 1).run pg w= .ok (.value (.pointer (some ⟨b,o+1,none⟩))) w:=dE (i:=1) Tryz.underlying119 rfl Cr (by decide) _
theorem aiP{b off:Nat}{cs:List aOn}{w:aOm}(ho:aZ w b cs)(h:off+3<=cs.length){K:aOn->Prop}(hk:K (.agg ((cs.drop off).take 3).toArray)):vV pg 44 (.pointer (some ⟨b,off,none⟩)) w K:=F9 Tryz.underlying44 rfl aEc ho h hk
theorem HF(n0:Int)(n1:Int)(n2:Int)(w:aOm):(bH 44 [(0,(.int .u32 n0)),(1,(.int .u32 n1)),(2,(.int .u32 n2))]).run pg w= .ok (.value (.agg #[(.int .u32 n0),(.int .u32 n1),(.int .u32 n2)])) w:=by kernel_rfl
theorem lO{b off:Nat}{cs:List aOn}{w:aOm}(ho:aZ w b cs)(h:off+2<=cs.length){K:aOn->Prop}(hk:K (.agg ((cs.drop off).take 2).toArray)):vV pg 162 (.pointer (some ⟨b,off,none⟩)) w K:=F9 Tryz.underlying162 rfl apP ho h hk
theorem axX:(pg).info? 190=some Tryz.t190:=by kernel_rfl
theorem apT{b off:Nat}{l:List aOn}{w:aOm}(hl:l.length=36)(h:∀j,j<l.length->w.cell? ⟨b,off+j,none⟩=l[j]?):(aH 190 (.pointer (some ⟨b,off,none⟩))).run pg w= .ok (.value (.agg l.toArray)) w:=P1 Tryz.underlying190 rfl axX hl.symm h
theorem asC{w:aOm}{K:aOn->aOm->Prop}(hk:∀w',aZ w' w.heap.size [(.int .i64 0),(.int .i64 0),(.int .i64 0),(.int .i64 0),(.int .i64 0),(.int .i64 0),(.int .i64 0),(.int .i64 0),(.int .i64 0),(.int .i64 0),(.int .i64 0),(.int .i64 0),(.int .i64 0),(.int .i64 0),(.int .i64 0),(.int .i64 0),(.int .i64 0),(.int .i64 0),(.int .i64 0),(.int .i64 0),(.int .i64 0),(.int .i64 0),(.int .i64 0),(.int .i64 0),(.int .i64 0),(.int .i64 0),(.int .i64 0),(.int .i64 0),(.int .i64 0),(.int .i64 0),(.int .i64 0),(.int .i64 0),(.int .i64 0),(.int .i64 0),(.int .i64 0),(.int .i64 0)]->aN w w' bJ->w'.heap.size=w.heap.size+1->K (.pointer (some ⟨w.heap.size,0,none⟩)) w'):aA pg (bG 190) w K:=eL (i:=Tryz.t190) axX rfl hk
theorem aqV{b off:Nat}{cs:List aOn}{w:aOm}{xs:Array aOn}{K:aOn->aOm->Prop}(ho:aZ w b cs)(hs:xs.size=36)(hv:∀x∈xs.toList,one x=true)(h:off+36<=cs.length)(hk:∀w',aZ w' b (aT cs off xs.toList)->aN w w' (λx=>x=b)->w'.heap.size=w.heap.size->K undef w'):aA pg (aM 190 (.pointer (some ⟨b,off,none⟩)) (.agg xs)) w K:=gD (v:= .agg xs) axX ho hs hv h hk
theorem HA(b o:Nat)(w:aOm):(bP 190 (.pointer (some ⟨b,o,none⟩)) none none none).run pg w= .ok (.value (.slice (some (iD ⟨b,o,none⟩ 36 (0) 1)) (36-0) (36-0))) w:=Ds Tryz.underlying190 Cr _
theorem kX(n0:Int)(a1:Option Addr)(l1 c1:Nat)(w:aOm):(bH 162 [(0,(.int .i64 n0)),(1,(.slice a1 l1 c1))]).run pg w= .ok (.value (.agg #[(.int .i64 n0),(.slice a1 l1 c1)])) w:=by kernel_rfl
theorem axY:(pg).info? 191=some Tryz.t191:=by kernel_rfl
theorem apS{b off:Nat}{l:List aOn}{w:aOm}(hl:l.length=29)(h:∀j,j<l.length->w.cell? ⟨b,off+j,none⟩=l[j]?):(aH 191 (.pointer (some ⟨b,off,none⟩))).run pg w= .ok (.value (.agg l.toArray)) w:=P1 Tryz.underlying191 rfl axY hl.symm h
theorem asA{w:aOm}{K:aOn->aOm->Prop}(hk:∀w',aZ w' w.heap.size [(.int .i64 0),(.int .i64 0),(.int .i64 0),(.int .i64 0),(.int .i64 0),(.int .i64 0),(.int .i64 0),(.int .i64 0),(.int .i64 0),(.int .i64 0),(.int .i64 0),(.int .i64 0),(.int .i64 0),(.int .i64 0),(.int .i64 0),(.int .i64 0),(.int .i64 0),(.int .i64 0),(.int .i64 0),(.int .i64 0),(.int .i64 0),(.int .i64 0),(.int .i64 0),(.int .i64 0),(.int .i64 0),(.int .i64 0),(.int .i64 0),(.int .i64 0),(.int .i64 0)]->aN w w' bJ->w'.heap.size=w.heap.size+1->K (.pointer (some ⟨w.heap.size,0,none⟩)) w'):aA pg (bG 191) w K:=eL (i:=Tryz.t191) axY rfl hk
theorem aqU{b off:Nat}{cs:List aOn}{w:aOm}{xs:Array aOn}{K:aOn->aOm->Prop}(ho:aZ w b cs)(hs:xs.size=29)(hv:∀x∈xs.toList,one x=true)(h:off+29<=cs.length)(hk:∀w',aZ w' b (aT cs off xs.toList)->aN w w' (λx=>x=b)->w'.heap.size=w.heap.size->K undef w'):aA pg (aM 191 (.pointer (some ⟨b,off,none⟩)) (.agg xs)) w K:=gD (v:= .agg xs) axY ho hs hv h hk
theorem Hz(b o:Nat)(w:aOm):(bP 191 (.pointer (some ⟨b,o,none⟩)) none none none).run pg w= .ok (.value (.slice (some (iD ⟨b,o,none⟩ 29 (0) 1)) (29-0) (29-0))) w:=Ds Tryz.underlying191 Cr _
theorem axZ:(pg).info? 192=some Tryz.t192:=by kernel_rfl
theorem apU{b off:Nat}{l:List aOn}{w:aOm}(hl:l.length=53)(h:∀j,j<l.length->w.cell? ⟨b,off+j,none⟩=l[j]?):(aH 192 (.pointer (some ⟨b,off,none⟩))).run pg w= .ok (.value (.agg l.toArray)) w:=P1 Tryz.underlying192 rfl axZ hl.symm h
theorem asD{w:aOm}{K:aOn->aOm->Prop}(hk:∀w',aZ w' w.heap.size [(.int .i64 0),(.int .i64 0),(.int .i64 0),(.int .i64 0),(.int .i64 0),(.int .i64 0),(.int .i64 0),(.int .i64 0),(.int .i64 0),(.int .i64 0),(.int .i64 0),(.int .i64 0),(.int .i64 0),(.int .i64 0),(.int .i64 0),(.int .i64 0),(.int .i64 0),(.int .i64 0),(.int .i64 0),(.int .i64 0),(.int .i64 0),(.int .i64 0),(.int .i64 0),(.int .i64 0),(.int .i64 0),(.int .i64 0),(.int .i64 0),(.int .i64 0),(.int .i64 0),(.int .i64 0),(.int .i64 0),(.int .i64 0),(.int .i64 0),(.int .i64 0),(.int .i64 0),(.int .i64 0),(.int .i64 0),(.int .i64 0),(.int .i64 0),(.int .i64 0),(.int .i64 0),(.int .i64 0),(.int .i64 0),(.int .i64 0),(.int .i64 0),(.int .i64 0),(.int .i64 0),(.int .i64 0),(.int .i64 0),(.int .i64 0),(.int .i64 0),(.int .i64 0),(.int .i64 0)]->aN w w' bJ->w'.heap.size=w.heap.size+1->K (.pointer (some ⟨w.heap.size,0,none⟩)) w'):aA pg (bG 192) w K:=eL (i:=Tryz.t192) axZ rfl hk
theorem aqW{b off:Nat}{cs:List aOn}{w:aOm}{xs:Array aOn}{K:aOn->aOm->Prop}(ho:aZ w b cs)(hs:xs.size=53)(hv:∀x∈xs.toList,one x=true)(h:off+53<=cs.length)(hk:∀w',aZ w' b (aT cs off xs.toList)->aN w w' (λx=>x=b)->w'.heap.size=w.heap.size->K undef w'):aA pg (aM 192 (.pointer (some ⟨b,off,none⟩)) (.agg xs)) w K:=gD (v:= .agg xs) axZ ho hs hv h hk
theorem HB(b o:Nat)(w:aOm):(bP 192 (.pointer (some ⟨b,o,none⟩)) none none none).run pg w= .ok (.value (.slice (some (iD ⟨b,o,none⟩ 53 (0) 1)) (53-0) (53-0))) w:=Ds Tryz.underlying192 Cr _
theorem lL(w:aOm):(bH 162 []).run pg w= .ok (.value (.agg #[(.int .i64 0),(.slice none 0 0)])) w:=by kernel_rfl
theorem Sh(n0:Int)(w:aOm):(bH 194 [(0,(.int .u8 n0))]).run pg w= .ok (.value (.agg #[(.int .u8 n0),(.int .i64 0),(.int .i64 0)])) w:=by kernel_rfl
theorem abJ:(pg).info? 194=some Tryz.t194:=by kernel_rfl
theorem aeQ{n:Nat}{ps:List (Nat×aOn)}{cells:Array aOn}{w:aOm}(h1:¬n*3>2^24)(h0:¬n*3=0)(hf:Go.Instr.fill (λj=>some (j*3,3)) ((Array.range (n*3)).map ((Tryz.t194.zero.get!).cells[·%(Tryz.t194.zero.get!).cells.size]!)) ps=some cells){K:aOn->aOm->Prop}(hk:∀w',aZ w' w.heap.size cells.toList->aN w w' bJ->w'.heap.size=w.heap.size+1->K (.slice (some ⟨w.heap.size,0,none⟩) n n) w'):aA pg (bT 104 n ps) w K:=Kx (i:=Tryz.t194) Tryz.underlying104 abJ rfl h1 h0 hf hk
theorem Si(a0:Option Addr)(l0 c0:Nat)(w:aOm):(bH 106 [(1,(.slice a0 l0 c0))]).run pg w= .ok (.value (.agg #[(.int .i64 0),(.slice a0 l0 c0)])) w:=by kernel_rfl
theorem GF(b o:Nat)(w:aOm):(aJ 162 (.pointer (some ⟨b,o,none⟩)) 0).run pg w= .ok (.value (.pointer (some ⟨b,o,none⟩))) w:=dE (i:=0) Tryz.underlying162 rfl Cr (by decide) _
theorem Nl(n0:Int)(a1:Option Addr)(l1 c1:Nat)(w:aOm):(bH 106 [(0,(.int .i64 n0)),(1,(.slice a1 l1 c1))]).run pg w= .ok (.value (.agg #[(.int .i64 n0),(.slice a1 l1 c1)])) w:=by kernel_rfl
theorem aH9:(pg).info? 104=some Tryz.t104:=by kernel_rfl
theorem GC(b o:Nat)(w:aOm):(aJ 106 (.pointer (some ⟨b,o,none⟩)) 1).run pg w= .ok (.value (.pointer (some ⟨b,o+1,none⟩))) w:=dE (i:=1) Tryz.underlying106 rfl aH9 (by decide) _
theorem QW(x:Addr)(w:aOm):(aH 104 (.pointer (some x))).run pg w=ldC (w.cell? x) w (far pg 104 x w):=acD Tryz.underlying104 rfl x w
theorem Q0 {ty:TypeId}(x:Option Addr)(n c:Nat)(w:aOm):(dD .len #[104] ty [.slice x n c]).run pg w= .ok (.value (.int .i64 n)) w:=Xv Tryz.underlying104 x n c
theorem QV{k:IntKind}{a:Int}(b o n c:Nat)(w:aOm)(h0:0<=a)(h1:a<n):(aO 104 (.slice (some ⟨b,o,none⟩) n c) (.int k a)).run pg w= .ok (.value (.pointer (some ⟨b,o+a.toNat*3,none⟩))) w:=acC rfl Tryz.underlying104 abJ b o n c h0 h1
theorem HU(b o:Nat)(w:aOm):(aJ 194 (.pointer (some ⟨b,o,none⟩)) 0).run pg w= .ok (.value (.pointer (some ⟨b,o,none⟩))) w:=dE (i:=0) Tryz.underlying194 rfl Hq (by decide) _
theorem LA(b o:Nat)(w:aOm):(aJ 194 (.pointer (some ⟨b,o,none⟩)) 1).run pg w= .ok (.value (.pointer (some ⟨b,o+1,none⟩))) w:=dE (i:=1) Tryz.underlying194 rfl Cr (by decide) _
theorem Lz(b o:Nat)(w:aOm):(aJ 194 (.pointer (some ⟨b,o,none⟩)) 2).run pg w= .ok (.value (.pointer (some ⟨b,o+2,none⟩))) w:=dE (i:=2) Tryz.underlying194 rfl Cr (by decide) _
theorem Qu(w:aOm):(bH 201 []).run pg w= .ok (.value (.agg #[(.slice none 0 0),(.int .i64 0)])) w:=by kernel_rfl
theorem Wg{b off:Nat}{cs:List aOn}{w:aOm}(ho:aZ w b cs)(h:off+3<=cs.length):(aH 194 (.pointer (some ⟨b,off,none⟩))).run pg w= .ok (.value (.agg ((cs.drop off).take 3).toArray)) w:=zT Tryz.underlying194 rfl abJ ho h
theorem X2 {w:aOm}{K:aOn->aOm->Prop}(hk:∀w',aZ w' w.heap.size [(.int .u8 0),(.int .i64 0),(.int .i64 0)]->aN w w' bJ->w'.heap.size=w.heap.size+1->K (.pointer (some ⟨w.heap.size,0,none⟩)) w'):aA pg (bG 194) w K:=eL (i:=Tryz.t194) abJ rfl hk
theorem WG{b off:Nat}{cs:List aOn}{w:aOm}{xs:Array aOn}{K:aOn->aOm->Prop}(ho:aZ w b cs)(hs:xs.size=3)(hv:∀x∈xs.toList,one x=true)(h:off+3<=cs.length)(hk:∀w',aZ w' b (aT cs off xs.toList)->aN w w' (λx=>x=b)->w'.heap.size=w.heap.size->K undef w'):aA pg (aM 194 (.pointer (some ⟨b,off,none⟩)) (.agg xs)) w K:=gD (v:= .agg xs) abJ ho hs hv h hk
theorem Kc{ox oy:Operand}(x:Option Addr)(w:aOm):(aD .eql 170 ox oy (.pointer x) (.pointer none)).run pg w= .ok (.value (.bool x.isNone)) w:=aqJ Tryz.underlying170 x
theorem NX(b o:Nat)(w:aOm):(aJ 201 (.pointer (some ⟨b,o,none⟩)) 1).run pg w= .ok (.value (.pointer (some ⟨b,o+1,none⟩))) w:=dE (i:=1) Tryz.underlying201 rfl Cr (by decide) _
theorem NW(b o:Nat)(w:aOm):(aJ 201 (.pointer (some ⟨b,o,none⟩)) 0).run pg w= .ok (.value (.pointer (some ⟨b,o,none⟩))) w:=dE (i:=0) Tryz.underlying201 rfl YT (by decide) _
theorem Qc{k:IntKind}{hi:Int}(a:Option Addr)(n c:Nat)(w:aOm)(h0:0<=hi)(h1:hi<=c):(bP 117 (.slice a n c) none (some (.int k hi)) none).run pg w= .ok (.value (.slice (cW a c (0) 1) (hi.toNat-0) (c-0))) w:=Xw Tryz.underlying117 Cr _ n c h0 h1
theorem I3 (a0:Option Addr)(l0 c0:Nat)(n1:Int)(w:aOm):(bH 201 [(0,(.slice a0 l0 c0)),(1,(.int .i64 n1))]).run pg w= .ok (.value (.agg #[(.slice a0 l0 c0),(.int .i64 n1)])) w:=by kernel_rfl
theorem fQ{k:IntKind}(a:Int)(w:aOm):(cH 50 38 (.int k a)).run pg w= .ok (.value (.int .u32 (IntKind.u32.wrap a))) w:=Ap Tryz.underlying50 Tryz.underlying38
theorem SF{k:IntKind}(a:Int)(w:aOm):(cH 38 50 (.int k a)).run pg w= .ok (.value (.int .u64 (IntKind.u64.wrap a))) w:=Ap Tryz.underlying38 Tryz.underlying50
theorem sT{k:IntKind}{a:Int}(x:ByteArray)(w:aOm)(h0:0<=a)(h1:a.toNat<x.size):(IJ 9 (.string x) (.int k a)).run pg w= .ok (.value (.int .u8 (x[a.toNat]'h1).toNat)) w:=aIz Tryz.underlying9 x h0 h1
theorem apO:(pg).info? 139=some Tryz.t139:=by kernel_rfl
theorem agU{w:aOm}{K:aOn->aOm->Prop}(hk:∀w',aZ w' w.heap.size [(.int .i64 0),(.int .i64 0),(.int .i64 0),(.int .i64 0)]->aN w w' bJ->w'.heap.size=w.heap.size+1->K (.pointer (some ⟨w.heap.size,0,none⟩)) w'):aA pg (bG 139) w K:=eL (i:=Tryz.t139) apO rfl hk
theorem aeD{b off:Nat}{cs:List aOn}{w:aOm}{xs:Array aOn}{K:aOn->aOm->Prop}(ho:aZ w b cs)(hs:xs.size=4)(hv:∀x∈xs.toList,one x=true)(h:off+4<=cs.length)(hk:∀w',aZ w' b (aT cs off xs.toList)->aN w w' (λx=>x=b)->w'.heap.size=w.heap.size->K undef w'):aA pg (aM 139 (.pointer (some ⟨b,off,none⟩)) (.agg xs)) w K:=gD (v:= .agg xs) apO ho hs hv h hk
theorem atT{b off:Nat}{cs:List aOn}{w:aOm}(ho:aZ w b cs)(h:off+4<=cs.length):(aH 139 (.pointer (some ⟨b,off,none⟩))).run pg w= .ok (.value (.agg ((cs.drop off).take 4).toArray)) w:=zT Tryz.underlying139 rfl apO ho h
theorem ayA:(pg).info? 231=some Tryz.t231:=by kernel_rfl
theorem apQ{b off:Nat}{l:List aOn}{w:aOm}(hl:l.length=20)(h:∀j,j<l.length->w.cell? ⟨b,off+j,none⟩=l[j]?):(aH 231 (.pointer (some ⟨b,off,none⟩))).run pg w= .ok (.value (.agg l.toArray)) w:=P1 Tryz.underlying231 rfl ayA hl.symm h
theorem arY{w:aOm}{K:aOn->aOm->Prop}(hk:∀w',aZ w' w.heap.size [(.int .i64 0),(.int .i64 0),(.int .i64 0),(.int .i64 0),(.int .i64 0),(.int .i64 0),(.int .i64 0),(.int .i64 0),(.int .i64 0),(.int .i64 0),(.int .i64 0),(.int .i64 0),(.int .i64 0),(.int .i64 0),(.int .i64 0),(.int .i64 0),(.int .i64 0),(.int .i64 0),(.int .i64 0),(.int .i64 0)]->aN w w' bJ->w'.heap.size=w.heap.size+1->K (.pointer (some ⟨w.heap.size,0,none⟩)) w'):aA pg (bG 231) w K:=eL (i:=Tryz.t231) ayA rfl hk
theorem aqS{b off:Nat}{cs:List aOn}{w:aOm}{xs:Array aOn}{K:aOn->aOm->Prop}(ho:aZ w b cs)(hs:xs.size=20)(hv:∀x∈xs.toList,one x=true)(h:off+20<=cs.length)(hk:∀w',aZ w' b (aT cs off xs.toList)->aN w w' (λx=>x=b)->w'.heap.size=w.heap.size->K undef w'):aA pg (aM 231 (.pointer (some ⟨b,off,none⟩)) (.agg xs)) w K:=gD (v:= .agg xs) ayA ho hs hv h hk
theorem Hx(b o:Nat)(w:aOm):(bP 231 (.pointer (some ⟨b,o,none⟩)) none none none).run pg w= .ok (.value (.slice (some (iD ⟨b,o,none⟩ 20 (0) 1)) (20-0) (20-0))) w:=Ds Tryz.underlying231 Cr _
theorem ayB:(pg).info? 232=some Tryz.t232:=by kernel_rfl
theorem apR{b off:Nat}{l:List aOn}{w:aOm}(hl:l.length=21)(h:∀j,j<l.length->w.cell? ⟨b,off+j,none⟩=l[j]?):(aH 232 (.pointer (some ⟨b,off,none⟩))).run pg w= .ok (.value (.agg l.toArray)) w:=P1 Tryz.underlying232 rfl ayB hl.symm h
theorem arZ{w:aOm}{K:aOn->aOm->Prop}(hk:∀w',aZ w' w.heap.size [(.int .i64 0),(.int .i64 0),(.int .i64 0),(.int .i64 0),(.int .i64 0),(.int .i64 0),(.int .i64 0),(.int .i64 0),(.int .i64 0),(.int .i64 0),(.int .i64 0),(.int .i64 0),(.int .i64 0),(.int .i64 0),(.int .i64 0),(.int .i64 0),(.int .i64 0),(.int .i64 0),(.int .i64 0),(.int .i64 0),(.int .i64 0)]->aN w w' bJ->w'.heap.size=w.heap.size+1->K (.pointer (some ⟨w.heap.size,0,none⟩)) w'):aA pg (bG 232) w K:=eL (i:=Tryz.t232) ayB rfl hk
theorem aqT{b off:Nat}{cs:List aOn}{w:aOm}{xs:Array aOn}{K:aOn->aOm->Prop}(ho:aZ w b cs)(hs:xs.size=21)(hv:∀x∈xs.toList,one x=true)(h:off+21<=cs.length)(hk:∀w',aZ w' b (aT cs off xs.toList)->aN w w' (λx=>x=b)->w'.heap.size=w.heap.size->K undef w'):aA pg (aM 232 (.pointer (some ⟨b,off,none⟩)) (.agg xs)) w K:=gD (v:= .agg xs) ayB ho hs hv h hk
theorem Hy(b o:Nat)(w:aOm):(bP 232 (.pointer (some ⟨b,o,none⟩)) none none none).run pg w= .ok (.value (.slice (some (iD ⟨b,o,none⟩ 21 (0) 1)) (21-0) (21-0))) w:=Ds Tryz.underlying232 Cr _
theorem fW{k:IntKind}(a:Int)(w:aOm):(cH 38 5 (.int k a)).run pg w= .ok (.value (.int .u8 (IntKind.u8.wrap a))) w:=Ap Tryz.underlying38 Tryz.underlying5
theorem abS{k:IntKind}{n:Int}{w:aOm}{K:aOn->aOm->Prop}(h0:0<=n)(hn:24*n<=2^48)(hk:∀w',aZ w' w.heap.size (HZ n.toNat [(.int .u8 0),(.int .i64 0),(.int .i64 0)])->aN w w' bJ->w'.heap.size=w.heap.size+1->K (.slice (some ⟨w.heap.size,0,none⟩) n.toNat n.toNat) w'):aA pg (iX 104 (.int k n) (.int k n)) w K:=anU (i:=Tryz.t194) Tryz.underlying104 abJ rfl (by decide) rfl rfl h0 hn (by omega) hk
theorem NG{k:IntKind}(a:Int)(w:aOm):(cH 32 38 (.int k a)).run pg w= .ok (.value (.int .u32 (IntKind.u32.wrap a))) w:=Ap Tryz.underlying32 Tryz.underlying38
theorem ayC:(pg).info? 241=some Tryz.t241:=by kernel_rfl
theorem Vg{k:IntKind}{n:Int}{w:aOm}{K:aOn->aOm->Prop}(h0:0<=n)(hn:16*n<=2^48)(hk:∀w',aZ w' w.heap.size (HZ n.toNat [(.int .i64 0),(.int .i64 0)])->aN w w' bJ->w'.heap.size=w.heap.size+1->K (.slice (some ⟨w.heap.size,0,none⟩) n.toNat n.toNat) w'):aA pg (iX 225 (.int k n) (.int k n)) w K:=anU (i:=Tryz.t241) Tryz.underlying225 ayC rfl (by decide) rfl rfl h0 hn (by omega) hk
theorem eK(n0:Int)(n1:Int)(w:aOm):(bH 241 [(0,(.int .i64 n0)),(1,(.int .i64 n1))]).run pg w= .ok (.value (.agg #[(.int .i64 n0),(.int .i64 n1)])) w:=by kernel_rfl
theorem dO{k:IntKind}{a:Int}(b o n c:Nat)(w:aOm)(h0:0<=a)(h1:a<n):(aO 225 (.slice (some ⟨b,o,none⟩) n c) (.int k a)).run pg w= .ok (.value (.pointer (some ⟨b,o+a.toNat*2,none⟩))) w:=acC rfl Tryz.underlying225 ayC b o n c h0 h1
theorem acT{b off:Nat}{cs:List aOn}{w:aOm}{xs:Array aOn}{K:aOn->aOm->Prop}(ho:aZ w b cs)(hs:xs.size=2)(hv:∀x∈xs.toList,one x=true)(h:off+2<=cs.length)(hk:∀w',aZ w' b (aT cs off xs.toList)->aN w w' (λx=>x=b)->w'.heap.size=w.heap.size->K undef w'):aA pg (aM 241 (.pointer (some ⟨b,off,none⟩)) (.agg xs)) w K:=gD (v:= .agg xs) ayC ho hs hv h hk
theorem YX{b off:Nat}{cs:List aOn}{w:aOm}(ho:aZ w b cs){v:aOn}(h:cs[off]?=some v){K:aOn->Prop}(hk:K v):vV pg 22 (.pointer (some ⟨b,off,none⟩)) w K:=aAT Tryz.underlying22 rfl ho h hk
theorem Wh{b off:Nat}{cs:List aOn}{w:aOm}(ho:aZ w b cs){v:aOn}(h:cs[off]?=some v){K:aOn->Prop}(hk:K v):vV pg 24 (.pointer (some ⟨b,off,none⟩)) w K:=aAT Tryz.underlying24 rfl ho h hk
theorem aoG{w:aOm}{K:aOn->aOm->Prop}(hk:∀w',aZ w' w.heap.size [(.int .i64 0)]->aN w w' bJ->w'.heap.size=w.heap.size+1->K (.pointer (some ⟨w.heap.size,0,none⟩)) w'):aA pg (bG 24) w K:=eL (i:=Tryz.t24) aEb rfl hk
theorem aEa:(pg).info? 170=some Tryz.t170:=by kernel_rfl
theorem Z7 {w:aOm}{K:aOn->aOm->Prop}(hk:∀w',aZ w' w.heap.size [(.pointer none)]->aN w w' bJ->w'.heap.size=w.heap.size+1->K (.pointer (some ⟨w.heap.size,0,none⟩)) w'):aA pg (bG 170) w K:=eL (i:=Tryz.t170) aEa rfl hk
theorem acS{b off:Nat}{cs:List aOn}{w:aOm}{v:aOn}{K:aOn->aOm->Prop}(ho:aZ w b cs)(hv:one v=true)(h:off<cs.length)(hk:∀w',aZ w' b (cs.set off v)->aN w w' (λx=>x=b)->w'.heap.size=w.heap.size->K undef w'):aA pg (aM 170 (.pointer (some ⟨b,off,none⟩)) v) w K:=rG aEa rfl ho hv h hk
theorem nQ(x:Addr)(w:aOm):(aH 225 (.pointer (some x))).run pg w=ldC (w.cell? x) w (far pg 225 x w):=acD Tryz.underlying225 rfl x w
theorem nV{ty:TypeId}(x:Option Addr)(n c:Nat)(w:aOm):(dD .len #[225] ty [.slice x n c]).run pg w= .ok (.value (.int .i64 n)) w:=Xv Tryz.underlying225 x n c
theorem qE(b o:Nat)(w:aOm):(aJ 241 (.pointer (some ⟨b,o,none⟩)) 0).run pg w= .ok (.value (.pointer (some ⟨b,o,none⟩))) w:=dE (i:=0) Tryz.underlying241 rfl Cr (by decide) _
theorem nD(x:Addr)(w:aOm):(aH 170 (.pointer (some x))).run pg w=ldC (w.cell? x) w (far pg 170 x w):=acD Tryz.underlying170 rfl x w
theorem yJ(b o:Nat)(w:aOm):(aJ 241 (.pointer (some ⟨b,o,none⟩)) 1).run pg w= .ok (.value (.pointer (some ⟨b,o+1,none⟩))) w:=dE (i:=1) Tryz.underlying241 rfl Cr (by decide) _
theorem atU{b off:Nat}{cs:List aOn}{w:aOm}(ho:aZ w b cs)(h:off+4<=cs.length){K:aOn->Prop}(hk:K (.agg ((cs.drop off).take 4).toArray)):vV pg 139 (.pointer (some ⟨b,off,none⟩)) w K:=F9 Tryz.underlying139 rfl apO ho h hk
end Go.Proofs.YtoecppploooloaaGreatDoor
namespace Go.En
open Go Go.ChangeShapes Go.WideShapes Go.ChangeAt Go.RowKit
theorem alW{H:Type}{enc:TypeId×aOn->H}{P:Program}(hl:laidOutB P=true){W W':aOm}(hb:Below W.heap.size W W'):∀(ts:List TypeId) (vs:List aOn) (ds:List (DataW H)) (ps:List MemPlace),
 (ts.all λt=>P.readableRec t&&decide (t<P.types.size))=true->DataW.TrodAll enc P W 0 (λ_=>true) true ts vs ds ps->(∀x∈ps,x.block<W.heap.size)→
 DataW.TrodAll enc P W' 0 (λb=>decide (b<W.heap.size)) true ts vs ds ps:=by
 intro ts
 induction ts with
 |nil=>
  intro vs ds ps _ h _
  cases vs<;>cases ds<;>simp[DataW.TrodAll]at h⊢
  exact h
 |cons t ts ih=>
  intro vs ds ps hr h hlt
  cases vs with
  |nil=>simp[DataW.TrodAll]at h
  |cons v vs=>
   cases ds with
   |nil=>simp[DataW.TrodAll]at h
   |cons d ds=>
    obtain⟨p,q,h1,h2,rfl⟩:=h
    rw[List.all_cons,aLQ,aLQ,decide_eq_true_eq]at hr
    exact⟨p,q,Below.trod hl hr.1.1 hr.1.2 h1 hb (λx hx=>hlt x (aNs _ hx)),ih _ _ _ hr.2 h2 (λx hx=>hlt x (aNT _ hx)),rfl⟩
theorem aEh{H:Type}{enc:TypeId×aOn->H}{P:Program}{f:Func}{s:ChangeSpec}{apart fresh handsOn:Bool}{tb:TypeId}{W W':aOm}{args:Array aOn}{ds gs:List (DataW H)}{before:List MemPlace}
 (hl:laidOutB P=true) (hr:(f.params.toList.all λt=>P.readableRec t&&decide (t<P.types.size))=true) (hres:f.resultTypes= #[tb]) (hbool:P.underlying tb=some .bool)
 (hW:DataW.Whole enc P f.params.toList s.vars apart W args.toList ds gs before) (hvars:s.vars=[]) (h1:(s.fn H (ds++gs)).results=[.lit (.bool true)]) (h2:(s.fn H (ds++gs)).args=ds) (h3:(s.fn H (ds++gs)).vars=[])
 (hx:aN W W' bJ):s.post enc P f apart fresh handsOn false W args (.bool true) W':=by
 have hb:=hx.below
 have hlt:∀x∈before,x.block<W.heap.size:=λx hx=>hW.lt x hx
 have hW':=hW
 obtain⟨p,q,hA,hV,rfl,_,_⟩:=hW
 rw[hvars]at hV
 obtain⟨_,rfl⟩:=trodVars_none hV
 rw[aMf]at hW' hlt
 refine⟨ds,gs,p,[],p,[],hW', ?_, ?_, ?_,hb.frame _,λh=>by cases h⟩
 .rw [h1,hres]
  exact trodAll_cons_mk (shut_bool hbool _) trodAll_mk0
 .rw [h2];exact alW hl hb _ _ _ _ hr hA hlt
 .rw [h3,hvars]<;>rfl
theorem aGz{H:Type}{enc:TypeId×aOn->H}{P:Program}{W:aOm}{base b0:Nat}{r:Reach}{sp:Nat->Bool}{hd:Bool}{t e:TypeId}{k:IntKind}{v:aOn}{d:DataW H}{ps:List MemPlace}(ht:P.underlying t=some (.slice e))(he:P.underlying e=some (.int k))(hc:P.cellsOf e=1)
 (hval:Value.okWide P W r b0 t v) (h:DataW.Trod enc P W base sp hd t v d ps):
 ∃zs:List Int,Sl W v (zs.map (Value.int k))/\zs.length<=9223372036854775807/\∀z∈zs,(Lit.int k z).wf=true:=by
 obtain⟨a0,len,cap,rfl⟩:=okWide_slice ht hval
 obtain⟨fuel,hf⟩:=h
 rcases open_ints ht he hc hf with⟨hcs,-⟩|⟨a,len',cap',zs,hcs,_,hl,hm,hz,-,hcell,hwz⟩
 .have:Value.slice a0 len cap= .slice none 0 0:=by simpa[Value.cells]using hcs
  cases this
  exact⟨[],⟨none,0,0,rfl,rfl,aLA _,λh=>absurd h (by simp)⟩,by simp,by simp⟩
 .have:Value.slice a0 len cap= .slice (some a) len' cap':=by simpa[Value.cells]using hcs
  cases this
  unfold maxLen at hm
  have hle:len<=zs.length:=by rw[hz];split<;>omega
  refine⟨zs.take len,⟨some a,len,cap,rfl,by rw[aLv,aLD];omega,hl,λh0=> ?_⟩,by rw[aLD];omega,λz hz=>hwz z (aMx hz)⟩
  obtain⟨b,off,spot⟩:=a
  have hs:spot=none:=by
   have h0:=hcell 0 (by omega)
   unfold World.cell? at h0
   split at h0
   .cases spot
    .rfl
    .simp [Addr.add]at h0
   .cases h0
  subst hs
  refine⟨b,off,rfl,λi hi=> ?_⟩
  rw[<-CG,hcell i (by omega),aLR,aLX hi,aLz,aLt (by omega)]
  rfl
theorem aFb(zs:List Int)(h:∀z∈zs,(Lit.int .u8 z).wf=true):∃l:List UInt8,zs.map (Value.int .u8)=l.map dR/\l.length=zs.length:=by
 refine⟨zs.map λz=>UInt8.ofNat z.toNat, ?_,by simp⟩
 rw[List.map_map]
 refine aME λz hz=> ?_
 have:=h z hz
 have hx:0<=z/\z<=255:=by simpa[Lit.wf,IntKind.min,IntKind.max,IntKind.signed,IntKind.bits]using this
 show _=dR (UInt8.ofNat z.toNat)
 unfold dR
 rw[aNN]
 congr 1
 omega
end Go.En
namespace Go.Proofs.YtoecppploooloaaGreatDoor
open Go Go.En
theorem aAm{P:Program}{s:Sem Next}{w:aOm}{K:aOn->aOm->Prop}:aA P s w K=anT P (s.run P w) K:=Eq.trans rfl rfl
theorem arW{P:Program}{s:Sem Next}{v:aOn}{w:aOm}:dT P s v w=(s.run P w= .ok (.value v) w):=Eq.trans rfl rfl
theorem SV:type_of%(And.intro @aAm<|And.intro @arW<|And.intro @aF<|And.intro @stepR_skip<|And.intro @gN<|And.intro @A8<|And.intro @TH<|And.intro @WC<|And.intro @Zu<|And.intro @Cg<|And.intro @aqI<|And.intro @Zv<|And.intro @Dq<|And.intro @HY<|And.intro @nZ<|And.intro @mD<|And.intro @Dr<|And.intro @fM<|And.intro @TG<|And.intro @tA<|And.intro @Af<|And.intro @WA<|And.intro @Zq<|And.intro @WB<|And.intro @jX<|And.intro @Zs<|And.intro @Zr<|And.intro @Zt<|And.intro @x20<|And.intro @x21<|And.intro @x30<|And.intro @x31<|And.intro @x32<|And.intro @x40<|And.intro @x41<|And.intro @x42<|And.intro @x43<|And.intro @cQ<|And.intro @Result.ok.injEq<|And.intro @Next.value.injEq<|And.intro @true_and<|And.intro @and_true<|And.intro @cX<|And.intro @gP<|And.intro @ZQ<|And.intro @LR<|And.intro @ZR<|And.intro @Qg<|And.intro @aLx<|And.intro @wE<|And.intro @Dj<|And.intro @yK<|And.intro @Ao<|And.intro @jF<|And.intro @gF<|And.intro @Iz<|And.intro @CF<|And.intro @bD<|And.intro @aR<|And.intro @if_true.{1}<|And.intro @if_false.{1}<|And.intro @aLF<|And.intro @aLI<|And.intro @aMT.{0}<|And.intro @aMS.{0}<|And.intro @aMy<|And.intro @aMD<|And.intro @aLw.{0}<|And.intro @aLu.{0}<|And.intro @dY<|And.intro @fK<|And.intro @VN<|And.intro @lF<|And.intro @gA<|And.intro @qX<|And.intro @eD<|And.intro @fB<|And.intro @HN<|And.intro @iO<|And.intro @FX<|And.intro @Ea<|And.intro @OO<|And.intro @yC<|And.intro @HO<|And.intro @HQ<|And.intro @D9<|And.intro @Ly<|And.intro @JP<|And.intro @gU<|And.intro @C5<|And.intro @sU<|And.intro @Eo<|And.intro @Li<|And.intro @GQ<|And.intro @Js<|And.intro @mW<|And.intro @nT<|And.intro @JM<|And.intro @AZ<|And.intro @iP<|And.intro @VO<|And.intro @Em<|And.intro @C4<|And.intro @HP<|And.intro @aAU<|And.intro @D8<|And.intro @VH<|And.intro @Q7<|And.intro @QK<|And.intro @anB<|And.intro @NZ<|And.intro @VU<|And.intro @ON<|And.intro @fS<|And.intro @VV<|And.intro @Wd<|And.intro @Kp<|And.intro @OM<|And.intro @yL<|And.intro @Qx<|And.intro @I4<|And.intro @GP<|And.intro @Jq<|And.intro @Jr<|And.intro @YW<|And.intro @mN<|And.intro @C6<|And.intro @Ep<|And.intro @GB<|And.intro @GA<|And.intro @Lj<|And.intro @HS<|And.intro @Ac<|And.intro @AX<|And.intro @D6<|And.intro @Lh<|And.intro @dX<|And.intro @Wb<|And.intro @anA<|And.intro @HX<|And.intro @nU<|And.intro @lE<|And.intro @dN<|And.intro @nO<|And.intro @Wf<|And.intro @T5<|And.intro @EI<|And.intro @CL<|And.intro @Nj<|And.intro @GD<|And.intro @GH<|And.intro @Er<|And.intro @gS<|And.intro @Et<|And.intro @Nk<|And.intro @QU<|And.intro @G0<|And.intro @Kq<|And.intro @hJ<|And.intro @hZ<|And.intro @sW<|And.intro @mL<|And.intro @We<|And.intro @VG<|And.intro @QT<|And.intro @Eu<|And.intro @Ko<|And.intro @Ni<|And.intro @aiM<|And.intro @aiH<|And.intro @Wc<|And.intro @NY<|And.intro @GR<|And.intro @Hc<|And.intro @SG<|And.intro @LB<|And.intro @VF<|And.intro @ZF<|And.intro @Jt<|And.intro @HF<|And.intro @HA<|And.intro @kX<|And.intro @Hz<|And.intro @HB<|And.intro @lL<|And.intro @Sh<|And.intro @Si<|And.intro @GF<|And.intro @Nl<|And.intro @GC<|And.intro @QW<|And.intro @Q0<|And.intro @QV<|And.intro @HU<|And.intro @LA<|And.intro @Lz<|And.intro @Qu<|And.intro @Kc<|And.intro @NX<|And.intro @NW<|And.intro @Qc<|And.intro @I3<|And.intro @fQ<|And.intro @SF<|And.intro @sT<|And.intro @Hx<|And.intro @Hy<|And.intro @fW<|And.intro @NG<|And.intro @eK<|And.intro @dO<|And.intro @nQ<|And.intro @nV<|And.intro @qE<|And.intro @nD<| @yJ):=⟨@aAm, @arW, @aF, @stepR_skip, @gN, @A8, @TH, @WC, @Zu, @Cg, @aqI, @Zv, @Dq, @HY, @nZ, @mD, @Dr, @fM, @TG, @tA, @Af, @WA, @Zq, @WB, @jX, @Zs, @Zr, @Zt, @x20, @x21, @x30, @x31, @x32, @x40, @x41, @x42, @x43, @cQ, @Result.ok.injEq, @Next.value.injEq, @true_and, @and_true, @cX, @gP, @ZQ, @LR, @ZR, @Qg, @aLx, @wE, @Dj, @yK, @Ao, @jF, @gF, @Iz, @CF, @bD, @aR, @if_true.{1}, @if_false.{1}, @aLF, @aLI, @aMT.{0}, @aMS.{0}, @aMy, @aMD, @aLw.{0}, @aLu.{0}, @dY, @fK, @VN, @lF, @gA, @qX, @eD, @fB, @HN, @iO, @FX, @Ea, @OO, @yC, @HO, @HQ, @D9, @Ly, @JP, @gU, @C5, @sU, @Eo, @Li, @GQ, @Js, @mW, @nT, @JM, @AZ, @iP, @VO, @Em, @C4, @HP, @aAU, @D8, @VH, @Q7, @QK, @anB, @NZ, @VU, @ON, @fS, @VV, @Wd, @Kp, @OM, @yL, @Qx, @I4, @GP, @Jq, @Jr, @YW, @mN, @C6, @Ep, @GB, @GA, @Lj, @HS, @Ac, @AX, @D6, @Lh, @dX, @Wb, @anA, @HX, @nU, @lE, @dN, @nO, @Wf, @T5, @EI, @CL, @Nj, @GD, @GH, @Er, @gS, @Et, @Nk, @QU, @G0, @Kq, @hJ, @hZ, @sW, @mL, @We, @VG, @QT, @Eu, @Ko, @Ni, @aiM, @aiH, @Wc, @NY, @GR, @Hc, @SG, @LB, @VF, @ZF, @Jt, @HF, @HA, @kX, @Hz, @HB, @lL, @Sh, @Si, @GF, @Nl, @GC, @QW, @Q0, @QV, @HU, @LA, @Lz, @Qu, @Kc, @NX, @NW, @Qc, @I3, @fQ, @SF, @sT, @Hx, @Hy, @fW, @NG, @eK, @dO, @nQ, @nV, @qE, @nD, @yJ⟩
end Go.Proofs.YtoecppploooloaaGreatDoor
namespace Go.Pu
def bW(p:Int):Int:=if p<0 then 1 else p
def fits:Int->List Int->Bool
 |left,[]=>left==0
 |left,p::r=>if p< -1∨left<bW p then false else fits (left-bW p) r
def xV(ps:List Int):Int:=(ps.map bW).sum
def aAM(log:Int)(ps:List Int):Bool:=decide (5<=log/\log<=15/\1<=ps.length/\ps.length<=256/\ps.getLast?≠some 0)
def apV(log:Int)(ps:List Int):Bool:=aAM log ps&&fits (2^log.toNat) ps
theorem vQ(p:Int)(ps:List Int):xV (p::ps)=bW p+xV ps:=by simp[xV]
theorem LQ(a b:List Int):xV (a++b)=xV a+xV b:=by simp[xV]
theorem mX{p:Int}(h: -1<=p):0<=bW p:=by unfold bW;split<;>omega
theorem G7 {ps:List Int}(h:∀p∈ps,-1<=p):0<=xV ps:=by
 induction ps with
 |nil=>simp[xV]
 |cons p r ih=>
  rw[vQ]
  have:=mX (h p (by simp))
  have:=ih λq hq=>h q (aLN _ hq)
  omega
theorem atA:∀{ps:List Int} {left:Int},fits left ps=true↔(∀p∈ps,-1<=p)/\xV ps=left
 |[],left=>by simp[fits,xV];constructor<;>intro h<;>omega
 |p::r,left=>by
  rw[fits,vQ]
  by_cases h:p< -1∨left<bW p
  .rw [if_pos h]
   constructor
   .intro h;cases h
   .rintro ⟨h1,h2⟩
    have hp:=h1 p (by simp)
    have:=G7 (ps:=r) λq hq=>h1 q (aLN _ hq)
    omega
  .rw [if_neg h,atA]
   constructor
   .rintro ⟨h1,h2⟩
    exact⟨λq hq=>by rcases aMd.1 hq with rfl|hq;·omega
                    .exact h1 q hq,by omega⟩
   .rintro ⟨h1,h2⟩
    exact⟨λq hq=>h1 q (aLN _ hq),by omega⟩
structure WS(log:Nat)(ps:List Int):Prop where
 log5:5<=log
 log15:log<=15
 len1:1<=ps.length
 len256:ps.length<=256
 last:ps.getLast?≠some 0
 low:∀p∈ps,-1<=p
 sum:xV ps=2^log
theorem WS.b {log:Nat}{ps:List Int}(h:WS log ps):apV log ps=true:=by
 unfold apV aAM
 simp only[aLQ,decide_eq_true_eq]
 have h1:=h.log5
 have h2:=h.log15
 refine⟨⟨by omega,by omega,h.len1,h.len256,h.last⟩, ?_⟩
 rw[atA,aLx]
 exact⟨h.low,h.sum⟩
theorem aEF{log:Nat}(h:log<=15):(2:Int)^log<=32768:=by
 have:2^log<=2^15:=aLG (by omega) h
 have e:((2^log:Nat):Int)=(2:Int)^log:=by simp
 omega
theorem aEG(log:Nat):(1:Int)<=2^log:=by
 have:1<=2^log:=aN4
 have e:((2^log:Nat):Int)=(2:Int)^log:=by simp
 omega
theorem aqF{ps:List Int}(h:∀p∈ps,-1<=p){p:Int}(hp:p∈ps):bW p<=xV ps:=by
 induction ps with
 |nil=>cases hp
 |cons q r ih=>
  rw[vQ]
  have h0:=mX (h q (by simp))
  have h1:=G7 (ps:=r) λq hq=>h q (aLN _ hq)
  rcases aMd.1 hp with rfl|hp
  .omega
  .have:=ih (λq hq=>h q (aLN _ hq)) hp
   omega
def adv(n a:Nat):Nat:=(a+n/2+n/8+3)%n
def acR(n high:Nat):Nat->Nat->Nat
 |0,a=>a
 |f+1,a=>if a<high then a else acR n high f (adv n a)
def akE:List Int->Nat->Nat->List Int->Nat×List Int
 |[],_,high,arr=>(high,arr)
 |p::r,s,high,arr=>if p= -1 then akE r (s+1) (high-1) (arr.set (high-1) s)else akE r (s+1) high arr
def rH:List Int->Nat->List Nat
 |[],_=>[]
 |p::r,s=>List.replicate p.toNat s++rH r (s+1)
def place(n high:Nat):List Nat->Nat->List Int->List Int
 |[],_,arr=>arr
 |s::r,a,arr=>place n high r (acR n high n (adv n a)) (arr.set a s)
def dF(x0:Int)(log:Nat)(ps:List Int):List Int:=
 place (2^log) (akE ps 0 (2^log) (List.replicate (2^log) x0)).1 (rH ps 0) 0 (akE ps 0 (2^log) (List.replicate (2^log) x0)).2
def pos(n j:Nat):Nat:=(j*(n/2+n/8+3))%n
theorem UC(n j:Nat):adv n (pos n j)=pos n (j+1):=by
 unfold adv pos
 rw[aMM,aMM,Nat.mod_add_mod,aMl,Nat.one_mul,aMM]
theorem aGw{s:Nat}(hs:s%2=1):∀(k x:Nat),2^k∣s*x->2^k∣x:=by
 intro k
 induction k with
 |zero=>intro x _;simp
 |succ k ih=>
  intro x h
  have h2:2∣s*x:=Nat.dvd_trans ⟨2^k,by rw[aMe,aMb]⟩ h
  have hx:x%2=0:=by
   have:(s*x)%2=0:=Nat.mod_eq_zero_of_dvd h2
   rw[Nat.mul_mod,hs,Nat.one_mul,Nat.mod_mod]at this
   exact this
  obtain⟨y,rfl⟩:∃y,x=2*y:=⟨x/2,by omega⟩
  rw[aMe,aMb (2^k) 2,show s*(2*y)=2*(s*y)by rw[Nat.mul_left_comm]]at h
  rw[aMe,aMb (2^k) 2]
  exact Nat.mul_dvd_mul_left 2 (ih y (Nat.dvd_of_mul_dvd_mul_left (by omega) h))
theorem aEZ{log:Nat}(h:5<=log):(2^log/2+2^log/8+3)%2=1:=by
 obtain⟨k,rfl⟩:∃k,log=k+5:=⟨log-5,by omega⟩
 have:2^(k+5)=32*2^k:=by rw[aMF,aMb]
 omega
theorem aGH{log:Nat}(h:5<=log){i j:Nat}(hij:i<j)(hj:j<2^log):pos (2^log) i≠pos (2^log) j:=by
 unfold pos
 generalize hst:2^log/2+2^log/8+3=st
 have hodd:st%2=1:=by rw[<-hst];exact aEZ h
 intro e
 have hle:i*st<=j*st:=aL1 _ (by omega)
 have hd:2^log∣st*(j-i):=by
  rw[aMb,Nat.sub_mul]
  exact Nat.dvd_of_mod_eq_zero (Nat.sub_mod_eq_zero_of_mod_eq e.symm)
 have:=Nat.le_of_dvd (by omega) (aGw hodd _ _ hd)
 omega
theorem aEo:∀(n:Nat) (l:List Nat),l.Nodup->(∀a∈l,a<n)->l.length<=n:=by
 intro n
 induction n with
 |zero=>intro l _ h;cases l with
  |nil=>simp
  |cons a r=>exact absurd (h a (by simp)) (by omega)
 |succ n ih=>
  intro l hd h
  by_cases hn:n∈l
  .have:=ih (l.erase n) (hd.erase n) (λa ha=>by
    have h1:=h a (List.mem_of_mem_erase ha)
    have h2:a≠n:=λe=>by subst e;exact hd.not_mem_erase ha
    omega)
   rw[aN2 hn]at this
   omega
  .have:=ih l hd (λa ha=>by
    have h1:=h a ha
    have h2:a≠n:=λe=>by subst e;exact hn ha
    omega)
   omega
theorem aB9 {n:Nat}{l:List Nat}(hd:l.Nodup)(h:∀a∈l,a<n)(hl:l.length=n){a:Nat}(ha:a<n):a∈l:=by
 refine Classical.byContradiction λhn=> ?_
 have:=aEo n (a::l) (aN1.2 ⟨hn,hd⟩) (λb hb=>(aMd.1 hb).elim (λe=>e▸ha) (h b))
 simp at this;omega
def gV(n high j:Nat):List Nat:=((List.range' j (n-j)).map (pos n)).filter (·<high)
theorem Ud{n high j:Nat}(h:j<n):gV n high j=if pos n j<high then pos n j::gV n high (j+1)else gV n high (j+1):=by
 unfold gV
 rw[show n-j=(n-(j+1))+1 from by omega,aOd,aL7,aNC]
 simp
theorem ZO(n high:Nat):gV n high n=[]:=by unfold gV;simp
theorem ayY{n:Nat}(h:0<n)(j:Nat):pos n j<n:=aNM _ h
theorem ajJ(n:Nat):pos n 0=0:=by simp[pos]
theorem aJT(n:Nat):pos n n=0:=by simp[pos,Nat.mul_mod_right]
theorem aCB{n high:Nat}(hh:0<high):∀(d j f:Nat),j+d=n->d<=f->acR n high f (pos n j)=(gV n high j).headD 0:=by
 intro d
 induction d with
 |zero=>
  intro j f hj _
  obtain rfl:j=n:=by omega
  rw[ZO,aJT]
  cases f with
  |zero=>rfl
  |succ f=>unfold acR;rw[if_pos hh]<;>rfl
 |succ d ih=>
  intro j f hj hf
  obtain⟨f,rfl⟩:∃g,f=g+1:=⟨f-1,by omega⟩
  rw[Ud (by omega)]
  unfold acR
  split
  .rfl
  .rw [UC];exact ih (j+1) f (by omega) (by omega)
def setAt:List (Nat×Nat)->List Int->List Int
 |[],arr=>arr
 |(q,s)::r,arr=>setAt r (arr.set q s)
theorem ayW{n high:Nat}(hh:0<high):∀(syms:List Nat) (j a:Nat) (arr:List Int),j<=n->syms.length<=(gV n high j).length->(syms≠[]->(gV n high j).headD 0=a)→
 place n high syms a arr=setAt ((gV n high j).zip syms) arr:=by
 intro syms
 induction syms with
 |nil=>intro j a arr _ _ _;simp[place,setAt]
 |cons s r ih=>
  intro j a arr hj hlen ha
  have ha:=ha (by simp)
  have key:∀(d j:Nat),j+d=n->(s::r).length<=(gV n high j).length->(gV n high j).headD 0=a->∃i,i<n/\j<=i/\pos n i=a/\gV n high j=a::gV n high (i+1):=by
   intro d
   induction d with
   |zero=>
    intro j hj hl _
    obtain rfl:j=n:=by omega
    rw[ZO]at hl;simp at hl
   |succ d ihd=>
    intro j hj hl hd
    have e:=Ud (high:=high) (show j<n by omega)
    by_cases hp:pos n j<high
    .rw [if_pos hp]at e
     rw[e]at hd
     have:pos n j=a:=hd
     exact⟨j,by omega,aLA _,this,by rw[e,this]⟩
    .rw [if_neg hp]at e
     rw[e]at hl hd⊢
     obtain⟨i,h1,h2,h3,h4⟩:=ihd (j+1) (by omega) hl hd
     exact⟨i,h1,by omega,h3,h4⟩
  obtain⟨i,h1,h2,h3,h4⟩:=key (n-j) j (by omega) hlen ha
  rw[h4]at hlen⊢
  simp only[aLS]at hlen
  rw[place,List.zip_cons_cons,setAt]
  refine ih (i+1) _ _ (by omega) (by omega) (λhr=> ?_)
  rw[<-h3,UC]
  exact(aCB hh (n-(i+1)) (i+1) n (by omega) (by omega)).symm
def sZ:List Int->Nat->List Nat
 |[],_=>[]
 |p::r,s=>if p= -1 then s::sZ r (s+1)else sZ r (s+1)
def toI(l:List Nat):List Int:=l.map Int.ofNat
theorem anY:∀(ps:List Int) (s high:Nat) (arr:List Int),(sZ ps s).length<=high->high<=arr.length→
 akE ps s high arr=(high-(sZ ps s).length,arr.take (high-(sZ ps s).length)++toI (sZ ps s).reverse++arr.drop high):=by
 intro ps
 induction ps with
 |nil=>intro s high arr h1 h2;simp[akE,sZ,toI]
 |cons p r ih=>
  intro s high arr h1 h2
  unfold akE sZ
  unfold sZ at h1
  by_cases hp:p= -1
  .rw [if_pos hp,if_pos hp]
   rw[if_pos hp]at h1
   simp only[aLS]at h1⊢
   rw[ih (s+1) (high-1) _ (by omega) (by simp;omega)]
   congr 1
   .omega
   .have hlt:high-1<arr.length:=by omega
    rw[List.take_set_of_le (by omega),show high-1-(sZ r (s+1)).length=high-((sZ r (s+1)).length+1)from by omega]
    have:(arr.set (high-1) (s:Int)).drop (high-1)=(s:Int)::arr.drop high:=by
     rw[aL8 (by simp;omega)]
     simp only[aOf]
     rw[show high-1+1=high from by omega,List.drop_set_of_lt (by omega)]
    rw[this]
    simp[toI]
  .rw [if_neg hp,if_neg hp]
   rw[if_neg hp]at h1
   exact ih (s+1) high arr h1 h2
theorem ZG:∀(l:List (Nat×Nat)) (arr:List Int),(setAt l arr).length=arr.length
 |[],_=>rfl
 |(q,s)::r,arr=>by rw[setAt,ZG];simp
theorem T2 {q:Nat}:∀(l:List (Nat×Nat)) (arr:List Int),(∀x∈l,x.1≠q)->(setAt l arr)[q]?=arr[q]?
 |[],_,_=>rfl
 |(a,s)::r,arr,h=>by
  rw[setAt,T2 r _ λx hx=>h x (aLN _ hx),List.getElem?_set_ne (h (a,s) (by simp))]
theorem aCC:∀(us:List Nat) (ss:List Nat) (arr:List Int) (t:Nat),us.Nodup->us.length=ss.length->(∀q∈us,q<arr.length)->(ht:t<us.length)->(ht':t<ss.length)→
 (setAt (us.zip ss) arr)[us[t]]?=some (ss[t]:Int):=by
 intro us
 induction us with
 |nil=>intro ss arr t _ _ _ ht;simp at ht
 |cons u us ih=>
  intro ss arr t hd hl hb ht ht'
  cases ss with
  |nil=>simp at hl
  |cons x ss=>
   obtain⟨h1,h2⟩:=aN1.1 hd
   rw[List.zip_cons_cons,setAt]
   cases t with
   |zero=>
    simp only[aNk]
    rw[T2 _ _ (λy hy=>λe=>h1 (by have:=(List.of_mem_zip (a:=y.1) (b:=y.2) hy).1;rw[e]at this;exact this))]
    have:u<arr.length:=hb u (by simp)
    simp[this]
   |succ t=>
    simp only[aMJ]
    exact ih ss _ t h2 (by simpa using hl) (λq hq=>by simpa using hb q (aLN _ hq)) (by simpa using ht) (by simpa using ht')
theorem ajG:∀(n:Nat) (l:List Nat),l.Nodup->(∀a∈l,a<n)->l.length=n->l.Perm (List.range n):=by
 intro n
 induction n with
 |zero=>intro l _ _ h;rw[aMc.1 h];exact List.Perm.refl _
 |succ n ih=>
  intro l hd h hl
  have hn:n∈l:=aB9 hd h hl (by omega)
  have p1:=List.perm_cons_erase hn
  have p2:=ih (l.erase n) (hd.erase n) (λa ha=>by
   have h1:=h a (List.mem_of_mem_erase ha)
   have h2:a≠n:=λe=>by subst e;exact hd.not_mem_erase ha
   omega) (by rw[aN2 hn];omega)
  rw[aOh]
  exact p1.trans ((p2.cons n).trans (List.perm_append_singleton n _).symm)
theorem avC:∀(ps:List Int) (s:Nat),(∀p∈ps,-1<=p)->((rH ps s).length:Int)+(sZ ps s).length=xV ps:=by
 intro ps
 induction ps with
 |nil=>intro s _;simp[rH,sZ,xV]
 |cons p r ih=>
  intro s h
  have:=ih (s+1) λq hq=>h q (aLN _ hq)
  have hp:=h p (by simp)
  rw[vQ]
  unfold rH sZ bW
  by_cases h1:p= -1
  .rw [if_pos h1,if_pos (by omega)];subst h1;simp;omega
  .rw [if_neg h1,if_neg (by omega)];simp;omega
theorem azF:∀(ps:List Int) (s i:Nat),(rH ps s).count (s+i)=if h:i<ps.length then ps[i].toNat else 0:=by
 intro ps
 induction ps with
 |nil=>intro s i;simp[rH]
 |cons p r ih=>
  intro s i
  have low:∀(ps:List Int) (s a:Nat),a<s->(rH ps s).count a=0:=by
   intro ps
   induction ps with
   |nil=>intro s a _;simp[rH]
   |cons p r ih=>
    intro s a h
    unfold rH
    rw[aMO,ih (s+1) a (by omega),List.count_replicate]
    simp;omega
  unfold rH
  rw[aMO,List.count_replicate]
  cases i with
  |zero=>rw[aL3,low r (s+1) s (by omega)];simp
  |succ i=>
   rw[show s+(i+1)=s+1+i from by omega,ih (s+1) i]
   have:(s==s+1+i)=false:=by simp;omega
   rw[this];simp
theorem ayH:∀(ps:List Int) (s i:Nat),(sZ ps s).count (s+i)=if h:i<ps.length then(if ps[i]= -1 then 1 else 0)else 0:=by
 intro ps
 induction ps with
 |nil=>intro s i;simp[sZ]
 |cons p r ih=>
  intro s i
  have low:∀(ps:List Int) (s a:Nat),a<s->(sZ ps s).count a=0:=by
   intro ps
   induction ps with
   |nil=>intro s a _;simp[sZ]
   |cons p r ih=>
    intro s a h
    unfold sZ
    split
    .rw [aM9,ih (s+1) a (by omega)];simp;omega
    .exact ih (s+1) a (by omega)
  unfold sZ
  cases i with
  |zero=>
   rw[aL3]
   by_cases h:p= -1
   .rw [if_pos h,aM9,low r (s+1) s (by omega)];simp[h]
   .rw [if_neg h,low r (s+1) s (by omega)];simp[h]
  |succ i=>
   have e:s+(i+1)=s+1+i:=by omega
   by_cases h:p= -1
   .rw [if_pos h,aM9,e,ih (s+1) i]
    have:(s==s+1+i)=false:=by simp;omega
    rw[this];simp
   .rw [if_neg h,e,ih (s+1) i];simp
theorem aGq:∀(ps:List Int) (s i:Nat) (h:i<ps.length),ps[i]= -1->(sZ ps s)[(ps.take i).count (-1)]?=some (s+i):=by
 intro ps
 induction ps with
 |nil=>intro s i h;simp at h
 |cons p r ih=>
  intro s i h hp
  unfold sZ
  cases i with
  |zero=>simp only[aNk]at hp;rw[if_pos hp];simp
  |succ i=>
   simp only[aMJ]at hp
   have:=ih (s+1) i (by simpa using h) hp
   rw[aLC,aM9]
   by_cases h1:p= -1
   .rw [if_pos h1];simp only[h1,beq_self_eq_true,if_true,aLw];rw[this];congr 1;omega
   .rw [if_neg h1]
    have:(p== -1)=false:=by simpa using h1
    rw[this];simp only[aLF,if_false,aL3]
    rw[‹(sZ r (s+1))[_]?=_›];congr 1;omega
theorem alX{log high:Nat}(hl:5<=log)(hh:high<=2^log):(gV (2^log) high 0).Nodup/\(∀a∈gV (2^log) high 0,a<high)/\(gV (2^log) high 0).length=high:=by
 have hn:0<2^log:=aLZ log
 have hnd:((List.range (2^log)).map (pos (2^log))).Nodup:=by
  rw[List.nodup_iff_pairwise_ne,List.pairwise_map]
  refine List.pairwise_iff_getElem.2 λi j hi hj hij=> ?_
  simp only[aNQ]at hi hj
  simp only[aMR]
  exact aGH hl hij hj
 have hp:=ajG (2^log) _ hnd (λa ha=>by
  obtain⟨j,_,rfl⟩:=aL5.1 ha
  exact ayY hn j) (by simp)
 unfold gV
 rw[aM0,<-List.range_eq_range']
 refine⟨hnd.filter _,λa ha=>by simpa using(aN0.1 ha).2, ?_⟩
 rw[(hp.filter _).length_eq]
 have:∀m:Nat,high<=m->((List.range m).filter (·<high)).length=high:=by
  intro m
  induction m with
  |zero=>intro h;simp;omega
  |succ m ih=>
   intro h
   rw[aOh,List.filter_append,aLs]
   by_cases hm:high<=m
   .rw [ih hm];simp;omega
   .have:high=m+1:=by omega
    subst this
    have:(List.range m).filter (λx=>decide (x<m+1))=List.range m:=List.filter_eq_self.2 λa ha=>by have:=aMs.1 ha;simp;omega
    rw[this];simp
 exact this _ hh
structure Lay(log:Nat)(ps:List Int)(S:List Int):Prop where
 len:S.length=2^log
 cnt:∀s (h:s<ps.length),S.count (s:Int)=(bW ps[s]).toNat
 rng:∀x∈S,∃s:Nat,s<ps.length/\x=s
 top:∀s (h:s<ps.length),ps[s]= -1->S[2^log-1-(ps.take s).count (-1)]?=some (s:Int)
theorem anW(l:List Nat)(s:Nat):(toI l).count (s:Int)=l.count s:=by
 induction l with
 |nil=>rfl
 |cons a r ih=>
  show List.count _ (Int.ofNat a::toI r)=_
  rw[aM9,aM9,ih]
  congr 1
  by_cases h:a=s
  .subst h;simp
  .simp [h];omega
theorem aEN:∀(ps:List Int) (s:Nat),∀x∈rH ps s,s<=x/\x<s+ps.length:=by
 intro ps
 induction ps with
 |nil=>intro s x h;simp[rH]at h
 |cons p r ih=>
  intro s x h
  unfold rH at h
  rcases aMq.1 h with h|h
  .have:=(List.mem_replicate.1 h).2;simp;omega
  .have:=ih (s+1) x h;simp;omega
theorem aEn:∀(ps:List Int) (s:Nat),∀x∈sZ ps s,s<=x/\x<s+ps.length:=by
 intro ps
 induction ps with
 |nil=>intro s x h;simp[sZ]at h
 |cons p r ih=>
  intro s x h
  unfold sZ at h
  split at h
  .rcases aMd.1 h with rfl|h
   .simp
   .have:=ih (s+1) x h;simp;omega
  .have:=ih (s+1) x h;simp;omega
theorem avO{log:Nat}{ps:List Int}(h:WS log ps)(x0:Int):
 ∃low:List Int,dF x0 log ps=low++toI (sZ ps 0).reverse/\low.Perm (toI (rH ps 0))/\((sZ ps 0).length+low.length=2^log)/\
  (∀t (h1:t<(gV (2^log) (rH ps 0).length 0).length) (h2:t<(rH ps 0).length),low[(gV (2^log) (rH ps 0).length 0)[t]]?=some ((rH ps 0)[t]:Int)):=by
 have hrl:=avC ps 0 h.low
 rw[h.sum]at hrl
 have hpow:((2^log:Nat):Int)=(2:Int)^log:=by simp
 obtain⟨m,hm⟩:∃m,m=(sZ ps 0).length:=⟨_,rfl⟩
 obtain⟨hi,hhi⟩:∃x,x=(rH ps 0).length:=⟨_,rfl⟩
 rw[<-hm,<-hhi]at hrl
 have hsum:hi+m=2^log:=by omega
 have ht:=anY ps 0 (2^log) (List.replicate (2^log) x0) (by omega) (by simp)
 rw[<-hm,show 2^log-m=hi from by omega]at ht
 have e2:(List.replicate (2^log) x0).take hi=List.replicate hi x0:=by rw[List.take_replicate];congr 1;omega
 have e3:(List.replicate (2^log) x0).drop (2^log)=[]:=by simp
 rw[e2,e3,aMf]at ht
 unfold dF
 rw[ht]
 simp only
 obtain⟨u1,u2,u3⟩:=alX (high:=hi) h.log5 (by omega)
 by_cases h0:hi=0
 .have hr:rH ps 0=[]:=aMc.1 (by omega)
  rw[hr,h0]
  refine⟨[],by simp[place],by simp[toI],by simp;omega,λt _ h2=>by simp at h2⟩
 .have hp:=ayW (n:=2^log) (high:=hi) (by omega) (rH ps 0) 0 0 (List.replicate hi x0++toI (sZ ps 0).reverse) (by omega) (by rw[u3];omega) (λ_=>by
   rw[Ud (aLZ log),ajJ,if_pos (by omega)]<;>rfl)
  rw[hp]
  generalize hU:gV (2^log) hi 0=U at*
  have hb:∀q∈U,q<(List.replicate hi x0++toI (sZ ps 0).reverse).length:=λq hq=>by have:=u2 q hq;simp;omega
  obtain⟨R,hR⟩:∃R,R=setAt (U.zip (rH ps 0)) (List.replicate hi x0++toI (sZ ps 0).reverse):=⟨_,rfl⟩
  have hRl:R.length=hi+m:=by rw[hR,ZG];simp[toI,hm]
  have hRd:R.drop hi=toI (sZ ps 0).reverse:=by
   apply aMP
   intro i
   rw[aMA,hR,T2 _ _ (λx hx=>by
     have:=u2 _ (List.of_mem_zip (a:=x.1) (b:=x.2) hx).1
     omega),aL0 (by simp)]
   simp
  have hget:∀t (h1:t<U.length) (h2:t<(rH ps 0).length),R[U[t]]?=some ((rH ps 0)[t]:Int):=λt h1 h2=>by
   rw[hR];exact aCC U _ _ t u1 (by omega) hb h1 h2
  rw[<-hR]
  refine⟨R.take hi,by rw[<-hRd,aMz], ?_,by rw[aLD];omega,λt h1 h2=> ?_⟩
  .have p1:(U.map λq=>R.getD q 0).Perm ((List.range hi).map λq=>R.getD q 0):=(ajG hi U u1 u2 u3).map _
   have p2:(U.map λq=>R.getD q 0)=toI (rH ps 0):=by
    apply aMU
    .simp [toI];omega
    .intro t h1 h2
     simp only[aLv]at h1
     have:=hget t h1 (by omega)
     simp only[aMp,toI,aLz,this]
     rfl
   have p3:((List.range hi).map λq=>R.getD q 0)=R.take hi:=by
    apply aMU
    .simp;omega
    .intro q h1 h2
     simp only[aLv,aNQ]at h1
     simp only[aMp,aMR,List.getElem_take,aLz]
     rw[aLt (by omega)]<;>rfl
   rw[p2,p3]at p1
   exact p1.symm
  .subst hhi
   simp only[hU]at h1⊢
   have:=hget t h1 h2
   rw[aLX (u2 _ (aLT h1))]
   exact this
theorem zA{log:Nat}{ps:List Int}(h:WS log ps)(x0:Int):Lay log ps (dF x0 log ps):=by
 obtain⟨low,e,hp,hl,_⟩:=avO h x0
 rw[e]
 refine⟨by simp[toI];omega,λs hs=> ?_,λx hx=> ?_,λs hs hps=> ?_⟩
 .rw [aMO,hp.count_eq,anW,anW,List.count_reverse]
  have h1:=azF ps 0 s
  have h2:=ayH ps 0 s
  rw[aLI]at h1 h2
  rw[h1,h2,dif_pos hs,dif_pos hs]
  have:=h.low _ (aLT hs)
  unfold bW
  split<;>split<;>omega
 .rcases aMq.1 hx with hx|hx
  .have hx:=hp.mem_iff.1 hx
   obtain⟨s,hs,rfl⟩:=aL5.1 hx
   exact⟨s,by have:=aEN ps 0 s hs;omega,rfl⟩
  .obtain ⟨s,hs,rfl⟩:=aL5.1 hx
   exact⟨s,by have:=aEn ps 0 s (List.mem_reverse.1 hs);omega,rfl⟩
 .have h1:=aGq ps 0 s hs hps
  rw[aLI]at h1
  have hlt:(ps.take s).count (-1)<(sZ ps 0).length:=by
   rcases aLL ((ps.take s).count (-1)) (sZ ps 0).length with h|h
   .exact h
   .rw [aLH h]at h1;cases h1
  rw[aL0 (by omega)]
  unfold toI
  rw[aLR,List.getElem?_reverse (by omega),show(sZ ps 0).length-1-(2^log-1-List.count (-1) (List.take s ps)-low.length)=(ps.take s).count (-1)from by omega,h1]
  rfl
def bl(k:Nat):Nat:=if k=0 then 0 else k.log2+1
theorem adH(k:Nat):k<2^bl k:=by
 unfold bl
 split
 .subst_vars;simp
 .exact Nat.lt_log2_self
theorem Ya{k:Nat}(h:k≠0):2^(bl k-1)<=k:=by
 unfold bl
 rw[if_neg h,aM3]
 exact Nat.log2_self_le h
theorem Pn{k:Nat}(h:k≠0):1<=bl k:=by unfold bl;rw[if_neg h];omega
theorem vC{k n:Nat}(h:k<2^n):bl k<=n:=by
 by_cases h0:k=0
 .subst h0;simp[bl]
 .rcases aLL n (bl k)with hh|hh
  .have h1:=Ya h0
   have:=aLG (n:=2) (by omega) (show n<=bl k-1 by omega)
   omega
  .exact hh
theorem aHe{k n:Nat}(h1:2^n<=k)(h2:k<2^(n+1)):bl k=n+1:=by
 have h0:k≠0:=by have:=aLZ n;omega
 have a:=vC h2
 have b:=adH k
 rcases aLL (bl k) (n+1)with h|h
 .have:=aLG (n:=2) (by omega) (show bl k<=n by omega)
  omega
 .omega
def kAt(ps S:List Int)(i:Nat):Nat:=(bW (ps.getD (S.getD i 0).toNat 0)).toNat+(S.take i).count (S.getD i 0)
def QF(log:Nat)(x:Int)(k:Nat):Int×Int×Int:=(x,((log+1-bl k:Nat):Int),((k*2^(log+1-bl k):Nat):Int)-2^log)
def Jo(log:Nat)(ps S:List Int)(i:Nat):Int×Int×Int:=QF log (S.getD i 0) (kAt ps S i)
def mJ(log:Nat)(ps:List Int):List (Int×Int×Int):=(List.range (2^log)).map (Jo log ps (dF 0 log ps))
theorem gT(log:Nat)(ps:List Int):(mJ log ps).length=2^log:=by simp[mJ]
theorem VM{S:List Int}{i:Nat}(h:i<S.length):(S.take i).count S[i]+1<=S.count S[i]:=by
 have e:S=S.take i++S[i]::S.drop (i+1):=by rw[<-aL8 h,aMz]
 have:S.count S[i]=(S.take i++S[i]::S.drop (i+1)).count S[i]:=by rw[<-e]
 rw[this,aMO,aM9];simp
theorem Xu{log:Nat}{ps:List Int}(h:WS log ps){s:Nat}(hs:s<ps.length):(bW ps[s]).toNat<=2^log:=by
 have:=aqF h.low (aLT hs)
 rw[h.sum]at this
 have hpow:((2^log:Nat):Int)=(2:Int)^log:=by simp
 rw[<-hpow]at this
 exact Int.toNat_le.2 this
theorem abK{log:Nat}{ps S:List Int}(h:WS log ps)(L:Lay log ps S){i:Nat}(hi:i<2^log):
 ∃s:Nat,∃hs:s<ps.length,S.getD i 0=(s:Int)/\1<=(bW ps[s]).toNat/\(bW ps[s]).toNat<=2^log/\kAt ps S i=(bW ps[s]).toNat+(S.take i).count (s:Int)/\(S.take i).count (s:Int)<(bW ps[s]).toNat:=by
 have hil:i<S.length:=by rw[L.len];exact hi
 have hg:S.getD i 0=S[i]:=by rw[aLz,aLt hil]<;>rfl
 obtain⟨s,hs,e⟩:=L.rng _ (aLT hil)
 have hc:=VM hil
 rw[e,L.cnt s hs]at hc
 refine⟨s,hs,by rw[hg,e],by omega,Xu h hs, ?_,by omega⟩
 unfold kAt
 rw[hg,e,aLx,aLz,aLt hs]<;>rfl
theorem aoY{log k:Nat}(h1:1<=k)(h2:k<2^(log+1)):2^log<=k*2^(log+1-bl k)/\(k+1)*2^(log+1-bl k)<=2^(log+1)/\bl k<=log+1/\1<=bl k:=by
 have a:=vC h2
 have b:=Pn (k:=k) (by omega)
 have c:=Ya (k:=k) (by omega)
 have d:=adH k
 refine⟨?_, ?_,a,b⟩
 .calc 2^log=2^(bl k-1)*2^(log+1-bl k):=by rw[<-aMF];congr 1;omega
   _<=k*2^(log+1-bl k):=aL1 _ c
 .calc (k+1)*2^(log+1-bl k)<=2^bl k*2^(log+1-bl k):=aL1 _ d
   _=2^(log+1):=by rw[<-aMF];congr 1;omega
theorem aGG(n j:Nat)(hn:0<n):∃d,d<n/\pos n (j+d)=0:=by
 refine⟨(n-j%n)%n,aNM _ hn, ?_⟩
 unfold pos
 have:(j+(n-j%n)%n)%n=0:=by
  rw[Nat.add_mod_mod]
  have h1:=aNM j hn
  have h2:=Nat.div_add_mod j n
  have:j+(n-j%n)=n*(j/n+1):=by
   rw[aNW,aM6]
   generalize n*(j/n)=y at*
   generalize j%n=r at*
   omega
  rw[this,Nat.mul_mod_right]
 rw[Nat.mul_mod,this,aOl,Nat.zero_mod]
theorem anQ{n high:Nat}(hn:0<n)(hh:0<high)(j:Nat):∃d,(∀e,e<d->high<=pos n (j+e))/\pos n (j+d)<high/\acR n high n (pos n j)=pos n (j+d):=by
 obtain⟨D,hD,h0⟩:=aGG n j hn
 have key:∀(D f j:Nat),D<=f->pos n (j+D)<high->∃d,(∀e,e<d->high<=pos n (j+e))/\pos n (j+d)<high/\acR n high f (pos n j)=pos n (j+d):=by
  intro D
  induction D with
  |zero=>
   intro f j _ h
   refine⟨0,λe he=>by omega,h, ?_⟩
   rw[aL3]at h⊢
   cases f with
   |zero=>rfl
   |succ f=>unfold acR;rw[if_pos h]
  |succ D ih=>
   intro f j hf h
   obtain⟨f,rfl⟩:∃g,f=g+1:=⟨f-1,by omega⟩
   by_cases hj:pos n j<high
   .exact ⟨0,λe he=>by omega,hj,by unfold acR;rw[if_pos hj]<;>rfl⟩
   .obtain ⟨d,h1,h2,h3⟩:=ih f (j+1) (by omega) (by rw[show j+1+D=j+(D+1)from by omega];exact h)
    refine⟨d+1,λe he=> ?_,by rw[show j+(d+1)=j+1+d from by omega];exact h2, ?_⟩
    .cases e with
     |zero=>rw[aL3];omega
     |succ e=>rw[show j+(e+1)=j+1+e from by omega];exact h1 e (by omega)
    .unfold acR;rw[if_neg hj,UC,h3];congr 1;omega
 exact key D n j (by omega) (by rw[h0];exact hh)
theorem avP{log:Nat}{ps:List Int}(h:WS log ps)(x0:Int):∃arr,akE ps 0 (2^log) (List.replicate (2^log) x0)=((rH ps 0).length,arr)/\arr.length=2^log/\(sZ ps 0).length+(rH ps 0).length=2^log/\dF x0 log ps=place (2^log) (rH ps 0).length (rH ps 0) 0 arr:=by
 have hrl:=avC ps 0 h.low
 rw[h.sum]at hrl
 have hpow:((2^log:Nat):Int)=(2:Int)^log:=by simp
 have hsum:(sZ ps 0).length+(rH ps 0).length=2^log:=by omega
 have ht:=anY ps 0 (2^log) (List.replicate (2^log) x0) (by omega) (by simp)
 rw[show 2^log-(sZ ps 0).length=(rH ps 0).length from by omega]at ht
 refine⟨_,ht, ?_,hsum, ?_⟩
 .simp [toI];omega
 .unfold dF;rw[ht]
end Go.Pu
namespace Go.En
open Go
section
variable{P:Program}{w:aOm}{t e:TypeId}
theorem avT{i:TypeInfo}(hu:P.underlying t=some (.slice e))(hi:P.info? e=some i)
 {K:aOn->aOm->Prop} (hk:∀w',aZ w' w.heap.size []->aN w w' bJ->w'.heap.size=w.heap.size+1->K (.slice (some ⟨w.heap.size,0,none⟩) 0 0) w'):
 aA P (bT t 0 []) w K:=by
 have:(bT t 0 []).run P w= .ok (.value (.slice (some ⟨w.heap.size,0,none⟩) 0 0)) (w.alloc (.cells ([]:List aOn).toArray e)):=by
  unfold bT;rw[mE]
  have h1:¬(0>2^24):=by omega
  have e:∀f:Nat->aOn,Array.map f (Array.range 0)= #[]:=λf=>by simp
  simp only[Instr.buildSlice,underlying,pure_bind,Sem.run_bind,run_program,Result.andThen_ok,hu,Sem.run_pure,cG hi,aOl,h1,if_false,if_true,newRow,run_newObj,Instr.fill,e]
  rfl
 unfold aA
 rw[this]
 exact hk _ (aZ.alloc _ _ _) (aN.alloc _ _ _) (by simp)
def At(v:aOn)(b:Nat):Prop:=∀M:Nat->Prop,¬M b->¬JN v M
theorem At.nil (c b:Nat)(a:Option Addr):At (.slice a 0 c) b:=λM h=>by unfold JN;split<;>simp_all
theorem At.at (b o n c:Nat):At (.slice (some ⟨b,o,none⟩) n c) b:=λM h=>by
 unfold JN;split
 .rename_i x m _ e
  obtain⟨rfl,_⟩:(⟨b,o,none⟩:Addr)=x/\_:=by simpa using e
  exact h
 .simp
theorem pC.at' {w:aOm}{base sz n:Nat}{v:aOn}{l:List aOn}(h:pC w base sz v n l)(hb:base<w.heap.size):∃b,base<=b/\b<w.heap.size/\At v b:=by
 rcases h.2 with⟨rfl,rfl⟩|⟨b,c,rest,rfl,h2,h3,h4,h5⟩
 .exact ⟨base,aLA _,hb,At.nil _ _ _⟩
 .exact ⟨b,h2,h3.lt,At.at _ _ _ _⟩
end
end Go.En
namespace Go.Proofs.YtoecppploooloaaGreatDoor
open Go Go.En Go.Pu
set_option maxRecDepth 4000
def atX:ByteArray:=⟨#[0,1,2,2,3,3,3,3,4,4,4,4,4,4,4,4,5,5,5,5,5,5,5,5,5,5,5,5,5,5,5,5,6,6,6,6,6,6,6,6,6,6,6,6,6,6,6,6,6,6,6,6,6,6,6,6,6,6,6,6,6,6,6,6,7,7,7,7,7,7,7,7,7,7,7,7,7,7,7,7,7,7,7,7,7,7,7,7,7,7,7,7,7,7,7,7,7,7,7,7,7,7,7,7,7,7,7,7,7,7,7,7,7,7,7,7,7,7,7,7,7,7,7,7,7,7,7,7,8,8,8,8,8,8,8,8,8,8,8,8,8,8,8,8,8,8,8,8,8,8,8,8,8,8,8,8,8,8,8,8,8,8,8,8,8,8,8,8,8,8,8,8,8,8,8,8,8,8,8,8,8,8,8,8,8,8,8,8,8,8,8,8,8,8,8,8,8,8,8,8,8,8,8,8,8,8,8,8,8,8,8,8,8,8,8,8,8,8,8,8,8,8,8,8,8,8,8,8,8,8,8,8,8,8,8,8,8,8,8,8,8,8,8,8,8,8,8,8,8,8,8,8,8,8,8,8]⟩
theorem UF:atX.size=256:=by decide
set_option maxRecDepth 100000 in
theorem atY(x:Nat)(h:x<256):(atX[x]'(by rw[UF];exact h)).toNat=bl x:=by
 have:∀k:Fin 256,(atX.data[k.val]!).toNat=bl k.val:=by decide+kernel
 have h2:=this ⟨x,h⟩
 simp only at h2
 rw[<-h2]
 have hs:x<atX.data.size:=by have:=UF;exact(show atX.data.size=256 from this)▸h
 rw[getElem!_pos atX.data x hs]
 rfl
theorem Sk{x j:Nat}(h:2^j<=x):bl x=bl (x/2^j)+j:=by
 have hp:=aLZ j
 have h0:x/2^j≠0:=by
  have:=Nat.div_pos h hp
  omega
 have a:=Ya h0
 have b:=adH (x/2^j)
 have c:=Pn h0
 obtain⟨m,hm⟩:∃m,bl (x/2^j)=m+1:=⟨bl (x/2^j)-1,by omega⟩
 rw[hm,aM3]at a
 rw[hm]at b⊢
 have h1:2^(m+j)<=x:=by
  rw[aMF]
  exact aMu (aL1 _ a) (aNY _ _)
 have h2:x<2^(m+j+1):=by
  rw[show m+j+1=(m+1)+j from by omega,aMF]
  exact(aMZ hp).1 b
 rw[aHe h1 h2];omega
theorem atZ{x n:Nat}(hx:x<256)(hn:n<=1000)(R:aOn->aOm->Prop)(w:aOm)(h:R (.int .i64 ((n+bl x:Nat):Int)) w):
 uA R (.int .u64 x) (.int .i64 n) w:=by
 have hg:=atY x hx
 have hs:=UF
 have hb:bl x<=8:=vC (n:=8) (by omega)
 unfold uA
 change aA pg _ w λt21 w=>aA pg (IJ 9 (.string atX) t21) w _
 simp(disch:=omega)only[aA,fB,Qg,aF,sT,aLx,hg,fK,cX,gN]
 rw[Int.natCast_add]at h
 exact h
theorem SQ(a b:Nat):((a:Int)).fdiv (b:Int)=((a/b:Nat):Int):=by rw[aMh _ (by omega)]<;>rfl
theorem UM(x j:Nat)(hj:j<=64):((x:Int)).fdiv (2^(min (j:Nat) IntKind.u64.bits))=((x/2^j:Nat):Int):=by
 have e:min j IntKind.u64.bits=j:=by simp only[IntKind.bits];omega
 rw[e,<-SQ];simp
theorem aAV(x:Nat)(hx:x<18446744073709551616)(w:aOm):aK pg pR #[.int .u64 x] w (λr w'=>r= .int .i64 (bl x:Nat)/\w'=w):=by
 refine Tz ?_
 unfold Q2 J7 J6
 have ajX:∀(y n:Nat),y<65536->n<=64->n+bl y=bl x->uB (λr w'=>r= .int .i64 (bl x:Nat)/\w'=w) (.int .u64 y) (.int .i64 n) w:=by
  intro y n hy hn e
  unfold uB J4
  by_cases h:256<=y
  .have d:decide ((256:Int)<=(y:Int))=true:=by simp;omega
   have sh:=UM y 8 (by omega)
   have hq:y/2^8<256:=by omega
   have:=Sk (x:=y) (j:=8) (by omega)
   have e2:(n:Int)+8=((n+8:Nat):Int):=by omega
   simp(disch:=omega)only[aA,Af,d,nZ,gN,e2,cX,aF,bD]
   rw[show(8:Int).toNat=8 from rfl,sh]
   exact atZ hq (by omega) _ _ ⟨by rw[<-e,this];congr 2;omega,rfl⟩
  .have d:decide ((256:Int)<=(y:Int))=false:=by simp;omega
   simp(disch:=omega)only[aA,Af,d,nZ,gN,cX,aF,aR]
   exact atZ (by omega) (by omega) _ _ ⟨by rw[e],rfl⟩
 have step16:∀(y n:Nat),y<4294967296->n<=32->n+bl y=bl x->uC (λr w'=>r= .int .i64 (bl x:Nat)/\w'=w) (.int .u64 y) (.int .i64 n) w:=by
  intro y n hy hn e
  unfold uC J5
  by_cases h:65536<=y
  .have d:decide ((65536:Int)<=(y:Int))=true:=by simp;omega
   have sh:=UM y 16 (by omega)
   have hq:y/2^16<65536:=by omega
   have:=Sk (x:=y) (j:=16) (by omega)
   have e2:(n:Int)+16=((n+16:Nat):Int):=by omega
   simp(disch:=omega)only[aA,Af,d,nZ,gN,e2,cX,aF,bD]
   rw[show(16:Int).toNat=16 from rfl,sh]
   exact ajX _ _ hq (by omega) (by rw[<-e,this];omega)
  .have d:decide ((65536:Int)<=(y:Int))=false:=by simp;omega
   simp(disch:=omega)only[aA,Af,d,nZ,gN,cX,aF,aR]
   exact ajX _ _ (by omega) (by omega) e
 by_cases h:4294967296<=x
 .have d:decide ((4294967296:Int)<=(x:Int))=true:=by simp;omega
  have sh:=UM x 32 (by omega)
  have hq:x/2^32<4294967296:=by omega
  have:=Sk (x:=x) (j:=32) (by omega)
  simp(disch:=omega)only[aA,Af,d,nZ,aF,bD]
  rw[show(32:Int).toNat=32 from rfl,sh]
  exact step16 _ 32 hq (by omega) (by rw[this];omega)
 .have d:decide ((4294967296:Int)<=(x:Int))=false:=by simp;omega
  simp(disch:=omega)only[aA,Af,d,nZ,aF,aR]
  exact step16 _ 0 (by omega) (by omega) (by omega)
theorem aEi(x:Nat)(hx:x<18446744073709551616)(w:aOm):aK pg pK #[.int .u64 x] w (λr w'=>r= .int .i64 (bl x:Nat)/\w'=w):=by
 refine Xp ?_
 simp(disch:=omega)only[Wn,Ok,aA,fQ,aF,aR]
 exact aAV x hx w
theorem agA{n:Nat}(h:n<=20):IntKind.i64.wrap (1*2^(min n IntKind.i64.bits))=((2^n:Nat):Int):=by
 have:∀k:Fin 21,IntKind.i64.wrap (1*2^(min k.val IntKind.i64.bits))=((2^k.val:Nat):Int):=by decide
 exact this ⟨n,by omega⟩
theorem aaI{w:aOm}{v:aOn}{l:List UInt8}(h:Bs w v l)(h0:0<l.length):∃b off c,v= .slice (some ⟨b,off,none⟩) l.length c/\l.length<=c/\∀i,(h:i<l.length)->w.cell? ⟨b,off+i,none⟩=some (.int .u8 (l[i].toNat:Nat)):=by
 obtain⟨b,off,c,rfl,hc,hcell⟩:=h.openV (by simpa using h0)
 refine⟨b,off,c,by rw[aLv],by simpa using hc,λi hi=> ?_⟩
 have:=hcell i (by simpa using hi)
 simpa[dR]using this
theorem agI{v:aOn}{l:List UInt8}{w:aOm}(h:Bs w v l)(hl:l.length<=1000000000):
 aK pg gG #[v] w (λr w'=>pC w' w.heap.size 1 r l.length (l.map dR)/\aN w w' bJ):=by
 refine Qd ?_
 have h1:=h
 obtain⟨a,n,c,rfl,hn,hc,hh⟩:=h
 rw[aLv]at hn
 unfold LP G4
 cases a with
 |none=>
  have h0:l=[]:=by
   cases l with
   |nil=>rfl
   |cons x l=>obtain⟨b,off,h,_⟩:=hh (by simp at hn;omega);cases h
  subst h0
  simp(disch:=omega)only[aA,gU,aMS,aF,bD]
  exact⟨pC.nil _ _ _,aN.refl _ _⟩
 |some x=>
  simp(disch:=omega)only[aA,gU,aMT,aF,aR]
  refine avT Tryz.underlying22 Hq λw1 o1 x1 s1=> ?_
  have hcl1:=(h1.ext x1 (aU _)).cl
  rw[aLv]at hcl1
  have hos:pC w1 w.heap.size 1 (.slice (some ⟨w.heap.size,0,none⟩) 0 0) 0 []:=⟨rfl,.inr ⟨_,0,[],rfl,aLA _,o1,rfl,aLA _⟩⟩
  refine dH hos hcl1 (BF _) x1.size (by omega) λv3 w3 o3 x3=> ?_
  rw[aLI,aL9]at o3
  exact⟨o3,x1.trans x3 λb hb h=>Nat.not_le_of_lt hb h⟩
def AtI(v:aOn)(lo hi:Nat):Prop:=∀M:Nat->Prop,(∀b,lo<=b->b<hi->¬M b)->¬JN v M
theorem pC.atI {w:aOm}{base sz n:Nat}{v:aOn}{l:List aOn}(h:pC w base sz v n l):AtI v base w.heap.size:=by
 intro M hM
 rcases h.2 with⟨rfl,rfl⟩|⟨b,c,rest,rfl,h2,h3,h4,h5⟩
 .exact λh=>h
 .exact At.at b 0 n c M (hM b h2 h3.lt)
theorem aEX{w:aOm}{a:Option Addr}{n c:Nat}{l:List aOn}(h:Sl w (.slice a n c) l){k:Nat}(hk:k<=n):Sl w (.slice a k c) (l.take k):=by
 obtain⟨a',n',c',e,hn,hc,hh⟩:=h
 cases e
 refine⟨a,k,c,rfl,by rw[aLD];omega,by omega,λh0=> ?_⟩
 obtain⟨b,off,ha,hcell⟩:=hh (by omega)
 refine⟨b,off,ha,λi hi=> ?_⟩
 rw[hcell i (by omega),aLX (by omega)]
theorem slA{w:aOm}{a:Option Addr}{n c:Nat}{l:List aOn}(h:Sl w (.slice a n c) l)(h0:0<n):∃b off,a=some ⟨b,off,none⟩/\∀i,i<n->w.cell? ⟨b,off+i,none⟩=l[i]?:=by
 obtain⟨a',n',c',e,hn,hc,hh⟩:=h
 cases e
 exact hh h0
end Go.Proofs.YtoecppploooloaaGreatDoor
namespace Go.Pu
open Go Go.En
def Qv(c:UInt8):List Bool:=(List.range 8).map c.toNat.testBit
def kO:List UInt8->List Bool
 |[]=>[]
 |c::l=>Qv c++kO l
def RI:List Bool->Nat
 |[]=>0
 |b::l=>b.toNat+2*RI l
theorem tP(c:UInt8):(Qv c).length=8:=by simp[Qv]
theorem X9:∀l:List UInt8,(kO l).length=8*l.length
 |[]=>rfl
 |c::l=>by rw[kO,aLs,tP,X9 l,aLS];omega
theorem Pl:∀a b:List UInt8,kO (a++b)=kO a++kO b
 |[],b=>rfl
 |c::a,b=>by rw[aMo,kO,kO,Pl a b,aLJ]
theorem aBs(c:UInt8){k:Nat}(h:k<8):(Qv c)[k]?=some (c.toNat.testBit k):=by
 unfold Qv
 rw[aLR,aNF h]<;>rfl
theorem Nm:∀(l:List UInt8) (i:Nat) (h:i<8*l.length),(kO l)[i]?=some ((l[i/8]'(by omega)).toNat.testBit (i%8))
 |[],i,h=>by simp at h
 |c::l,i,h=>by
  rw[kO]
  rcases aLL i 8 with h8|h8
  .rw [aLU (by rw[tP];exact h8),aBs c h8]
   have e:i/8=0:=by omega
   have e2:i%8=i:=by omega
   simp[e,e2]
  .rw [aL0 (by rw[tP];exact h8),tP,Nm l (i-8) (by simp at h;omega)]
   have e:i/8=(i-8)/8+1:=by omega
   have e2:(i-8)%8=i%8:=by omega
   simp[e,e2]
theorem apZ:∀l:List Bool,RI l<2^l.length
 |[]=>by simp[RI]
 |b::l=>by
  have:=apZ l
  rw[RI,aLS,aMe]
  have:b.toNat<=1:=Bool.toNat_le b
  omega
theorem adY:∀a b:List Bool,RI (a++b)=RI a+2^a.length*RI b
 |[],b=>by simp[RI]
 |x::a,b=>by
  rw[aMo,RI,RI,adY a b,aLS,aMe,aNW,<-aOb,<-aMM,aMb 2 (2^a.length)]
def cZ(x:Nat)(n:Nat):List Bool:=(List.range n).map x.testBit
theorem bM(x n:Nat):(cZ x n).length=n:=by simp[cZ]
theorem I5 (x:Nat):cZ x 0=[]:=rfl
theorem Pm(x n:Nat):cZ x (n+1)=cZ x n++[x.testBit n]:=by
 unfold cZ;rw[aOh,aL2]<;>rfl
theorem axC(x n:Nat):cZ x (n+1)=x.testBit 0::cZ (x/2) n:=by
 unfold cZ
 rw[List.range_succ_eq_map,aL7,List.map_map]
 congr 1
 apply aME
 intro k _
 simp[Nat.testBit_succ]
theorem aiZ:∀(n x:Nat),RI (cZ x n)=x%2^n
 |0,x=>by simp[cZ,RI,Nat.mod_one]
 |n+1,x=>by
  rw[axC,RI,aiZ n (x/2),aMe,aMb (2^n) 2,Nat.mod_mul]
  congr 1
  rw[Nat.testBit_zero]
  have:x%2=0∨x%2=1:=by omega
  rcases this with h|h<;>simp[h]
theorem ayQ{x i:Nat}(h:x<2^i)(b:Nat):x|||(b*2^i)=x+2^i*b:=by
 rw[Nat.or_comm,aMb b,<-Nat.two_pow_add_eq_or_of_lt h b,Nat.add_comm]
theorem aAZ{a b:Nat}(ha:a<2^64)(hb:b<2^64):orI .u64 (a:Int) (b:Int)=((a|||b:Nat):Int):=by
 have h:=aN9 ha hb
 unfold orI
 have e:IntKind.u64.bits=64:=rfl
 rw[e,BitVec.ofInt_natCast,BitVec.ofInt_natCast,BitVec.toNat_or,BitVec.toNat_ofNat,BitVec.toNat_ofNat,aLV ha,aLV hb]
 exact gP (by omega) (by have:((a|||b:Nat):Int)<((2^64:Nat):Int):=by exact_mod_cast h
                         omega)
theorem ajE{a b:Nat}(ha:a<2^8)(hb:b<2^8):orI .u8 (a:Int) (b:Int)=((a|||b:Nat):Int):=by
 have h:=aN9 ha hb
 unfold orI
 have e:IntKind.u8.bits=8:=rfl
 rw[e,BitVec.ofInt_natCast,BitVec.ofInt_natCast,BitVec.toNat_or,BitVec.toNat_ofNat,BitVec.toNat_ofNat,aLV ha,aLV hb]
 exact Qg (by omega) (by have:((a|||b:Nat):Int)<((2^8:Nat):Int):=by exact_mod_cast h
                         omega)
theorem asF{a:Nat}(h:a<2^64):Cq .u64 (a:Int) 1=((a%2:Nat):Int):=by
 unfold Cq
 have e:IntKind.u64.bits=64:=rfl
 rw[e,BitVec.ofInt_natCast,show(BitVec.ofInt 64 1)=BitVec.ofNat 64 1 from rfl,BitVec.toNat_and,BitVec.toNat_ofNat,BitVec.toNat_ofNat,aLV h,show 1%2^64=1 from rfl,Nat.and_one_is_mod]
 exact gP (by omega) (by omega)
theorem anX(x k:Nat):(x.testBit k).toNat=x/2^k%2:=by
 rw[aNo]
 have:x/2^k%2=0∨x/2^k%2=1:=by omega
 rcases this with h|h<;>simp[h]
def amZ(L:List Bool)(n:Nat):Nat:=RI (L.drop (L.length-min n L.length))*2^(n-min n L.length)
theorem aEf(L:List Bool)(n:Nat):amZ L n<2^n:=by
 unfold amZ
 have h:=apZ (L.drop (L.length-min n L.length))
 rw[aLP,show L.length-(L.length-min n L.length)=min n L.length from by omega]at h
 calc _<2^min n L.length*2^(n-min n L.length):=Nat.mul_lt_mul_of_pos_right h (aLZ _)
  _=2^n:=by rw[<-aMF];congr 1;omega
def asY(l:List UInt8):Option Nat:=match l.getLast? with
 |none=>none
 |some c=>if c.toNat=0 then none else some (8*(l.length-1)+bl c.toNat-1)
theorem amO{l:List UInt8}(h:0<l.length):asY l=if(l[l.length-1]'(by omega)).toNat=0 then none else some (8*(l.length-1)+bl (l[l.length-1]'(by omega)).toNat-1):=by
 unfold asY
 rw[aNb,aLt (by omega)]
theorem aBP{l:List UInt8}{k:Nat}(h:asY l=some k):0<l.length/\k<8*l.length/\8*(l.length-1)<=k/\(kO l)[k]?=some true/\∀j,k<j->j<8*l.length->(kO l)[j]?=some false:=by
 have h0:0<l.length:=by
  cases l with
  |nil=>simp[asY]at h
  |cons x l=>simp
 rw[amO h0]at h
 generalize hc:l[l.length-1]'(by omega)=c at h
 split at h
 .cases h
 .rename_i hne
  have hk:=aLW h
  have h1:=Pn hne
  have h2:bl c.toNat<=8:=vC (by have:c.toNat<256:=aM7 c
                                omega)
  have h3:=Ya hne
  have h4:=adH c.toNat
  refine⟨h0,by omega,by omega, ?_, ?_⟩
  .rw [Nm l k (by omega)]
   have e:k/8=l.length-1:=by omega
   have e2:k%8=bl c.toNat-1:=by omega
   simp only[e,hc,e2]
   rw[aNo]
   obtain⟨m,hm⟩:∃m,bl c.toNat=m+1:=⟨bl c.toNat-1,by omega⟩
   rw[hm,aM3]at h3⊢
   rw[hm,aMe]at h4
   have:c.toNat/2^m=1:=by
    have hp:=aLZ m
    have:=(aNU hp).2 (show 1*2^m<=c.toNat by omega)
    have:=(aMZ hp).2 (show c.toNat<2*2^m by omega)
    omega
   simp[this]
  .intro j h5 h6
   rw[Nm l j h6]
   have e:j/8=l.length-1:=by omega
   simp only[e,hc]
   rw[Nat.testBit_lt_two_pow]
   exact aNr h4 (aLG (by omega) (by omega))
end Go.Pu
namespace Go.Proofs.YtoecppploooloaaGreatDoor
open Go Go.En Go.Pu
set_option maxRecDepth 4000
def Fwd(w:aOm)(lo hi:Nat)(l:List UInt8)(st:Nat):Prop:=∃v,aZ w hi [v,.int .i64 st]/\Bs w v l/\AtI v lo hi
theorem Fwd.ext {w w':aOm}{lo hi st:Nat}{l:List UInt8}{M:Nat->Prop}(h:Fwd w lo hi l st)(hx:aN w w' M)(hM:∀b,lo<=b->b<=hi->¬M b)(hlh:lo<=hi):Fwd w' lo hi l st:=by
 obtain⟨v,h1,h2,h3⟩:=h
 exact⟨v,h1.ext hx (hM _ hlh (aLA _)),h2.ext hx (h3 M λb hb hh=>hM b hb (by omega)),h3⟩
theorem aqG(p:Int)(w:aOm):aK pg sC #[.int .i64 p] w (λr w'=>r= .int .i64 (bW p)/\w'=w):=by
 refine Zh ?_
 unfold bW
 by_cases h:p<0
 .have d:decide (p<0)=true:=by simpa using h
  simp(disch:=omega)only[Hu,PV,SV,d]
  rw[if_pos h]
 .have d:decide (p<0)=false:=by simpa using h
  simp(disch:=omega)only[Hu,PV,SV,d]
  rw[if_neg h]
theorem aiF{ps:List Int}(h:0<ps.length):(ps.getLast?=some 0)↔ps[ps.length-1]'(by omega)=0:=by
 rw[aNb,aLt (by omega)]
 simp
theorem aHs{log:Int}{sv:aOn}{ps:List Int}{w:aOm}(hs:Sl w sv (ps.map (Value.int .i64)))(hl:ps.length<=9223372036854775807):
 aK pg CC #[.agg #[.int .i64 log,sv]] w (λr w'=>r= .bool (apV log ps)/\aN w w' bJ):=by
 refine afN ?_
 unfold aiY Wy Wx
 obtain⟨a,c,rfl,hc⟩:=hs.lenI
 refine fC λw1 o1 x1 s1=> ?_
 have hs0:=hs
 have hs:=hs.ext x1 (aU _)
 have c0:=o1.cell (off:=0)
 have c1:=o1.cell (off:=1)
 simp only[Value.cells,aLu,aLw]at c0 c1
 have no:¬(5<=log/\log<=15/\1<=ps.length/\ps.length<=256/\ps.getLast?≠some 0)->apV log ps=false:=λh=>by
  unfold apV aAM;rw[decide_eq_false h]<;>rfl
 by_cases h1:log<5
 .have d1:decide (log<5)=true:=by simpa using h1
  simp(disch:=omega)only[SV,c0,c1,d1]
  exact⟨by rw[no (by omega)],x1⟩
 have d1:decide (log<5)=false:=by simpa using h1
 by_cases h2:15<log
 .have d2:decide (15<log)=true:=by simpa using h2
  simp(disch:=omega)only[SV,c0,c1,d1,d2]
  exact⟨by rw[no (by omega)],x1⟩
 have d2:decide (15<log)=false:=by simpa using h2
 by_cases h3:ps.length<1
 .have d3:decide ((ps.length:Int)<1)=true:=by simp;omega
  simp(disch:=omega)only[SV,c0,c1,d1,d2,d3]
  exact⟨by rw[no (by omega)],x1⟩
 have d3:decide ((ps.length:Int)<1)=false:=by simp;omega
 by_cases h4:256<ps.length
 .have d4:decide ((256:Int)<(ps.length:Int))=true:=by simp;omega
  simp(disch:=omega)only[SV,c0,c1,d1,d2,d3,d4]
  exact⟨by rw[no (by omega)],x1⟩
 have d4:decide ((256:Int)<(ps.length:Int))=false:=by simp;omega
 obtain⟨b,off,c',e,hc',hcell⟩:=hs.openI (by omega)
 cases e
 have e1:((ps.length:Int)-1)=((ps.length-1:Nat):Int):=by omega
 have g1:=hcell (ps.length-1) (by omega)
 by_cases h5:ps[ps.length-1]'(by omega)=0
 .have d5:(ps[ps.length-1]'(by omega)==0)=true:=by simpa using h5
  simp(disch:=omega)only[SV,c0,c1,d1,d2,d3,d4,e1,g1,d5]
  exact⟨by rw[no (λh=>h.2.2.2.2 ((aiF (by omega)).2 h5))],x1⟩
 have d5:(ps[ps.length-1]'(by omega)==0)=false:=by simpa using h5
 obtain⟨l,rfl⟩:∃l:Nat,log=l:=⟨log.toNat,by omega⟩
 have hsh:IntKind.i64.wrap (1*2^(min l IntKind.i64.bits))=(2:Int)^l:=by
  have:∀k:Fin 16,IntKind.i64.wrap (1*2^(min k.val IntKind.i64.bits))=(2:Int)^k.val:=by decide
  exact this ⟨l,by omega⟩
 have hyes:apV (l:Int) ps=fits (2^l) ps:=by
  unfold apV aAM
  rw[decide_eq_true ⟨by omega,by omega,by omega,by omega,λh=>h5 ((aiF (by omega)).1 h)⟩,aLx]<;>rfl
 simp(disch:=omega)only[SV,c0,c1,d1,d2,d3,d4,e1,g1,d5,hsh]
 unfold MO MN Ww Gh
 simp(disch:=omega)only[SV,c0,c1]
 have hp15:=aEF (log:=l) (by omega)
 have hp1:=aEG l
 refine aX.rule (λm t w'=>∃(i:Nat) (left:Int),m=ps.length-i/\t=(.int .i64 left,.int .i64 i)/\i<=ps.length/\0<=left/\left<=32768/\fits (2^l) ps=fits left (ps.drop i)/\aN w w' bJ) ps.length
  ⟨0,2^l,rfl,rfl,by omega,by omega,hp15,rfl,x1⟩ ?_
 rintro m t w2 ⟨i,left,rfl,rfl,hi,hl0,hl1,hf,x2⟩
 by_cases hlt:i<ps.length
 .have d6:decide ((i:Int)<(ps.length:Int))=true:=by simp;omega
  have hsw:=hs0.ext x2 (aU _)
  obtain⟨b',off',c',e,_,hcell2⟩:=hsw.openI (by omega)
  cases e
  have g2:=hcell2 i hlt
  have hd:ps.drop i=ps[i]::ps.drop (i+1):=aL8 hlt
  rw[hd,fits]at hf
  by_cases h6:ps[i]< -1
  .have d7:decide (ps[i]< -1)=true:=by simpa using h6
   simp(disch:=omega)only[A7,SV,d6,g2,d7]
   rw[if_pos (.inl h6)]at hf
   exact⟨by rw[hyes,hf],x2⟩
  have d7:decide (ps[i]< -1)=false:=by simpa using h6
  simp(disch:=omega)only[A7,SV,d6,g2,d7]
  refine(aqG _ _).mono ?_
  rintro r w3 ⟨rfl,rfl⟩
  by_cases h7:left<bW ps[i]
  .have d8:decide (left<bW ps[i])=true:=by simpa using h7
   simp(disch:=omega)only[SV,d8]
   rw[if_pos (.inr h7)]at hf
   exact⟨by rw[hyes,hf],x2⟩
  have d8:decide (left<bW ps[i])=false:=by simpa using h7
  simp(disch:=omega)only[SV,d8]
  refine(aqG _ _).mono ?_
  rintro r w3 ⟨rfl,rfl⟩
  rw[if_neg (by omega)]at hf
  have hpn:=mX (p:=ps[i]) (by omega)
  simp(disch:=omega)only[SV]
  exact⟨ps.length-(i+1),by omega,i+1,left-bW ps[i],rfl,rfl,by omega,by omega,by omega,hf,x2⟩
 .have d6:decide ((i:Int)<(ps.length:Int))=false:=by simp;omega
  rw[aMI (by omega),fits]at hf
  unfold A7 MM
  simp(disch:=omega)only[SV,d6]
  exact⟨by rw[hyes,hf],x2⟩
def aFU(log:Int)(ps:List Int)(most:Int):Int:=if apV log ps=false then 1 else if most<log then 12 else 0
theorem aFT{log most:Int}{sv:aOn}{ps:List Int}{w:aOm}(hs:Sl w sv (ps.map (Value.int .i64)))(hl:ps.length<=9223372036854775807):
 aK pg CA #[.agg #[.int .i64 log,sv],.int .i64 most] w (λr w'=>r= .int .i64 (aFU log ps most)/\aN w w' bJ):=by
 refine Zc ?_
 unfold Zb Q4
 refine fC λw1 o1 x1 s1=> ?_
 have hs:=hs.ext x1 (aU _)
 rw[show aH 162=aH 162 from rfl]
 have l1:=fL o1 (off:=0) (by simp[Value.cells])
 simp only[Value.cells,aLE,aLC,aLK]at l1
 simp(disch:=omega)only[SV,l1]
 refine(aHs hs hl).mono ?_
 rintro r w2 ⟨rfl,x2⟩
 have o2:=o1.ext x2 (λh=>h)
 have c0:=o2.cell (off:=0)
 simp only[Value.cells,aLu]at c0
 unfold aFU
 cases hm:apV log ps with
 |false=>
  simp(disch:=omega)only[SV]
  exact x1.seq x2
 |true=>
  by_cases h:most<log
  .have d:decide (most<log)=true:=by simpa using h
   simp(disch:=omega)only[SV,c0,d]
   exact⟨by simp[h],x1.seq x2⟩
  .have d:decide (most<log)=false:=by simpa using h
   simp(disch:=omega)only[SV,c0,d]
   exact⟨by simp[h],x1.seq x2⟩
theorem AtI.sub {a:Option Addr}{n c m c' k sz lo hi:Nat}(h:AtI (.slice a n c) lo hi)(hm:m<=n):AtI (.slice (cW a c k sz) m c') lo hi:=by
 intro M hM hin
 cases m with
 |zero=>unfold JN at hin;split at hin<;>simp_all
 |succ m=>
  obtain⟨n',rfl⟩:∃n',n=n'+1:=⟨n-1,by omega⟩
  have h1:=h M hM
  cases a with
  |none=>unfold cW at hin;split at hin<;>exact hin
  |some x=>
   unfold cW at hin
   have h2:M x.block:=by
    split at hin
    .exact hin
    .rw [aL6]at hin
     have e:(x.add (k*sz)).block=x.block:=by unfold Addr.add;split<;>rfl
     have h3:M (x.add (k*sz)).block:=hin
     rwa [e]at h3
   exact h1 h2
abbrev Bl(w:aOm)(v:aOn)(L:List Bool):Prop:=Sl w v (L.map Value.bool)
end Go.Proofs.YtoecppploooloaaGreatDoor
namespace Go.Pu
def jW:List UInt8->Nat
 |[]=>0
 |c::l=>c.toNat+256*jW l
theorem LN:∀l:List UInt8,jW l<256^l.length
 |[]=>by simp[jW]
 |c::l=>by
  have:=LN l
  have hc:=c.toNat_lt
  rw[jW,aLS,aMe];omega
theorem anF(c:UInt8):∀l:List UInt8,jW (l++[c])=jW l+256^l.length*c.toNat
 |[]=>by simp[jW]
 |d::l=>by
  rw[aMo,jW,anF c l,jW,aLS,aMe,aNW,aMM,aMb (256^l.length) 256,aOb]
theorem ayZ(i:Nat):256^i=2^(8*i):=by rw[Nat.pow_mul]
theorem aGu(l:List UInt8)(c:UInt8):jW l|||(c.toNat*2^(8*l.length))=jW (l++[c]):=by
 have:=LN l
 rw[ayZ]at this
 rw[ayQ this,anF,ayZ]
def dM(x:Nat):Nat->List UInt8
 |0=>[]
 |n+1=>UInt8.ofNat (x%256)::dM (x/256) n
theorem bS:∀(n x:Nat),(dM x n).length=n
 |0,_=>rfl
 |n+1,x=>by rw[dM,aLS,bS n]
theorem IP:∀(n x:Nat),jW (dM x n)=x%256^n
 |0,x=>by simp[dM,jW,Nat.mod_one]
 |n+1,x=>by
  rw[dM,jW,IP n,aMe,aMb (256^n) 256,Nat.mod_mul]
  have:(UInt8.ofNat (x%256)).toNat=x%256:=by
   rw[aNN];omega
  rw[this]
theorem anM:∀(n x:Nat),dM x (n+1)=dM x n++[UInt8.ofNat (x/256^n%256)]
 |0,x=>by simp[dM]
 |n+1,x=>by
  rw[dM,anM n (x/256),dM,aMo,aMV,aMe,aMb (256^n) 256]
def aKI(f:Nat):List UInt8->Except Int (Nat×List UInt8)
 |[]=> .error 10
 |x::r=> .ok ((f-128)*256+x.toNat,r)
def aKJ:List UInt8->Except Int (Nat×List UInt8)
 |x::y::r=> .ok (x.toNat+256*y.toNat+32512,r)
 |_=> .error 10
def auO:List UInt8->Except Int (Nat×List UInt8)
 |[]=> .error 10
 |f::r=>if f.toNat<128 then .ok (f.toNat,r)else if f.toNat<255 then aKI f.toNat r else aKJ r
def afO(n:Nat):List UInt8:=
 if n<128 then[UInt8.ofNat n]else if n<32512 then[UInt8.ofNat (n/256+128),UInt8.ofNat (n%256)]else UInt8.ofNat 255::dM (n-32512) 2
theorem PW{n:Nat}(h:n<256):(UInt8.ofNat n).toNat=n:=by rw[aNN];omega
theorem aCa{n:Nat}(h:n<=98047)(r:List UInt8):auO (afO n++r)= .ok (n,r):=by
 unfold afO
 split
 .show auO (UInt8.ofNat n::r)=_
  rw[auO,PW (by omega),if_pos (by omega)]
 .split
  .show auO (UInt8.ofNat (n/256+128)::UInt8.ofNat (n%256)::r)=_
   rw[auO,PW (by omega),if_neg (by omega),if_pos (by omega)]
   show Except.ok ((n/256+128-128)*256+(UInt8.ofNat (n%256)).toNat,r)=_
   rw[PW (by omega)]
   congr 2;omega
  .show auO (UInt8.ofNat 255::(dM (n-32512) 2++r))=_
   rw[auO,PW (by omega),if_neg (by omega),if_neg (by omega)]
   show Except.ok ((UInt8.ofNat ((n-32512)%256)).toNat+256*(UInt8.ofNat ((n-32512)/256%256)).toNat+32512,r)=_
   rw[PW (by omega),PW (by omega)]
   congr 2;omega
end Go.Pu
namespace Go.Proofs.YtoecppploooloaaGreatDoor
open Go Go.En Go.Pu
set_option maxRecDepth 4000
def AtS(v:aOn)(S:Nat->Prop):Prop:=∀M:Nat->Prop,(∀b,S b->¬M b)->¬JN v M
theorem AtI.toS {v:aOn}{lo hi:Nat}{S:Nat->Prop}(h:AtI v lo hi)(hS:∀b,lo<=b->b<hi->S b):AtS v S:=λM hM=>h M λb h1 h2=>hM b (hS b h1 h2)
theorem AtS.mono {v:aOn}{S T:Nat->Prop}(h:AtS v S)(hT:∀b,S b->T b):AtS v T:=λM hM=>h M λb hb=>hM b (hT b hb)
theorem AtS.toI {v:aOn}{S:Nat->Prop}{lo hi:Nat}(h:AtS v S)(hS:∀b,S b->lo<=b/\b<hi):AtI v lo hi:=λM hM=>h M λb hb=>hM b (hS b hb).1 (hS b hb).2
theorem AtS.nil (S:Nat->Prop):AtS (.slice none 0 0) S:=λM _ h=>h
theorem AtS.sub {a:Option Addr}{n c m c' k mx sz:Nat}{S:Nat->Prop}(h:AtS (.slice a n c) S)(hm:m<=n):AtS (.slice (cW a mx k sz) m c') S:=by
 intro M hM hin
 cases m with
 |zero=>unfold JN at hin;split at hin<;>simp_all
 |succ m=>
  obtain⟨n',rfl⟩:∃n',n=n'+1:=⟨n-1,by omega⟩
  have h1:=h M hM
  cases a with
  |none=>unfold cW at hin;split at hin<;>exact hin
  |some x=>
   unfold cW at hin
   have h2:M x.block:=by
    split at hin
    .exact hin
    .rw [aL6]at hin
     have e:(x.add (k*sz)).block=x.block:=by unfold Addr.add;split<;>rfl
     have h3:M (x.add (k*sz)).block:=hin
     rwa [e]at h3
   exact h1 h2
theorem aJ0 {w:aOm}{a:Option Addr}{n c:Nat}{l:List aOn}(h:Sl w (.slice a n c) l){k:Nat}(hk:k<=n):Sl w (.slice (cW a k 0 1) (k-0) (k-0)) (l.take k):=by
 obtain⟨a',n',c',e,hn,hc,h⟩:=h
 cases e
 refine⟨_,_,_,rfl,by rw[aLD];omega,aLA _,λh0=> ?_⟩
 obtain⟨b,off,rfl,h2⟩:=h (by omega)
 have hs:cW (some ⟨b,off,none⟩) k 0 1=some ⟨b,off+0*1,none⟩:=by unfold cW;rw[if_neg (by omega)]<;>rfl
 refine⟨b,off,by rw[hs];simp,λi hi=> ?_⟩
 rw[aLX (by omega)]
 exact h2 i (by omega)
def Pa(w:aOm)(lo hi p:Nat)(l:List UInt8)(e:Int):Prop:=lo<=p/\p<hi/\∃v,aZ w p [v,.int .i64 e]/\Bs w v l/\AtS v (λb=>lo<=b/\b<hi/\b≠p)
theorem Pa.ext {w w':aOm}{lo hi p:Nat}{l:List UInt8}{e:Int}{M:Nat->Prop}(h:Pa w lo hi p l e)(x:aN w w' M)(hM:∀b,lo<=b->b<hi->¬M b):Pa w' lo hi p l e:=by
 obtain⟨h0,h0',v,h1,h2,h3⟩:=h
 exact⟨h0,h0',v,h1.ext x (hM _ h0 h0'),h2.ext x (h3 M λb hb=>hM b hb.1 hb.2.1),h3⟩
theorem Pa.lt {w:aOm}{lo hi p:Nat}{l:List UInt8}{e:Int}(h:Pa w lo hi p l e):p<w.heap.size:=by
 obtain⟨_,_,v,h1,_⟩:=h;exact h1.lt
theorem GO{v:aOn}{l:List UInt8}{w:aOm}(h:Bs w v l)(hl:l.length<=1000000000):
 aK pg fN #[v] w (λr w'=>∃p,r= .pointer (some ⟨p,0,none⟩)/\Pa w' w.heap.size w'.heap.size p l 0/\aN w w' bJ):=by
 refine RC ?_
 unfold NB HH
 refine(agI h hl).mono ?_
 rintro r w1 ⟨ho,x1⟩
 have hat:=pC.atI ho
 have hs:=ho.sl
 obtain⟨va,vc,rfl⟩:=ho.len
 simp(disch:=omega)only[SV]
 refine fC λw2 o2 x2 s2=> ?_
 have o2:aZ w2 w1.heap.size [.slice va l.length vc,.int .i64 0]:=o2
 have hz:=o2.lt
 exact⟨w1.heap.size,rfl,⟨x1.size,hz,_,o2,hs.ext x2 (aU _),hat.toS λb h1 h2=>⟨h1,by omega,by omega⟩⟩,x1.seq x2⟩
def D2 (l:List UInt8)(e:Int)(n:Nat):List UInt8×List UInt8×Int:=if e≠0 then([],l,e)else if l.length<n then([],l,10)else(l.take n,l.drop n,0)
theorem asS{lo hi p n:Nat}{l:List UInt8}{e:Int}{w:aOm}(h:Pa w lo hi p l e)(hl:l.length<=1000000000)(hn:n<=1000000000):
 aK pg kT #[.pointer (some ⟨p,0,none⟩),.int .i64 n,.bool true] w (λr w'=>Bs w' r (D2 l e n).1/\AtS r (λb=>lo<=b/\b<hi/\b≠p)/\Pa w' lo hi p (D2 l e n).2.1 (D2 l e n).2.2/\aN w w' (λy=>y=p)):=by
 refine NF ?_
 unfold Jd Ed
 have h':=h
 obtain⟨h0,h0',v,o,hb,hat⟩:=h'
 obtain⟨va,vc,rfl,hvc⟩:=hb.len
 rw[aLv]at hb hat o hvc
 have c0:=o.cell (off:=0)
 have c1:=o.cell (off:=1)
 simp only[aLu,aLw]at c0 c1
 by_cases he:e=0
 rotate_left
 .have n1:(e !=0)=true:=by simpa using he
  have ht:D2 l e n=([],l,e):=by unfold D2;rw[if_pos he]
  rw[ht]
  simp(disch:=omega)only[SV,c1,n1]
  exact⟨Sl.nil _,AtS.nil _,h,aN.refl _ _⟩
 subst he
 have n1:((0:Int) !=0)=false:=rfl
 by_cases hsh:l.length<n
 .have d1:decide ((l.length:Int)<(n:Int))=true:=by simp;omega
  have ht:D2 l 0 n=([],l,10):=by unfold D2;rw[if_neg (by decide),if_pos hsh]
  rw[ht]
  simp(disch:=omega)only[SV,c1,n1,c0,d1]
  refine IM o rfl (by simp) λw1 o1 x1 s1=> ?_
  simp only[aLy,aLB]at o1
  exact⟨Sl.nil _,AtS.nil _,⟨h0,h0',_,o1,hb.ext x1 (hat _ λb hb=>hb.2.2),hat⟩,x1⟩
 .have d1:decide ((l.length:Int)<(n:Int))=false:=by simp;omega
  have ht:D2 l 0 n=(l.take n,l.drop n,0):=by unfold D2;rw[if_neg (by decide),if_neg hsh]
  rw[ht]
  simp(disch:=omega)only[SV,c1,n1,c0,d1]
  refine lK o rfl (by simp[one]) λw1 o1 x1 s1=> ?_
  simp only[aLy,aLB]at o1
  have hbn:Bs w (.slice (cW va n 0 1) (n-0) (n-0)) (l.take n):=by
   have:=aJ0 hb (k:=n) (by omega)
   rwa [<-aNg]at this
  have hbd:Bs w (.slice (cW va vc n 1) (l.length-n) (vc-n)) (l.drop n):=by
   have:=hb.drop' (k:=n) (by omega)
   rwa [<-aNx]at this
  have hn1:=hat.sub (mx:=n) (k:=0) (sz:=1) (m:=n-0) (c':=n-0) (by omega)
  have hn2:=hat.sub (mx:=vc) (k:=n) (sz:=1) (m:=l.length-n) (c':=vc-n) (by omega)
  exact⟨hbn.ext x1 (hn1 _ λb hb=>hb.2.2),hn1,⟨h0,h0',_,o1,hbd.ext x1 (hn2 _ λb hb=>hb.2.2),hn2⟩,x1⟩
theorem SE{lo hi p:Nat}{l:List UInt8}{e:Int}{w:aOm}(h:Pa w lo hi p l e):
 aK pg eU #[.pointer (some ⟨p,0,none⟩)] w (λr w'=>r= .int .i64 l.length/\w'=w):=by
 refine ND ?_
 unfold Ja Ec
 obtain⟨h0,h0',v,o,hb,hat⟩:=h
 obtain⟨va,vc,rfl,hvc⟩:=hb.len
 rw[aLv]at hb hat o hvc
 have c0:=o.cell (off:=0)
 simp only[aLu,aLw]at c0
 simp(disch:=omega)only[SV,c0]
theorem Lm{lo hi p:Nat}{l:List UInt8}{e:Int}{w:aOm}(h:Pa w lo hi p l e):
 aK pg cU #[.pointer (some ⟨p,0,none⟩)] w (λr w'=>r= .int .i64 e/\w'=w):=by
 refine Py ?_
 unfold Ln Gt
 obtain⟨h0,h0',v,o,hb,hat⟩:=h
 have c1:=o.cell (off:=1)
 simp only[aLu,aLw]at c1
 simp(disch:=omega)only[SV,c1]
theorem aaQ{lo hi p n:Nat}{l:List UInt8}{e:Int}{w:aOm}(h:Pa w lo hi p l e)(hl:l.length<=1000000000)(hn:n<=1000000000):
 aK pg gQ #[.pointer (some ⟨p,0,none⟩),.int .i64 n] w (λr w'=>Bs w' r (D2 l e n).1/\AtS r (λb=>lo<=b/\b<hi/\b≠p)/\Pa w' lo hi p (D2 l e n).2.1 (D2 l e n).2.2/\aN w w' (λy=>y=p)):=by
 refine Me ?_
 unfold HJ CR
 have d1:decide ((0:Int)<=(n:Int))=true:=by simp
 simp(disch:=omega)only[SV,d1]
 refine(asS h hl hn).mono ?_
 rintro r w1 hr
 exact hr
theorem yI{lo hi p n:Nat}{l:List UInt8}{e:Int}{w:aOm}(h:Pa w lo hi p l e)(hl:l.length<=1000000000)(hn:1<=n/\n<=8):
 aK pg cC #[.pointer (some ⟨p,0,none⟩),.int .i64 n] w (λr w'=>r= .int .u64 (jW (D2 l e n).1:Nat)/\Pa w' lo hi p (D2 l e n).2.1 (D2 l e n).2.2/\aN w w' (λy=>y=p)):=by
 refine KT ?_
 unfold Gu Cd Cc sO sN Cb
 have d1:decide ((1:Int)<=(n:Int))=true:=by simp;omega
 have d2:decide ((n:Int)<=8)=true:=by simp;omega
 simp(disch:=omega)only[SV,d1,d2]
 refine(asS h hl (by omega)).mono ?_
 rintro r w1 ⟨hb,hat,hr,x1⟩
 obtain⟨t,ht⟩:∃t,t=(D2 l e n).1:=⟨_,rfl⟩
 have htl:t.length<=8:=by
  rw[ht];unfold D2
  split
  .simp
  .split
   .simp
   .simp;omega
 rw[<-ht]at hb⊢
 obtain⟨va,vc,rfl,hvc⟩:=hb.len
 rw[aLv]at hb hvc hat
 simp(disch:=omega)only[SV,aLv]
 unfold lM
 refine aX.rule (λm s w'=>∃i:Nat,m=t.length-i/\i<=t.length/\s=(.int .u64 (jW (t.take i):Nat),.int .i64 i)/\w'=w1) t.length ⟨0,rfl,by omega,rfl,rfl⟩ ?_
 rintro m s w2 ⟨i,rfl,hi,rfl,hw⟩
 rw[hw];clear hw w2
 unfold sM
 by_cases hlt:i<t.length
 .have d3:decide ((i:Int)<(t.length:Int))=true:=by simp;omega
  obtain⟨c,hc⟩:∃c,c=t[i]'hlt:=⟨_,rfl⟩
  have htk:t.take (i+1)=t.take i++[c]:=by rw[aMG,aLt hlt,<-hc]<;>rfl
  have hor:=aGu (t.take i) c
  rw[<-htk,aLD,aMk (by omega)]at hor
  have hcl:c.toNat<256:=aM7 c
  obtain⟨b,off,c',hv,hcc,hcell⟩:=hb.openV (by rw[aLv];omega)
  have g1:=hcell i (by rw[aLv];exact hlt)
  rw[aLv]at hv
  cases hv
  rw[aMp,<-hc]at g1
  simp only[dR]at g1
  generalize c.toNat=cx at*
  have hp:2^(8*i)<=2^56:=aLG (by omega) (by omega)
  have hm:cx*2^(8*i)<=255*2^56:=Nat.mul_le_mul (by omega) hp
  have hb0:=LN (t.take i)
  have hb1:=LN (t.take (i+1))
  rw[aLD,aMk (by omega)]at hb0 hb1
  have hq:256^i<=256^7:=aLG (by omega) (by omega)
  have e0:((8:Int)*(i:Int))=((8*i:Nat):Int):=by omega
  have e5:IntKind.u64.wrap ((cx:Int)*2^(min (8*i) IntKind.u64.bits))=((cx*2^(8*i):Nat):Int):=by
   rw[show min (8*i) IntKind.u64.bits=8*i from aMk (by have:IntKind.u64.bits=64:=rfl
                                                       omega)]
   have e:(cx:Int)*2^(8*i)=((cx*2^(8*i):Nat):Int):=by simp
   rw[e]
   exact gP (by omega) (by omega)
  have e6:=aAZ (a:=jW (t.take i)) (b:=cx*2^(8*i)) (by omega) (by omega)
  rw[hor]at e6
  have e7:IntKind.u64.wrap (cx:Int)=(cx:Int):=gP (by omega) (by omega)
  simp(disch:=omega)only[SV,d3,g1,e0,e5,e6,e7,aLv,aLx]
  exact⟨t.length-(i+1),by omega,i+1,rfl,by omega,rfl⟩
 .have d3:decide ((i:Int)<(t.length:Int))=false:=by simp;omega
  obtain rfl:i=t.length:=by omega
  simp(disch:=omega)only[SV,d3]
  unfold sL
  rw[aNv]
  exact⟨rfl,hr,x1⟩
def nxS(s:List UInt8×Int)(n:Nat):List UInt8×Int:=((D2 s.1 s.2 n).2.1,(D2 s.1 s.2 n).2.2)
def nvS(s:List UInt8×Int)(n:Nat):Nat:=jW (D2 s.1 s.2 n).1
structure FH where
 window:Nat
 size:Nat
 known:Bool
 sum:Bool
def aFl(w:Nat):Nat:=2^(10+w/8)+2^(10+w/8)/8*(w%8)
def Vc(d:Nat):Bool:=d/32%2==1
def fDn(d:Nat):Nat:=if d%4=3 then 4 else d%4
def XV(d:Nat):Nat:=if d/64=0 then(if Vc d then 1 else 0)else 2^(d/64)
def opS(s:List UInt8×Int)(n:Nat):List UInt8×Int:=if 0<n then nxS s n else s
def opV(s:List UInt8×Int)(n:Nat):Nat:=if 0<n then nvS s n else 0
def fS2 (s1:List UInt8×Int)(d:Nat):List UInt8×Int:=if Vc d then s1 else nxS s1 1
def aeX(L:Nat)(s4:List UInt8×Int)(dict:Nat)(h:FH):Except Int (FH×Nat):=
 if s4.2≠0 then .error s4.2 else if dict≠0 then .error 14 else .ok (h,L-s4.1.length)
def fSz(d x:Nat):Nat:=if XV d=2 then x+256 else x
def ahS(L:Nat)(s1:List UInt8×Int)(d:Nat):Except Int (FH×Nat):=
 aeX L (opS (opS (fS2 s1 d) (fDn d)) (XV d)) (opV (fS2 s1 d) (fDn d))
  ⟨if Vc d then fSz d (opV (opS (fS2 s1 d) (fDn d)) (XV d))else aFl (nvS s1 1),fSz d (opV (opS (fS2 s1 d) (fDn d)) (XV d)),decide (0<XV d),d/4%2==1⟩
def QJ(l:List UInt8):Except Int (FH×Nat):=
 if(nxS (l,0) 1).2≠0 then .error (nxS (l,0) 1).2 else if nvS (l,0) 1/8%2=1 then .error 11 else ahS l.length (nxS (l,0) 1) (nvS (l,0) 1)
def fhV(h:FH):aOn:= .agg #[.int .u64 (h.window:Nat),.int .u64 (h.size:Nat),.bool h.known,.bool h.sum]
def fRV:Except Int (FH×Nat)->aOn
 | .error e=> .tuple #[fhV ⟨0,0,false,false⟩,.int .i64 0,.int .i64 e]
 | .ok (h,n)=> .tuple #[fhV h,.int .i64 (n:Nat),.int .i64 0]
def Oa(h:FH):List aOn:=[.int .u64 (h.window:Nat),.int .u64 (h.size:Nat),.bool h.known,.bool h.sum]
theorem atF{RR:aOn->aOm->Prop}{v:aOn}{L lo hi pr ph pt dict:Nat}{l:List UInt8}{e:Int}{h:FH}{z:FH}{w:aOm}(hr:Pa w lo hi pr l e)(hl:l.length<=1000000)(hv:∃a c,v= .slice a L c)(hL:l.length<=L)(hL2:L<=1000000)(oh:aZ w ph (Oa h))(ot:aZ w pt (Oa z))(hne:ph≠pt)(hpt:¬(lo<=pt/\pt<hi))
 (hk:∀w',aN w w' (λy=>y=pt)->RR (fRV (aeX L (l,e) dict h)) w'):
 FZ RR v (.pointer (some ⟨pt,0,none⟩)) (.pointer (some ⟨pr,0,none⟩)) (.pointer (some ⟨ph,0,none⟩)) (.int .u64 (dict:Nat)) w:=by
 unfold FZ
 obtain⟨a,c,rfl⟩:=hv
 refine(Lm hr).mono ?_
 rintro r w1 ⟨rfl,rfl⟩
 unfold aeX at hk
 by_cases he:e=0
 .subst he
  have n0:((0:Int) !=0)=false:=rfl
  simp only[ne_eq,not_true,if_false]at hk
  by_cases hd:dict=0
  .subst hd
   have n1:(((0:Nat):Int) !=0)=false:=rfl
   simp only[ne_eq,not_true,if_false]at hk
   have hq:=abN (off:=0) (bV oh) (by simp[Oa])
   simp only[Oa,aLE,aLC,aLK]at hq
   simp(disch:=omega)only[SV,n0,n1,hq]
   refine(SE (hr.ext (aN.dr w1 bJ) (λ_ _ _ h=>h))).mono ?_
   rintro r w2 ⟨rfl,rfl⟩
   have e1:(L:Int)-(l.length:Int)=((L-l.length:Nat):Int):=by omega
   simp(disch:=omega)only[SV,hq,e1]
   refine jC (bV ot) rfl (by simp[one]) (by simp[Oa]) λw3 o3 x3 s3=> ?_
   try simp(disch:=omega)only[SV,e1]
   refine sV o3 (by simp[aT,Oa]) ?_
   simp only[aT,Oa,aLy,aLB,aLE,aLC,aLK]
   exact hk w3 ((aN.dr w1 _).seq x3)
  .have n1:((dict:Int) !=0)=true:=by simp;omega
   rw[if_pos hd]at hk
   simp(disch:=omega)only[SV,n0,n1]
   refine jC ot rfl (by simp[one]) (by simp[Oa]) λw3 o3 x3 s3=> ?_
   refine sV o3 (by simp[aT,Oa]) ?_
   simp only[aT,Oa,aLy,aLB,aLE,aLC,aLK]
   exact hk w3 x3
 .have n0:(e !=0)=true:=by simp[he]
  rw[if_pos he]at hk
  simp(disch:=omega)only[SV,n0]
  refine(Lm hr).mono ?_
  rintro r w2 ⟨rfl,rfl⟩
  refine jC ot rfl (by simp[one]) (by simp[Oa]) λw3 o3 x3 s3=> ?_
  refine sV o3 (by simp[aT,Oa]) ?_
  simp only[aT,Oa,aLy,aLB,aLE,aLC,aLK]
  exact hk w3 x3
theorem atG{RR:aOn->aOm->Prop}{v:aOn}{L lo hi pr ph pt dict:Nat}{l:List UInt8}{e:Int}{h:FH}{z:FH}{o:Bool}{w:aOm}(hr:Pa w lo hi pr l e)(hl:l.length<=1000000)(hv:∃a c,v= .slice a L c)(hL:l.length<=L)(hL2:L<=1000000)(oh:aZ w ph (Oa h))(ot:aZ w pt (Oa z))(hne:ph≠pt)(hpt:¬(lo<=pt/\pt<hi))(hph:¬(lo<=ph/\ph<hi))
 (hk:∀w',aN w w' (λy=>y=pt∨y=ph)->RR (fRV (aeX L (l,e) dict ⟨if o then h.size else h.window,h.size,h.known,h.sum⟩)) w'):
 F0 RR v (.pointer (some ⟨pt,0,none⟩)) (.pointer (some ⟨pr,0,none⟩)) (.pointer (some ⟨ph,0,none⟩)) (.bool o) (.int .u64 (dict:Nat)) w:=by
 unfold F0 VW
 cases o with
 |false=>
  simp(disch:=omega)only[SV]
  exact atF hr hl hv hL hL2 oh ot hne hpt λw' x=>hk w' (x.mono λ_ _ h=> .inl h)
 |true=>
  have c1:=oh.cell (off:=1)
  simp only[Oa,aLu,aLw]at c1
  simp(disch:=omega)only[SV,c1]
  refine IT oh rfl (by simp[Oa]) λw1 o1 x1 s1=> ?_
  refine atF (h:=⟨h.size,h.size,h.known,h.sum⟩) (hr.ext x1 λy h1 h2 h3=>hph (h3▸⟨h1,h2⟩)) hl hv hL hL2 o1 (ot.ext x1 (λe=>hne e.symm)) hne hpt λw' x=>hk w' ((x1.mono λ_ _ h=> .inr h).seq (x.mono λ_ _ h=> .inl h))
theorem atH{RR:aOn->aOm->Prop}{v:aOn}{L lo hi pr ph pt dict n:Nat}{l:List UInt8}{e:Int}{h:FH}{z:FH}{o:Bool}{w:aOm}(hn:n=2->h.size<65536)(hr:Pa w lo hi pr l e)(hl:l.length<=1000000)(hv:∃a c,v= .slice a L c)(hL:l.length<=L)(hL2:L<=1000000)(oh:aZ w ph (Oa h))(ot:aZ w pt (Oa z))(hne:ph≠pt)(hpt:¬(lo<=pt/\pt<hi))(hph:¬(lo<=ph/\ph<hi))
 (hk:∀w',aN w w' (λy=>y=pt∨y=ph)->RR (fRV (aeX L (l,e) dict ⟨if o then(if n=2 then h.size+256 else h.size)else h.window,if n=2 then h.size+256 else h.size,h.known,h.sum⟩)) w'):
 F1 RR v (.pointer (some ⟨pt,0,none⟩)) (.pointer (some ⟨pr,0,none⟩)) (.pointer (some ⟨ph,0,none⟩)) (.bool o) (.int .u64 (dict:Nat)) (.int .i64 (n:Nat)) w:=by
 unfold F1 VX
 by_cases h2:n=2
 .have n1:((n:Int)==2)=true:=by rw[h2]<;>rfl
  simp only[h2,if_true]at hk
  have hs:=hn h2
  have c1:=oh.cell (off:=1)
  simp only[Oa,aLu,aLw]at c1
  have e1:(h.size:Int)+256=((h.size+256:Nat):Int):=by omega
  simp(disch:=omega)only[SV,n1,c1,e1]
  refine IT oh rfl (by simp[Oa]) λw1 o1 x1 s1=> ?_
  refine atG (h:=⟨h.window,h.size+256,h.known,h.sum⟩) (hr.ext x1 λy h1 h2 h3=>hph (h3▸⟨h1,h2⟩)) hl hv hL hL2 o1 (ot.ext x1 (λe=>hne e.symm)) hne hpt hph λw' x=>hk w' ((x1.mono λ_ _ h=> .inr h).seq x)
 .have n1:((n:Int)==2)=false:=by simp;omega
  simp only[if_neg h2]at hk
  simp(disch:=omega)only[SV,n1]
  exact atG hr hl hv hL hL2 oh ot hne hpt hph hk
theorem aD5 {RR:aOn->aOm->Prop}{v:aOn}{L lo hi pr ph pt dict n:Nat}{s:List UInt8×Int}{h:FH}{z:FH}{o:Bool}{w:aOm}(hn8:n<=8)(hn:n=2->h.size<65536)(hk0:h.known=false)(hs0:h.size=0)(hr:Pa w lo hi pr s.1 s.2)(hl:s.1.length<=1000000)(hv:∃a c,v= .slice a L c)(hL:s.1.length<=L)(hL2:L<=1000000)(oh:aZ w ph (Oa h))(ot:aZ w pt (Oa z))(hne:ph≠pt)(hpt:¬(lo<=pt/\pt<hi))(hph:¬(lo<=ph/\ph<hi))(hpr:lo<=pr/\pr<hi)
 (hk:∀w',aN w w' (λy=>y=pt∨y=ph∨y=pr)->RR (fRV (aeX L (opS s n) dict ⟨if o then(if n=2 then opV s n+256 else opV s n)else h.window,if n=2 then opV s n+256 else opV s n,decide (0<n),h.sum⟩)) w'):
 A4 RR v (.pointer (some ⟨pt,0,none⟩)) (.pointer (some ⟨pr,0,none⟩)) (.pointer (some ⟨ph,0,none⟩)) (.bool o) (.int .u64 (dict:Nat)) (.int .i64 (n:Nat)) w:=by
 unfold A4 VY
 by_cases h0:0<n
 .have d1:decide ((n:Int)>0)=true:=decide_eq_true (by omega)
  have d2:decide ((0:Int)<(n:Int))=true:=decide_eq_true (by omega)
  unfold opS opV at hk
  simp only[if_pos h0,decide_eq_true h0]at hk
  have hlt:nvS s n<256^n:=by
   unfold nvS D2
   split
   .simp [jW];exact Nat.pow_pos (by omega)
   .split
    .simp [jW];exact Nat.pow_pos (by omega)
    .have:=LN (s.1.take n)
     rw[aLD,aMk (by omega)]at this
     exact this
  have hle:(nxS s n).1.length<=s.1.length:=by
   unfold nxS D2
   split
   .exact aLA _
   .split
    .exact aLA _
    .simp only[aLP];omega
  simp(disch:=omega)only[SV,d1,d2]
  refine(yI hr (by omega) ⟨h0,hn8⟩).mono ?_
  rintro r w1 ⟨rfl,hr1,x1⟩
  have oh1:=oh.ext x1 (λe=>hph (e▸hpr))
  have ot1:=ot.ext x1 (λe=>hpt (e▸hpr))
  refine IT oh1 rfl (by simp[Oa]) λw2 o2 x2 s2=> ?_
  refine aGV (off:=2) o2 rfl (by simp[Oa]) λw3 o3 x3 s3=> ?_
  have x23:=x2.seq x3
  refine atH (h:=⟨h.window,nvS s n,true,h.sum⟩) (l:=(nxS s n).1) (e:=(nxS s n).2) (λh2=>by rw[h2]at hlt;rw[h2];simpa using hlt) (hr1.ext x23 λy h1 h2 h3=>hph (h3▸⟨h1,h2⟩)) (by omega) hv (by omega) hL2 o3 (ot1.ext x23 (λe=>hne e.symm)) hne hpt hph λw' x=>hk w' (((x1.mono λ_ _ h=> .inr (.inr h)).seq (x23.mono λ_ _ h=> .inr (.inl h))).seq (x.mono λ_ _ h=>h.elim .inl λh=> .inr (.inl h)))
 .have d1:decide ((n:Int)>0)=false:=decide_eq_false (by omega)
  have d2:decide ((0:Int)<(n:Int))=false:=decide_eq_false (by omega)
  unfold opS opV at hk
  simp only[if_neg h0,decide_eq_false h0]at hk
  simp(disch:=omega)only[SV,d1,d2]
  refine atH (h:=h) (l:=s.1) (e:=s.2) hn hr hl hv hL hL2 oh ot hne hpt hph λw' x=> ?_
  have:=hk w' (x.mono λ_ _ h=>h.elim .inl λh=> .inr (.inl h))
  rw[hs0,hk0]
  exact this
theorem atJ{RR:aOn->aOm->Prop}{v:aOn}{L lo hi pr ph pt dict d:Nat}{s:List UInt8×Int}{h:FH}{z:FH}{w:aOm}(hd:d<256)(hk0:h.known=false)(hs0:h.size=0)(hr:Pa w lo hi pr s.1 s.2)(hl:s.1.length<=1000000)(hv:∃a c,v= .slice a L c)(hL:s.1.length<=L)(hL2:L<=1000000)(oh:aZ w ph (Oa h))(ot:aZ w pt (Oa z))(hne:ph≠pt)(hpt:¬(lo<=pt/\pt<hi))(hph:¬(lo<=ph/\ph<hi))(hpr:lo<=pr/\pr<hi)
 (hk:∀w',aN w w' (λy=>y=pt∨y=ph∨y=pr)->RR (fRV (aeX L (opS s (XV d)) dict ⟨if Vc d then fSz d (opV s (XV d))else h.window,fSz d (opV s (XV d)),decide (0<XV d),h.sum⟩)) w'):
 A5 RR v (.pointer (some ⟨pt,0,none⟩)) (.pointer (some ⟨pr,0,none⟩)) (.int .i64 (d:Nat)) (.pointer (some ⟨ph,0,none⟩)) (.bool (Vc d)) (.int .u64 (dict:Nat)) w:=by
 unfold A5 VZ
 have main:∀n:Nat,n=XV d->A4 RR v (.pointer (some ⟨pt,0,none⟩)) (.pointer (some ⟨pr,0,none⟩)) (.pointer (some ⟨ph,0,none⟩)) (.bool (Vc d)) (.int .u64 (dict:Nat)) (.int .i64 (n:Nat)) w:=by
  rintro n rfl
  refine aD5 (h:=h) (s:=s) ?_ (λ_=>by omega) hk0 hs0 hr hl hv hL hL2 oh ot hne hpt hph hpr λw' x=> ?_
  .unfold XV
   have:d/64=0∨d/64=1∨d/64=2∨d/64=3:=by omega
   rcases this with h|h|h|h<;>rw[h]<;>simp
   split<;>omega
  .have:=hk w' x
   unfold fSz at this
   exact this
 have h4:d/64=0∨d/64=1∨d/64=2∨d/64=3:=by omega
 have e6:(d:Int).fdiv (2^min (Int.toNat 6) IntKind.i64.bits)=((d/64:Nat):Int):=by
  have:(2:Int)^min (Int.toNat 6) IntKind.i64.bits=64:=by decide
  rw[this,aMh _ (by omega)];omega
 rcases h4 with h4|h4|h4|h4<;>rw[h4]at e6
 .cases ho:Vc d with
  |true=>
   have e:1=XV d:=by unfold XV;rw[h4,ho]<;>rfl
   have:=main 1 e
   rw[ho]at this
   simp(disch:=omega)only[aA,dN,nZ,e6,wE,jX,if_true,aF,jF,nO,aLx]
   exact this
  |false=>
   have e:0=XV d:=by unfold XV;rw[h4,ho]<;>rfl
   have:=main 0 e
   rw[ho]at this
   simp(disch:=omega)only[aA,dN,nZ,e6,yK,jX,aLF,if_false,aF,aR,gF,nO,aLx]
   exact this
 .have e:2=XV d:=by unfold XV;rw[h4]<;>rfl
  simp(disch:=omega)only[aA,dN,nZ,e6,jX,aF,nO,aLx]
  cases ho:Vc d<;>(simp(disch:=omega)only[yK,aLF,if_false,aR,gF,wE,if_true,jF];rw[<-ho];exact main 2 e)
 .have e:4=XV d:=by unfold XV;rw[h4]<;>rfl
  simp(disch:=omega)only[aA,dN,nZ,e6,jX,aF,nO,aLx]
  cases ho:Vc d<;>(simp(disch:=omega)only[yK,aLF,if_false,aR,gF,wE,if_true,jF];rw[<-ho];exact main 4 e)
 .have e:8=XV d:=by unfold XV;rw[h4]<;>rfl
  simp(disch:=omega)only[aA,dN,nZ,e6,jX,aF,nO,aLx]
  cases ho:Vc d<;>(simp(disch:=omega)only[yK,aLF,if_false,aR,gF,wE,if_true,jF];rw[<-ho];exact main 8 e)
theorem aHk{d:Nat}(h:d<256):Cq .i64 (d:Int) 3=((d%4:Nat):Int)/\(Cq .i64 (d:Int) 4 !=0)=(d/4%2==1)/\(Cq .i64 (d:Int) 8 !=0)=(d/8%2==1)/\(Cq .i64 (d:Int) 32 !=0)=(d/32%2==1):=by
 have:∀k:Fin 256,Cq .i64 (k.val:Int) 3=((k.val%4:Nat):Int)/\(Cq .i64 (k.val:Int) 4 !=0)=(k.val/4%2==1)/\(Cq .i64 (k.val:Int) 8 !=0)=(k.val/8%2==1)/\(Cq .i64 (k.val:Int) 32 !=0)=(k.val/32%2==1):=by decide+kernel
 exact this ⟨d,h⟩
theorem aKV(x:Nat)(h:x<256):IntKind.u64.wrap (IntKind.u64.wrap (1*2^min (10+((x/8:Nat):Int)).toNat IntKind.u64.bits)+IntKind.u64.wrap (IntKind.u64.wrap ((IntKind.u64.wrap (1*2^min (10+((x/8:Nat):Int)).toNat IntKind.u64.bits)).tdiv 8)*Cq IntKind.u64 (x:Int) 7))=((aFl x:Nat):Int):=by
 have:∀k:Fin 256,IntKind.u64.wrap (IntKind.u64.wrap (1*2^min (10+((k.val/8:Nat):Int)).toNat IntKind.u64.bits)+IntKind.u64.wrap (IntKind.u64.wrap ((IntKind.u64.wrap (1*2^min (10+((k.val/8:Nat):Int)).toNat IntKind.u64.bits)).tdiv 8)*Cq IntKind.u64 (k.val:Int) 7))=((aFl k.val:Nat):Int):=by decide+kernel
 exact this ⟨x,h⟩
theorem aFm{x:Nat}{w:aOm}(h:x<256):aK pg Cu #[.int .u64 (x:Nat)] w (λr w'=>r= .int .u64 (aFl x:Nat)/\w'=w):=by
 refine Yz ?_
 unfold Yy QM
 have e0:(x:Int).fdiv (2^min (Int.toNat 3) IntKind.u64.bits)=((x/8:Nat):Int):=by
  have:(2:Int)^min (Int.toNat 3) IntKind.u64.bits=8:=by decide
  rw[this,aMh _ (by omega)];omega
 simp(disch:=omega)only[aA,nZ,e0,Cg,aF,gN,gP,HY,WC,TH,and_true]
 rw[aKV x h]
theorem amR{RR:aOn->aOm->Prop}{v:aOn}{L lo hi pr ph pt d:Nat}{s:List UInt8×Int}{h:FH}{z:FH}{w:aOm}(hd:d<256)(hk0:h.known=false)(hs0:h.size=0)(hr:Pa w lo hi pr s.1 s.2)(hl:s.1.length<=1000000)(hv:∃a c,v= .slice a L c)(hL:s.1.length<=L)(hL2:L<=1000000)(oh:aZ w ph (Oa h))(ot:aZ w pt (Oa z))(hne:ph≠pt)(hpt:¬(lo<=pt/\pt<hi))(hph:¬(lo<=ph/\ph<hi))(hpr:lo<=pr/\pr<hi)
 (hk:∀w',aN w w' (λy=>y=pt∨y=ph∨y=pr)->RR (fRV (aeX L (opS (opS s (fDn d)) (XV d)) (opV s (fDn d)) ⟨if Vc d then fSz d (opV (opS s (fDn d)) (XV d))else h.window,fSz d (opV (opS s (fDn d)) (XV d)),decide (0<XV d),h.sum⟩)) w'):
 C7 RR v (.pointer (some ⟨pt,0,none⟩)) (.pointer (some ⟨pr,0,none⟩)) (.int .i64 (d:Nat)) (.pointer (some ⟨ph,0,none⟩)) (.bool (Vc d)) w:=by
 unfold C7 SS
 obtain⟨b3,_⟩:=aHk hd
 have main:∀n:Nat,n<=8->0<n->fDn d=n->aK pg cC #[.pointer (some ⟨pr,0,none⟩),.int .i64 n] w (λt50 w1=>A5 RR v (.pointer (some ⟨pt,0,none⟩)) (.pointer (some ⟨pr,0,none⟩)) (.int .i64 (d:Nat)) (.pointer (some ⟨ph,0,none⟩)) (.bool (Vc d)) t50 w1):=by
  intro n hn h0 e
  rw[e]at hk
  unfold opS at hk
  unfold opV at hk
  rw[if_pos h0,if_pos h0]at hk
  have hle:(nxS s n).1.length<=s.1.length:=by
   unfold nxS D2
   split
   .exact aLA _
   .split
    .exact aLA _
    .simp only[aLP];omega
  refine(yI hr (by omega) ⟨h0,hn⟩).mono ?_
  rintro r w1 ⟨rfl,hr1,x1⟩
  exact atJ (s:=nxS s n) (dict:=nvS s n) hd hk0 hs0 hr1 (by omega) hv (by omega) hL2 (oh.ext x1 (λe=>hph (e▸hpr))) (ot.ext x1 (λe=>hpt (e▸hpr))) hne hpt hph hpr λw' x=>hk w' ((x1.mono λ_ _ h=> .inr (.inr h)).seq x)
 have h4:d%4=0∨d%4=1∨d%4=2∨d%4=3:=by omega
 rcases h4 with h4|h4|h4|h4<;>rw[h4]at b3
 .have e:fDn d=0:=by unfold fDn;rw[h4]<;>rfl
  have n1:decide ((0:Int)>0)=false:=rfl
  simp(disch:=omega)only[aA,dN,Cg,b3,aF,nO,aLx]
  refine atJ (s:=s) (dict:=0) hd hk0 hs0 hr hl hv hL hL2 oh ot hne hpt hph hpr λw' x=> ?_
  have:=hk w' x
  rw[e]at this
  exact this
 .have n1:decide ((1:Int)>0)=true:=rfl
  have n2:decide ((0:Int)<1)=true:=rfl
  simp(disch:=omega)only[aA,dN,Cg,b3,aF,nO,aLx]
  exact main 1 (by omega) (by omega) (by unfold fDn;rw[h4]<;>rfl)
 .have n1:decide ((2:Int)>0)=true:=rfl
  have n2:decide ((0:Int)<2)=true:=rfl
  simp(disch:=omega)only[aA,dN,Cg,b3,aF,nO,aLx]
  exact main 2 (by omega) (by omega) (by unfold fDn;rw[h4]<;>rfl)
 .have n1:decide ((4:Int)>0)=true:=rfl
  have n2:decide ((0:Int)<4)=true:=rfl
  simp(disch:=omega)only[aA,dN,Cg,b3,aF,nO,aLx]
  exact main 4 (by omega) (by omega) (by unfold fDn;rw[h4]<;>rfl)
theorem aEp(s:List UInt8×Int)(n:Nat):(nxS s n).1.length<=s.1.length:=by
 unfold nxS D2
 split
 .exact aLA _
 .split
  .exact aLA _
  .simp only[aLP];omega
theorem ajA(s:List UInt8×Int)(n:Nat):nvS s n<256^n:=by
 unfold nvS D2
 split
 .simp [jW];exact Nat.pow_pos (by omega)
 .split
  .simp [jW];exact Nat.pow_pos (by omega)
  .have:=LN (s.1.take n)
   rw[aLD,aMk (by omega)]at this
   exact this
theorem atE{v:aOn}{l:List UInt8}{w:aOm}(hb:Bs w v l)(hl:l.length<=1000000):aK pg Iv #[v] w (λr w'=>r=fRV (QJ l)/\aN w w' bJ):=by
 refine aeY ?_
 unfold ahV SX SU
 refine Bm λw1 o1 x1 s1=> ?_
 obtain⟨pt,hpt⟩:∃p,p=w.heap.size:=⟨_,rfl⟩
 rw[<-hpt]at o1⊢
 have hz1:=o1.lt
 have hb1:=hb.ext x1 (aU _)
 obtain⟨va,vc,hv,_⟩:=hb.len
 rw[aLv]at hv
 refine(GO hb1 (by omega)).mono ?_
 rintro r w2 ⟨pr,rfl,hr,x2⟩
 have o2:=o1.ext x2 (λh=>h)
 have hpr:w1.heap.size<=pr/\pr<w2.heap.size:=⟨hr.1,hr.2.1⟩
 refine(yI (n:=1) hr (by omega) ⟨by omega,by omega⟩).mono ?_
 rintro r w3 ⟨rfl,hr3,x3⟩
 have e1:(jW (D2 l 0 1).1)=nvS (l,0) 1:=rfl
 have e2:(D2 l 0 1).2.1=(nxS (l,0) 1).1:=rfl
 have e3:(D2 l 0 1).2.2=(nxS (l,0) 1).2:=rfl
 rw[e2,e3]at hr3
 rw[e1]
 have o3:=o2.ext x3 (by intro h;omega)
 obtain⟨d,hd⟩:∃d,d=nvS (l,0) 1:=⟨_,rfl⟩
 obtain⟨s,hs⟩:∃s,s=nxS (l,0) 1:=⟨_,rfl⟩
 have hdl:d<256:=by have:=ajA (l,0) 1;omega
 have hsl:s.1.length<=l.length:=by have:=aEp (l,0) 1;rw[hs];exact this
 rw[<-hd]
 rw[<-hs]at hr3
 have hfr:QJ l=if s.2≠0 then .error s.2 else if d/8%2=1 then .error 11 else ahS l.length s d:=by unfold QJ;rw[<-hd,<-hs]
 rw[hfr]
 obtain⟨b3,b4,b8,b32⟩:=aHk hdl
 have wd:IntKind.i64.wrap (d:Int)=d:=cX (by omega) (by omega)
 simp(disch:=omega)only[aA,FX,wd,EI,aF,Cg,Dr,WB,CL]
 refine(Lm hr3).mono ?_
 rintro r w4 ⟨rfl,h4⟩
 rw[h4];clear h4 w4
 have x03:aN w w3 bJ:=x1.trans (x2.trans x3 λy hy h=>by have:=x2.size;omega) λy hy h=>h
 by_cases he:s.2=0
 rotate_left
 .have n0:(s.2 !=0)=true:=by simp[he]
  rw[if_pos he]
  simp(disch:=omega)only[Dr,n0,aF,bD]
  refine(Lm hr3).mono ?_
  rintro r w4 ⟨rfl,h4⟩
  rw[h4];clear h4 w4
  refine jC o3 rfl (by simp[one]) (by simp) λw5 o5 x5 s5=> ?_
  refine sV o5 (by simp[aT]) ?_
  simp only[aT,aLy,aLB,aLE,aLC,aLK]
  exact⟨rfl,x03.trans x5 λy hy h=>by omega⟩
 have n0:(s.2 !=0)=false:=by simp[he]
 rw[if_neg (by simpa using he)]
 by_cases h8:d/8%2=1
 .have n8:(d/8%2==1)=true:=by simp[h8]
  rw[if_pos h8]
  rw[n8]at b8
  simp(disch:=omega)only[Dr,n0,b8,bD,aF,aR]
  refine jC o3 rfl (by simp[one]) (by simp) λw5 o5 x5 s5=> ?_
  refine sV o5 (by simp[aT]) ?_
  simp only[aT,aLy,aLB,aLE,aLC,aLK]
  exact⟨rfl,x03.trans x5 λy hy h=>by omega⟩
 have n8:(d/8%2==1)=false:=by simp[h8]
 rw[if_neg h8]
 rw[n8]at b8
 obtain⟨RR,hRR⟩:∃RR:aOn->aOm->Prop,RR=λr w'=>r=fRV (ahS l.length s d)/\aN w w' bJ:=⟨_,rfl⟩
 rw[<-hRR]
 have e32:(d/32%2==1)=Vc d:=rfl
 rw[e32]at b32
 simp(disch:=omega)only[Dr,n0,b8,b4,aR,aF]
 refine Bm λw5 o5 x5 s5=> ?_
 obtain⟨ph,hph⟩:∃p,p=w3.heap.size:=⟨_,rfl⟩
 rw[<-hph]at o5⊢
 have hz3:=x2.size
 have hz4:=x3.size
 refine jC o5 rfl (by simp[one]) (by simp) λw6 o6 x6 s6=> ?_
 simp only[aT,aLy,aLB]at o6
 have x36:aN w3 w6 bJ:=x5.new x6 (by omega)
 have x06:aN w w6 bJ:=x03.trans x36 λy hy h=>h
 have hr6:=hr3.ext x36 (λ_ _ _ h=>h)
 have o36:=o3.ext x36 (λh=>h)
 have oh6:aZ w6 ph (Oa ⟨0,0,false,d/4%2==1⟩):=o6
 have ot6:aZ w6 pt (Oa ⟨0,0,false,false⟩):=o36
 rw[b32]
 cases ho:Vc d with
 |true=>
  simp(disch:=omega)only[aMy,mN,aF,aR]
  rw[<-ho]
  refine amR (L:=l.length) (s:=s) hdl rfl rfl hr6 (by omega) ⟨_,_,hv⟩ hsl (by omega) oh6 ot6 (by omega) (by omega) (by omega) hpr λw' x=> ?_
  rw[hRR]
  refine⟨?_,x06.trans x λy hy h=>by omega⟩
  unfold ahS fS2
  rw[ho]
  rfl
 |false=>
  simp(disch:=omega)only[aMD,mN,aF,bD]
  refine(yI (n:=1) hr6 (by omega) ⟨by omega,by omega⟩).mono ?_
  rintro r w7 ⟨rfl,hr7,x7⟩
  have e1:(jW (D2 s.1 s.2 1).1)=nvS s 1:=rfl
  have e2:(D2 s.1 s.2 1).2.1=(nxS s 1).1:=rfl
  have e3:(D2 s.1 s.2 1).2.2=(nxS s 1).2:=rfl
  rw[e2,e3]at hr7
  rw[e1]
  refine(aFm (by have:=ajA s 1;omega)).mono ?_
  rintro r w8 ⟨rfl,h4⟩
  rw[h4];clear h4 w8
  have oh7:=oh6.ext x7 (by intro h;omega)
  have ot7:=ot6.ext x7 (by intro h;omega)
  refine IT (off:=0) oh7 rfl (by simp[Oa]) λw9 o9 x9 s9=> ?_
  simp only[Oa,aLy,aLB]at o9
  have oh9:aZ w9 ph (Oa ⟨aFl (nvS s 1),0,false,d/4%2==1⟩):=o9
  have x69:aN w6 w9 (λy=>y=pr∨y=ph):=(x7.mono λ_ _ h=> .inl h).seq (x9.mono λ_ _ h=> .inr h)
  have hle:=aEp s 1
  rw[<-ho]
  refine amR (L:=l.length) (s:=nxS s 1) hdl rfl rfl (hr7.ext x9 λy h1 h2 h=>by omega) (by omega) ⟨_,_,hv⟩ (by omega) (by omega) oh9 (ot7.ext x9 (by omega)) (by omega) (by omega) (by omega) hpr λw' x=> ?_
  rw[hRR]
  refine⟨?_,(x06.trans x69 λy hy h=>by omega).trans x λy hy h=>by omega⟩
  unfold ahS fS2
  rw[ho]
  rfl
theorem aJt(n:Nat):n&&&3=n%4:=aNc n 2
theorem aJr(n:Nat):n&&&1=n%2:=aNc n 1
theorem aHP{x:Nat}(h:x<2^62):Cq .i64 (x:Int) 3=((x%4:Nat):Int):=by
 unfold Cq
 have e1:(BitVec.ofInt IntKind.i64.bits (x:Int)&&&BitVec.ofInt IntKind.i64.bits 3).toNat=x%4:=by
  rw[BitVec.toNat_and]
  simp only[IntKind.bits,BitVec.toNat_ofInt]
  have h1:((x:Int)%((2^64:Nat):Int)).toNat=x:=by omega
  have h2:((3:Int)%((2^64:Nat):Int)).toNat=3:=by decide
  rw[h1,h2,aJt]
 rw[e1]
 exact cX (by omega) (by omega)
theorem aHO{x:Nat}(h:x<2^62):Cq .i64 (x:Int) 1=((x%2:Nat):Int):=by
 unfold Cq
 have e1:(BitVec.ofInt IntKind.i64.bits (x:Int)&&&BitVec.ofInt IntKind.i64.bits 1).toNat=x%2:=by
  rw[BitVec.toNat_and]
  simp only[IntKind.bits,BitVec.toNat_ofInt]
  have h1:((x:Int)%((2^64:Nat):Int)).toNat=x:=by omega
  have h2:((1:Int)%((2^64:Nat):Int)).toNat=1:=by decide
  rw[h1,h2,aJr]
 rw[e1]
 exact cX (by omega) (by omega)
def rbA(x:Nat):aOn:= .agg #[.bool (x%2==1),.int .i64 (x/2%4:Nat),.int .i64 (x/8:Nat)]
def rbV(l:List UInt8):aOn:=if jW l/2%4=3 then .tuple #[.agg #[.bool false,.int .i64 0,.int .i64 0],.int .i64 11]else .tuple #[rbA (jW l),.int .i64 0]
theorem avB{v:aOn}{l:List UInt8}{w:aOm}(hb:Bs w v l)(hl:l.length=3):aK pg wT #[v] w (λr w'=>r=rbV l/\aN w w' bJ):=by
 refine SR ?_
 unfold QL Ju
 refine CH λw1 o1 x1 s1=> ?_
 obtain⟨pt,hpt⟩:∃p,p=w.heap.size:=⟨_,rfl⟩
 rw[<-hpt]at o1⊢
 have hz1:=o1.lt
 have hb1:=hb.ext x1 (aU _)
 refine(GO hb1 (by omega)).mono ?_
 rintro r w2 ⟨pr,rfl,hr,x2⟩
 have o2:=o1.ext x2 (λh=>h)
 have hpr:w1.heap.size<=pr/\pr<w2.heap.size:=⟨hr.1,hr.2.1⟩
 refine(yI (n:=3) hr (by omega) ⟨by omega,by omega⟩).mono ?_
 rintro r w3 ⟨rfl,hr3,x3⟩
 have o3:=o2.ext x3 (by intro h;omega)
 have e1:D2 l 0 3=(l,[],0):=by
  unfold D2
  rw[if_neg (by decide),if_neg (by omega),aLO (by omega),aMI (by omega)]
 rw[e1]at hr3⊢
 have hlt:jW l<2^24:=by have:=LN l;rw[hl]at this;omega
 unfold rbV
 obtain⟨x,hx⟩:∃x,x=jW l:=⟨_,rfl⟩
 rw[<-hx]at hlt⊢
 have wd:IntKind.i64.wrap (x:Int)=x:=cX (by omega) (by omega)
 have s1:(x:Int).fdiv (2^min (Int.toNat 1) IntKind.i64.bits)=((x/2:Nat):Int):=by
  have:(2:Int)^min (Int.toNat 1) IntKind.i64.bits=2:=by decide
  rw[this,aMh _ (by omega)];omega
 have s3:(x:Int).fdiv (2^min (Int.toNat 3) IntKind.i64.bits)=((x/8:Nat):Int):=by
  have:(2:Int)^min (Int.toNat 3) IntKind.i64.bits=8:=by decide
  rw[this,aMh _ (by omega)];omega
 have a3:=aHP (x:=x/2) (by omega)
 have a1:=aHO (x:=x) (by omega)
 have n0:((0:Int) !=0)=false:=rfl
 have x03:aN w w3 bJ:=x1.trans (x2.trans x3 λy hy h=>by have:=x2.size;omega) λy hy h=>h
 simp(disch:=omega)only[aA,FX,wd,Hc,aF,nZ,Cg,mD,yC,tA]
 refine(Lm hr3).mono ?_
 rintro r w4 ⟨rfl,h4⟩
 rw[h4];clear h4 w4
 by_cases h3:x/2%4=3
 .have d1:decide (((x/2%4:Nat):Int)>2)=true:=decide_eq_true (by omega)
  have d2:decide ((2:Int)<((x/2%4:Nat):Int))=true:=decide_eq_true (by omega)
  rw[if_pos h3]
  simp(disch:=omega)only[Dr,n0,s1,a3,d1,bD,aF,aR]
  refine vH o3 rfl (by simp[one]) (by simp) λw5 o5 x5 s5=> ?_
  refine QX o5 (by simp[aT]) ?_
  simp only[aT,aLy,aLB,aLE,aLC,aLK]
  exact⟨trivial,x03.trans x5 λy hy h=>by omega⟩
 .have d1:decide (((x/2%4:Nat):Int)>2)=false:=decide_eq_false (by omega)
  have d2:decide ((2:Int)<((x/2%4:Nat):Int))=false:=decide_eq_false (by omega)
  have e5:(((x%2:Nat):Int)==1)=(x%2==1):=by
   have:x%2=0∨x%2=1:=by omega
   rcases this with h|h<;>rw[h]<;>rfl
  rw[if_neg h3]
  simp(disch:=omega)only[Dr,n0,s1,a3,d1,a1,e5,s3,aR,aF]
  refine vH o3 rfl (by simp[one]) (by simp) λw5 o5 x5 s5=> ?_
  refine QX o5 (by simp[aT]) ?_
  simp only[aT,aLy,aLB,aLE,aLC,aLK]
  exact⟨rfl,x03.trans x5 λy hy h=>by omega⟩
end Go.Proofs.YtoecppploooloaaGreatDoor
namespace Go.Proofs.YtoecppploooloaaGreatDoor
open Go Go.En Go.Pu
theorem aD2 {x n m:Nat}(h:m=n):(x:Int).fdiv (2^m)=((x/2^n:Nat):Int):=by
 subst h
 rw[aMh _ (by exact_mod_cast aMQ _)]
 push_cast
 rfl
theorem aIK{x n:Nat}(h:n<=64):(x:Int).fdiv (2^min n IntKind.u64.bits)=((x/2^n:Nat):Int):=aD2 (by have:IntKind.u64.bits=64:=rfl;omega)
theorem awV{x n:Nat}(hx:x<2^63)(hn:n<=62):Cq .u64 (x:Int) ((2^n-1:Nat):Int)=((x%2^n:Nat):Int):=by
 have hp:2^n<=2^62:=aLG (by omega) hn
 unfold Cq
 have e:IntKind.u64.bits=64:=rfl
 rw[e,BitVec.ofInt_natCast,BitVec.ofInt_natCast,BitVec.toNat_and,BitVec.toNat_ofNat,BitVec.toNat_ofNat,aLV (by omega),aLV (by omega),aNc]
 have:=Nat.mod_le x (2^n)
 exact gP (by omega) (by omega)
end Go.Proofs.YtoecppploooloaaGreatDoor
namespace Go.Proofs.YtoecppploooloaaGreatDoor
open Go Go.En Go.Pu
set_option maxRecDepth 4000
theorem aGo{n:Nat}{w:aOm}(hn:n<=131072):
 aK pg wV #[.int .u64 1,.int .u64 n] w (λr w'=>r= .tuple #[.int .u64 0,.int .u64 n]/\aN w w' bJ):=by
 refine TA ?_
 unfold Q3 J8
 have a1:Cq .u64 1 4294967295=1:=by decide
 have a2:Cq .u64 (n:Int) 4294967295=n:=by
  have:=awV (x:=n) (n:=32) (by omega) (by omega)
  rw[aLV (by omega)]at this
  exact this
 have a0:Cq .u64 0 4294967295=0:=by decide
 have s1:(1:Int).fdiv (2^min 32 IntKind.u64.bits)=0:=by decide
 have s0:(0:Int).fdiv (2^min 32 IntKind.u64.bits)=0:=by decide
 have s2:(n:Int).fdiv (2^min 32 IntKind.u64.bits)=0:=by
  rw[aIK (by omega),Nat.div_eq_of_lt (by omega)]<;>rfl
 have t32:(32:Int).toNat=32:=rfl
 have w0:IntKind.u64.wrap 0=0:=rfl
 have w1:IntKind.u64.wrap (n:Int)=n:=gP (by omega) (by omega)
 simp(disch:=omega)only[aA,Cg,a1,nZ,t32,s1,a2,s2,TH,Int.one_mul,w1,aF,Int.zero_mul,w0,Int.mul_zero,gN,Int.add_zero,a0,s0,true_and]
 exact aN.refl _ _
theorem aJO{n:Nat}{w:aOm}(hn:n<=131072):
 aK pg Bj #[.int .u64 1,.int .u64 n] w (λr w'=>r= .tuple #[.int .u64 0,.int .u64 n]/\aN w w' bJ):=by
 refine Xq ?_
 unfold Wo Ol
 simp(disch:=omega)only[aA,fQ,LR,aF,aR]
 refine(aGo hn).mono ?_
 rintro r w1 ⟨rfl,x1⟩
 simp(disch:=omega)only[x20,x21,aF,true_and]
 exact x1
theorem aID{z v:aOn}{i n:Nat}(hi:i<=n):aT (List.replicate i v++List.replicate (n-i) z) i ((List.replicate i v).take (min i (n-i)))=List.replicate (i+min i (n-i)) v++List.replicate (n-(i+min i (n-i))) z:=by
 have e:(List.replicate i v).take (min i (n-i))=List.replicate (min i (n-i)) v:=by
  rw[List.take_replicate];congr 1;omega
 rw[e]
 generalize hm:min i (n-i)=m
 have hm2:i+m<=n:=by omega
 clear hm e
 induction m generalizing i with
 |zero=>simp[aT]
 |succ m ih=>
  rw[aMw]
  simp only[aT]
  rw[show(List.replicate i v++List.replicate (n-i) z).set i v=List.replicate (i+1) v++List.replicate (n-(i+1)) z from ?_]
  .rw [ih (i:=i+1) (by omega) (by omega),show i+1+m=i+(m+1)from by omega]
  .rw [aMt _ _ (by simp),aMr,aNl,show n-i=(n-(i+1))+1 from by omega,aMw,aLy,List.replicate_succ',aLJ]
   rfl
theorem aCr{c:UInt8}{n p:Nat}{w3:aOm}{RR:aOn->aOm->Prop}(hn:n<=131072)(o3:aZ w3 p (List.replicate (min 1 n) (dR c)++List.replicate (n-min 1 n) (.int .u8 0)))
 (hk:∀w4,aZ w4 p (List.replicate n (dR c))->aN w3 w4 (λy=>y=p)->RR (.slice (some ⟨p,0,none⟩) n n) w4):
 pA RR (.slice (some ⟨p,0,none⟩) n n) (.int .i64 (min 1 n:Nat)) w3:=by
 unfold pA oZ
 refine aX.rule (λm (t:aOn) w'=>∃i:Nat,m=n-i/\t= .int .i64 i/\i<=n/\(1<=i∨n=0)/\aZ w' p (List.replicate i (dR c)++List.replicate (n-i) (.int .u8 0))/\aN w3 w' (λy=>y=p)) (n-min 1 n)
  ⟨min 1 n,rfl,rfl,by omega,by omega,o3,aN.refl _ _⟩ ?_
 rintro m t w4 ⟨i,rfl,rfl,hi,h0,o4,x4⟩
 unfold wO
 by_cases hlt:i<n
 .have d5:decide ((i:Int)<(n:Int))=true:=by simp;omega
  have q1:(i:Int).toNat=i:=aLx _
  have s1:cW (some (⟨p,0,none⟩:Addr)) n i 1=some ⟨p,0+i,none⟩:=Kn (by omega)
  have s2:cW (some (⟨p,0,none⟩:Addr)) n 0 1=some ⟨p,0+0,none⟩:=Kn (by omega)
  simp(disch:=omega)only[aA,dY,fS,q1,s1,aLI,eD,s2,aM0,true_and,aF,fM,d5,bD]
  have hs:Bs (dr w4) (.slice (some ⟨p,0,none⟩) i n) (List.replicate i c):=by
   have:=(bV o4).bs (off:=0) (c:=n) (l:=List.replicate i c) (by simp;omega) (λj hj=>by
    rw[aMr]at hj
    rw[aLI,aLU (by simp;omega)]
    simp[aM4,hj])
   rw[aMr]at this
   exact this
  refine SD (off:=i) (dl:=n-i) (bV o4) (by simp) hs (by simp[one,dR]) λw5 o5 x5 s5=> ?_
  have hm5:(List.map dR (List.replicate i c)).length=i:=by simp
  rw[hm5,aNf,aID hi]at o5
  rw[hm5]
  have e5:(i:Int)+((min i (n-i):Nat):Int)=((i+min i (n-i):Nat):Int):=by omega
  have wi5:IntKind.i64.wrap ((i+min i (n-i):Nat):Int)=((i+min i (n-i):Nat):Int):=cX (by omega) (by omega)
  simp(disch:=omega)only[gN,e5,wi5,aF,true_and]
  exact⟨n-(i+min i (n-i)),by omega,i+min i (n-i),rfl,rfl,by omega,by omega,o5,x4.seq ((aN.dr w4 _).seq x5)⟩
 .have d5:decide ((i:Int)<(n:Int))=false:=by simp;omega
  have hin:i=n:=by omega
  rw[hin,aNl,List.replicate_zero,aMf]at o4
  simp(disch:=omega)only[aA,dY,fS,aLx,eD,true_and,aF,fM,d5,aR]
  unfold wN
  exact hk w4 o4 x4
theorem aEM{v:aOn}{c:UInt8}{n:Nat}{w:aOm}(h:Bs w v [c])(hn:n<=131072):
 aK pg pT #[v,.int .i64 n] w (λr w'=>pC w' w.heap.size 1 r n (List.replicate n (dR c))/\aN w w' bJ):=by
 refine OR ?_
 obtain⟨RR,hRR⟩:∃RR:aOn->aOm->Prop,RR=λr w'=>pC w' w.heap.size 1 r n (List.replicate n (dR c))/\aN w w' bJ:=⟨_,rfl⟩
 rw[<-hRR]
 obtain⟨b,off,cap,rfl,hc,hcell⟩:=aaI h (by simp)
 have hl1:([c]:List UInt8).length=1:=rfl
 rw[hl1]at*
 have d0:decide ((n:Int)<0)=false:=decide_eq_false (by omega)
 have e1:((1:Nat):Int)=1:=rfl
 have wn:IntKind.u64.wrap (n:Int)=n:=gP (by omega) (by omega)
 have w1:IntKind.u64.wrap 1=1:=rfl
 unfold Kv DC DB
 simp(disch:=omega)only[aA,fM,d0,aF,aR]
 unfold wQ EG
 simp(disch:=omega)only[aA,dY,e1,mW,wn,aF,w1]
 refine(aJO hn).mono ?_
 rintro r w1 ⟨rfl,x1⟩
 have d1:decide ((0:Int)>0)=false:=rfl
 have d2:decide ((n:Int)>9223372036854775807)=false:=decide_eq_false (by omega)
 have d3:decide ((9223372036854775807:Int)<(n:Int))=false:=decide_eq_false (by omega)
 have d4:decide ((0:Int)<0)=false:=rfl
 simp(disch:=omega)only[x20,x21,aF,tA,d1,Ao,jX,aLF,if_false,jF,d2,aR]
 unfold wP EF
 have wi:IntKind.i64.wrap (n:Int)=n:=cX (by omega) (by omega)
 simp(disch:=omega)only[aA,SG,wi,aF]
 refine auC (by omega) (by omega) λw2 o2 x2 s2=> ?_
 simp only[aLx]at o2⊢
 have z1:=x1.size
 have z2:=x2.size
 have x02:=x1.seq x2
 have h2:=h.ext x02 (aU _)
 obtain⟨p,hp⟩:∃p,p=w1.heap.size:=⟨_,rfl⟩
 rw[<-hp]at o2⊢
 refine SD (off:=0) o2 (by simp) h2 (by simp[one,dR]) λw3 o3 x3 s3=> ?_
 have hmn:min (List.map dR [c]).length n=min 1 n:=rfl
 rw[hmn]at o3⊢
 have hs3:aT (List.replicate n (Value.int .u8 0)) 0 ((List.map dR [c]).take (min 1 n))=List.replicate (min 1 n) (dR c)++List.replicate (n-min 1 n) (.int .u8 0):=by
  rcases aMC n with rfl|hp
  .rfl
  .rw [show min 1 n=1 from by omega]
   obtain⟨m,rfl⟩:∃m,n=m+1:=⟨n-1,by omega⟩
   rfl
 rw[hs3]at o3
 have x13:aN w1 w3 bJ:=x2.new x3 (by omega)
 have x03:=x1.seq x13
 refine aCr hn o3 λw4 o4 x4=> ?_
 have z4:=x4.size
 have x04:aN w w4 bJ:=x03.trans x4 λy hy h=>by omega
 rw[hRR]
 exact⟨⟨by rw[aMr,aM6],.inr ⟨p,n,[],rfl,by omega,by rw[aMf];exact o4,by rw[aMf,aMr,aM6],aLA _⟩⟩,x04⟩
end Go.Proofs.YtoecppploooloaaGreatDoor
namespace Go.Pu
open Go Go.En
structure Rj(B:List Bool)(l:List UInt8):Prop where
 len:l.length=(B.length+7)/8
 bits:kO l=B++List.replicate (8*l.length-B.length) false
theorem atM:Rj [] []:=⟨rfl,rfl⟩
theorem axB:Qv 0=List.replicate 8 false:=by decide
theorem amU{B:List Bool}{l:List UInt8}(h:Rj B l)(h8:B.length%8=0):kO (l++[0])=B++List.replicate (8*(l.length+1)-B.length) false/\(l++[(0:UInt8)]).length=(B.length+1+7)/8:=by
 have hl:=h.len
 refine⟨?_,by rw[aLs,aMg];omega⟩
 rw[Pl,h.bits,kO,kO,axB,aMf,aLJ]
 congr 1
 rw[show 8*l.length-B.length=0 from by omega,show 8*(l.length+1)-B.length=8 from by omega]
 rfl
theorem aDx(c:UInt8)(r:Nat)(hr:r<8)(y:Bool)(h:c.toNat.testBit r=false):Qv (UInt8.ofNat (c.toNat+2^r*y.toNat))=(Qv c).set r y/\c.toNat+2^r*y.toNat<256/\c.toNat|||(y.toNat*2^r)=c.toNat+2^r*y.toNat:=by
 have key:∀(c:Fin 256) (r:Fin 8) (y:Bool),c.val.testBit r.val=false->Qv (UInt8.ofNat (c.val+2^r.val*y.toNat))=(Qv (UInt8.ofNat c.val)).set r.val y/\c.val+2^r.val*y.toNat<256/\c.val|||(y.toNat*2^r.val)=c.val+2^r.val*y.toNat:=by decide+kernel
 have:=key ⟨c.toNat,aM7 c⟩ ⟨r,hr⟩ y h
 simpa using this
theorem amF:∀(l:List UInt8) (i r:Nat) (c:UInt8) (y:Bool) (hi:i<l.length),r<8->Qv c=(Qv l[i]).set r y->kO (l.set i c)=(kO l).set (8*i+r) y
 |[],i,r,c,y,hi,hr,h=>by simp at hi
 |x::l,0,r,c,y,hi,hr,h=>by
  rw[aLy,kO,kO,h,aNz _ _ (by rw[tP];omega)]
  simp
 |x::l,i+1,r,c,y,hi,hr,h=>by
  rw[aLB,kO,kO,aMt _ _ (by rw[tP];omega),tP,amF l i r c y (by simpa using hi) hr (by simpa using h)]
  congr 2
  omega
theorem atN{B:List Bool}{l:List UInt8}{y:Bool}(hb:kO l=B++List.replicate (8*l.length-B.length) false)(hl:l.length=(B.length+1+7)/8):
 ∃hi:B.length/8<l.length,Rj (B++[y]) (l.set (B.length/8) (UInt8.ofNat ((l[B.length/8]'hi).toNat+2^(B.length%8)*y.toNat)))/\
  (l[B.length/8]'hi).toNat+2^(B.length%8)*y.toNat<256/\(l[B.length/8]'hi).toNat|||(y.toNat*2^(B.length%8))=(l[B.length/8]'hi).toNat+2^(B.length%8)*y.toNat:=by
 have hi:B.length/8<l.length:=by omega
 have hbit:=Nm l B.length (by omega)
 rw[hb,aL0 (aLA _),aNl,aM4,if_pos (by omega)]at hbit
 have hbit:=(aLW hbit).symm
 obtain⟨h1,h2,h3⟩:=aDx _ (B.length%8) (by omega) y hbit
 refine⟨hi,⟨?_, ?_⟩,h2,h3⟩
 .rw [aM1,aLs,aMg];exact hl
 .rw [amF l _ (B.length%8) _ y hi (by omega) h1,hb,show 8*(B.length/8)+B.length%8=B.length from by omega,aMt _ _ (aLA _),aNl,aM1,aLs,aMg,aLJ]
  congr 1
  rw[show 8*l.length-B.length=(8*l.length-(B.length+1))+1 from by omega,aMw,aLy]
  rfl
theorem atL{B:List Bool}{l:List UInt8}(h:Rj (B++[true]) l):asY l=some B.length/\(kO l).take B.length=B:=by
 have hl:=h.len
 have hb:=h.bits
 rw[aLs,aMg]at hl hb
 have h0:0<l.length:=by omega
 have htop:(kO l)[B.length]?=some true:=by
  rw[hb,aLJ,aL0 (aLA _),aNl]<;>rfl
 have hoff:∀j,B.length<j->j<8*l.length->(kO l)[j]?=some false:=by
  intro j h1 h2
  rw[hb,aLJ,aL0 (by omega),List.singleton_append,List.getElem?_cons,if_neg (by omega),aM4,if_pos (by omega)]
 refine⟨?_,by rw[hb,aLJ,aNK]<;>rfl⟩
 cases he:asY l with
 |none=>
  rw[amO h0]at he
  split at he
  .rename_i hz
   rw[Nm l _ (by omega)]at htop
   have e:B.length/8=l.length-1:=by omega
   simp only[e,hz]at htop
   simp at htop
  .cases he
 |some k=>
  obtain⟨_,h1,_,h2,h3⟩:=aBP he
  rcases aNt k B.length with h|h|h
  .rw [h3 _ h (by omega)]at htop;simp at htop
  .rw [h]
  .rw [hoff _ h h1]at h2;simp at h2
theorem auM{x n:Nat}(h:x<2^n):RI (cZ x n)=x:=by rw[aiZ,aLV h]
theorem ayD{B:List Bool}{x n:Nat}(h:x<2^n):amZ (B++cZ x n) n=x:=by
 unfold amZ
 rw[aLs,bM,show min n (B.length+n)=n from by omega,aNl,aM3,aNB,auM h];simp
end Go.Pu
namespace Go.Proofs.YtoecppploooloaaGreatDoor
open Go Go.En Go.Pu
set_option maxRecDepth 4000
theorem Hv{w w':aOm}{S M:Nat->Prop}{sz n:Nat}{v:aOn}{l:List aOn}(h:Ah w S sz v n l)(hx:aN w w' M)(hM:∀b,S b->¬M b):Ah w' S sz v n l:=by
 refine⟨h.1, ?_⟩
 rcases h.2 with h2|⟨b,c,rest,h1,h2,h3,h4,h5⟩
 .exact .inl h2
 .exact .inr ⟨b,c,rest,h1,h2,h3.ext hx (hM b h2),h4,h5⟩
def Wr(w:aOm)(lo p:Nat)(B:List Bool):Prop:=lo<=p/\∃v bytes,aZ w p [v,.int .i64 B.length]/\Ah w (λb=>lo<=b/\b≠p) 1 v bytes.length (bytes.map dR)/\Rj B bytes
def Rm(w:aOm)(lo p:Nat)(B:List Bool):Prop:=lo<=p/\∃v bytes,aZ w p [v,.int .i64 B.length]/\Ah w (λb=>lo<=b/\b≠p) 1 v bytes.length (bytes.map dR)/\
 kO bytes=B++List.replicate (8*bytes.length-B.length) false/\bytes.length=(B.length+1+7)/8
theorem Wr.ext {w w':aOm}{lo p:Nat}{B:List Bool}{M:Nat->Prop}(h:Wr w lo p B)(hx:aN w w' M)(hM:∀b,lo<=b->¬M b):Wr w' lo p B:=by
 obtain⟨h0,v,bytes,h1,h2,h3⟩:=h
 exact⟨h0,v,bytes,h1.ext hx (hM _ h0),Hv h2 hx λb hb=>hM b hb.1,h3⟩
theorem auG(w:aOm):aK pg kJ #[] w (λr w'=>r= .pointer (some ⟨w.heap.size,0,none⟩)/\w.heap.size<w'.heap.size/\Wr w' w.heap.size w.heap.size []/\aN w w' bJ):=by
 refine HG ?_
 unfold I6 CM
 simp(disch:=omega)only[SV]
 refine fC λw1 o1 x1 s1=> ?_
 simp only[Value.cells]at o1
 exact⟨rfl,by omega,⟨aLA _,_,[],o1,⟨rfl,.inl ⟨rfl,rfl⟩⟩,atM⟩,x1⟩
theorem aHu{lo p x i:Nat}{B:List Bool}{t17:aOn}{w:aOm}(h:Rm w lo p B)(hx:x<2^64)(hi:i<=60)(hB:B.length<=1000000000)
 {kn:aOn->aOn->aOn->aOn->aOm->Prop} (hR:∀w',Wr w' lo p (B++[x.testBit i])->aN w w' (λy=>lo<=y)->kn (.pointer (some ⟨p,0,none⟩)) (.int .u64 x) t17 (.int .i64 i) w'):
 iK kn (.pointer (some ⟨p,0,none⟩)) (.int .u64 x) (.int .i64 i) t17 (.int .i64 i) w:=by
 obtain⟨h0,v,bytes,o,os,hbits,hlen⟩:=h
 obtain⟨hlt,hheld,hval,hor⟩:=atN (y:=x.testBit i) hbits hlen
 rcases os.2 with⟨rfl,hz⟩|⟨b,c,rest,rfl,hS,ob,hc,hn⟩
 .rw [hlen]at hz;omega
 generalize hq:B.length=q at*
 have hcell:(bytes.map dR++rest)[q/8]?=some (.int .u8 ((bytes[q/8]'hlt).toNat:Nat)):=by
  rw[aLU (by rw[aLv];exact hlt),aLR,aLt hlt]<;>rfl
 have hcl:(bytes[q/8]'hlt).toNat<2^8:=aM7 _
 have hset:(bytes.map dR++rest).set (q/8) (.int .u8 (((bytes[q/8]'hlt).toNat+2^(q%8)*(x.testBit i).toNat:Nat)))=(bytes.set (q/8) (UInt8.ofNat ((bytes[q/8]'hlt).toNat+2^(q%8)*(x.testBit i).toNat))).map dR++rest:=by
  rw[aNz _ _ (by rw[aLv];exact hlt),aM5,dR,aN6 (by simpa using hval)]
 have hbl:(bytes.set (q/8) (UInt8.ofNat ((bytes[q/8]'hlt).toNat+2^(q%8)*(x.testBit i).toNat))).length=bytes.length:=aM1
 generalize bytes.set (q/8) (UInt8.ofNat ((bytes[q/8]'hlt).toNat+2^(q%8)*(x.testBit i).toNat))=bytes' at*
 generalize(bytes[q/8]'hlt).toNat=y at*
 have e1:(q:Int).tdiv 8=((q/8:Nat):Int):=by rw[aNm (by omega)];omega
 have e2:(q:Int).tmod 8=((q%8:Nat):Int):=by rw[aNn (by omega)];omega
 have e3:=UM x i (by omega)
 have hxl:x/2^i<2^64:=by have:=aOi x (2^i);omega
 have e4:=asF hxl
 rw[<-anX]at e4
 have hbt:(x.testBit i).toNat<=1:=Bool.toNat_le _
 have hp8:2^(q%8)<=2^7:=aLG (by omega) (by omega)
 have hm:(x.testBit i).toNat*2^(q%8)<=2^(q%8):=by
  have:=aL1 (2^(q%8)) hbt
  omega
 have e5:IntKind.u8.wrap (((x.testBit i).toNat:Int)*2^(min (q%8) IntKind.u8.bits))=(((x.testBit i).toNat*2^(q%8):Nat):Int):=by
  rw[show min (q%8) IntKind.u8.bits=q%8 from aMk (by have h8:IntKind.u8.bits=8:=rfl;omega)]
  have e:((x.testBit i).toNat:Int)*2^(q%8)=(((x.testBit i).toNat*2^(q%8):Nat):Int):=by simp
  rw[e]
  exact Qg (by omega) (by omega)
 have e6:=ajE (a:=y) (b:=(x.testBit i).toNat*2^(q%8)) hcl (by omega)
 rw[hor]at e6
 have e7:(q:Int)+1=((q+1:Nat):Int):=by omega
 have od:=bV o
 have obd:=bV ob
 have c0:=od.cell (off:=0)
 have c1:=od.cell (off:=1)
 have g:=obd.cell (off:=q/8)
 rw[hcell]at g
 simp only[aLu,aLw]at c0 c1
 unfold iK
 simp(disch:=omega)only[SV,c0,c1,e1,g,e3,e4,e2,e5,e6]
 refine ZH obd rfl (by rw[aLs,aLv];omega) λw2 o2 x2 s2=> ?_
 rw[hset]at o2
 have op2:=od.ext x2 (λh=>hS.2 h.symm)
 have c12:=op2.cell (off:=1)
 simp only[aLu,aLw]at c12
 simp(disch:=omega)only[SV,c12,e7]
 refine rF op2 rfl (by simp) λw3 o3 x3 s3=> ?_
 simp only[aLy,aLB]at o3
 have hBl:(B++[x.testBit i]).length=q+1:=by rw[aLs,hq]<;>rfl
 refine hR _ ⟨h0,_,bytes',by rw[hBl];exact o3,⟨by simp,.inr ⟨b,c,rest,by rw[hbl],hS,o2.ext x3 hS.2, ?_,by rw[hbl];exact hn⟩⟩,hheld⟩ ?_
 .rw [aLs,aLv]at hc⊢;rw[hbl];exact hc
 .exact ((aN.dr _ _).seq (x2.mono λz _ h=>by omega)).seq (x3.mono λz _ h=>by omega)
theorem aJv{lo p x i n:Nat}{B:List Bool}{w:aOm}(hw:Wr w lo p B)(hx:x<2^64)(hi:i<=60)(hB:B.length<=1000000000)
 {kn:aOn->aOn->aOn->aOn->aOm->Prop} (hR:∀w',Wr w' lo p (B++[x.testBit i])->aN w w' (λy=>lo<=y)->kn (.pointer (some ⟨p,0,none⟩)) (.int .u64 x) (.int .i64 n) (.int .i64 i) w'):
 eX kn (.pointer (some ⟨p,0,none⟩)) (.int .u64 x) (.int .i64 n) (.int .i64 i) w:=by
 unfold eX yD
 obtain⟨h0,v,bytes,o,os,hh⟩:=hw
 have c1:=o.cell (off:=1)
 have c0:=o.cell (off:=0)
 simp only[aLu,aLw]at c0 c1
 have e2:(B.length:Int).tmod 8=((B.length%8:Nat):Int):=by rw[aNn (by omega)];omega
 by_cases h8:B.length%8=0
 .have d4:(((B.length%8:Nat):Int)==0)=true:=by rw[h8]<;>rfl
  obtain⟨hr1,hr2⟩:=amU hh h8
  have hl2:=hh.len
  have lp:=o.lt
  simp(disch:=omega)only[SV,c1,e2,d4,c0]
  refine iM (cells:= #[.int .u8 0]) (by decide) (by decide) (by kernel_rfl) λw2 o2 x2 s2=> ?_
  refine qN (m:=1) (news:=[dR 0]) (i:=Tryz.t5) Tryz.underlying22 Tryz.underlying22 Hq rfl rfl rfl (Hv os x2 (λ_ _ h=>h)) (o2.cl (off:=0) (l:=[dR 0]) (n:=1) rfl (λi hi=>by rw[aLI]<;>rfl)) (by simp[one,dR]) (λb hb=>⟨by omega,by omega⟩) (by omega) (by rw[show Tryz.t5.bytes=1 from rfl];omega) (by decide) λv3 w3 o3 x3=> ?_
  have x13:aN w w3 (λy=>lo<=y/\y≠p):=(x2.mono λ_ _ h=>h.elim).seq x3
  have op3:=o.ext x13 (λh=>h.2 rfl)
  have hv3:∃a n c,v3= .slice a n c:=by
   rcases o3.2 with⟨rfl,_⟩|⟨b,c,rest,rfl,_⟩
   .exact ⟨_,_,_,rfl⟩
   .exact ⟨_,_,_,rfl⟩
  obtain⟨a3,n3,c3,rfl⟩:=hv3
  refine lK op3 rfl (by simp) λw4 o4 x4 s4=> ?_
  simp only[aLy,aLB]at o4
  have x14:aN w w4 (λy=>lo<=y):=(x13.mono λy _ h=>h.1).seq (x4.mono λy _ h=>by omega)
  refine aHu (w:=w4) ⟨h0,_,bytes++[0],o4, ?_, ?_,hr2⟩ hx hi hB λw5 h5 x5=>hR w5 h5 (x14.seq x5)
  .have:=Hv o3 x4 (λb hb h=>hb.2 h)
   rw[aLs,aL2]
   exact this
  .rw [aLs];exact hr1
 .have d4:(((B.length%8:Nat):Int)==0)=false:=by simp;omega
  simp(disch:=omega)only[SV,c1,e2,d4]
  refine aHu (w:=w) ⟨h0,v,bytes,o,os,hh.bits, ?_⟩ hx hi hB λw5 h5 x5=>hR w5 h5 x5
  rw[hh.len];omega
theorem Qp{lo p x n:Nat}{B:List Bool}{w:aOm}(h:Wr w lo p B)(hx:x<2^64)(hn:n<=56)(hB:B.length<=100000000):
 aK pg bX #[.pointer (some ⟨p,0,none⟩),.int .u64 x,.int .i64 n] w (λr w'=>r= .tuple #[]/\Wr w' lo p (B++cZ x n)/\aN w w' (λy=>lo<=y)):=by
 refine CO ?_
 unfold CN vZ vY
 by_cases hn0:n=0
 .subst hn0
  have d1:decide (((0:Nat):Int)<1)=true:=rfl
  simp(disch:=omega)only[SV,d1]
  exact⟨by rw[I5,aMf];exact h,aN.refl _ _⟩
 have d1:decide ((n:Int)<1)=false:=by simp;omega
 have d2:decide ((56:Int)<(n:Int))=false:=by simp;omega
 simp(disch:=omega)only[SV,d1,d2]
 unfold kY
 refine aX.rule (λm (t:aOn) w'=>∃i:Nat,m=n-i/\t= .int .i64 i/\i<=n/\Wr w' lo p (B++cZ x i)/\aN w w' (λy=>lo<=y)) n
  ⟨0,rfl,rfl,by omega,by rw[I5,aMf];exact h,aN.refl _ _⟩ ?_
 rintro m t w1 ⟨i,rfl,rfl,hi,hw,x1⟩
 unfold pZ yE
 by_cases hlt:i<n
 .have d3:decide ((i:Int)<(n:Int))=true:=by simp;omega
  simp(disch:=omega)only[SV,d3]
  unfold pY eX
  refine aJv hw hx (by omega) (by rw[aLs,bM];omega) λw3 hw3 x3=> ?_
  unfold pX
  simp(disch:=omega)only[SV]
  refine⟨n-(i+1),by omega,i+1,rfl,rfl,by omega, ?_,x1.seq x3⟩
  rw[Pm,<-aLJ]
  exact hw3
 .have d3:decide ((i:Int)<(n:Int))=false:=by simp;omega
  obtain rfl:i=n:=by omega
  simp(disch:=omega)only[SV,d3]
  exact⟨hw,x1⟩
def Cw(w:aOm)(p:Nat)(S:Nat->Prop)(l:List UInt8):Prop:=¬S p/\∃v,aZ w p [v]/\Ah w S 1 v l.length (l.map dR)
theorem Cw.ext {w w':aOm}{p:Nat}{S M:Nat->Prop}{l:List UInt8}(h:Cw w p S l)(x:aN w w' M)(hp:¬M p)(hM:∀b,S b->¬M b):Cw w' p S l:=by
 obtain⟨h0,v,h1,h2⟩:=h
 exact⟨h0,v,h1.ext x hp,Hv h2 x hM⟩
theorem Cw.lt {w:aOm}{p:Nat}{S:Nat->Prop}{l:List UInt8}(h:Cw w p S l):p<w.heap.size:=by
 obtain⟨_,v,h1,_⟩:=h;exact h1.lt
theorem Cw.turn {w:aOm}{p:Nat}{S T:Nat->Prop}{l:List UInt8}(h:Cw w p S l)(hT:∀b,S b->b<w.heap.size->T b)(hp:¬T p):Cw w p T l:=by
 obtain⟨h0,v,h1,h2,h3⟩:=h
 refine⟨hp,v,h1,h2, ?_⟩
 rcases h3 with h3|⟨b,c,rest,g1,g2,g3,g4,g5⟩
 .exact .inl h3
 .exact .inr ⟨b,c,rest,g1,hT b g2 g3.lt,g3,g4,g5⟩
theorem Oz{w:aOm}{S:Nat->Prop}{sz n:Nat}{v:aOn}{l:List aOn}(o3:Ah w S sz v n l):∃a c,v= .slice a n c:=by
 rcases o3.2 with⟨rfl,rfl⟩|⟨b,c,rest,rfl,_⟩
 .exact ⟨_,_,rfl⟩
 .exact ⟨_,_,rfl⟩
theorem acA{w:aOm}{S:Nat->Prop}{n:Nat}{v:aOn}{l:List aOn}(o3:Ah w S 1 v n l):Sl w v l:=by
 have:pC w 0 1 v n l:=⟨o3.1,by
  rcases o3.2 with h|⟨b,c,rest,g1,g2,g3⟩
  .exact .inl h
  .exact .inr ⟨b,c,rest,g1,by omega,g3⟩⟩
 exact this.sl
theorem EL(w:aOm):aK pg eZ #[] w (λr w'=>r= .pointer (some ⟨w.heap.size,0,none⟩)/\w.heap.size<w'.heap.size/\Cw w' w.heap.size (λb=>w.heap.size<b) []/\aN w w' bJ):=by
 refine RD ?_
 unfold NC HI
 simp(disch:=omega)only[SV]
 refine fC λw1 o1 x1 s1=> ?_
 simp only[Value.cells]at o1
 exact⟨rfl,by omega,⟨by omega,_,o1,⟨rfl,.inl ⟨rfl,rfl⟩⟩⟩,x1⟩
theorem Px{p:Nat}{S:Nat->Prop}{l m:List UInt8}{v:aOn}{w:aOm}(h:Cw w p S l)(hS:∀b,w.heap.size<=b->S b)(hv:Bs w v m)(hl:l.length+m.length<=1000000000):
 aK pg fE #[.pointer (some ⟨p,0,none⟩),v] w (λr w'=>r= .tuple #[]/\Cw w' p S (l++m)/\aN w w' (λy=>y=p∨S y)):=by
 refine Mf ?_
 unfold HK CS
 obtain⟨h0,v0,o,os⟩:=h
 obtain⟨va,vc,rfl⟩:=Oz os
 have c0:=o.cell (off:=0)
 simp only[aLu,aLw]at c0
 have lp:=o.lt
 simp(disch:=omega)only[SV,c0]
 have hcl:=hv.cl
 rw[aLv]at hcl
 refine qN (m:=m.length) (news:=m.map dR) (i:=Tryz.t5) Tryz.underlying22 Tryz.underlying22 Hq rfl rfl rfl os hcl (BF _) (λb hb=>hS b hb) (by omega) (by rw[show Tryz.t5.bytes=1 from rfl];omega) (by decide) λv3 w3 o3 x3=> ?_
 have op3:=o.ext x3 h0
 obtain⟨a3,c3,rfl⟩:=Oz o3
 refine lK op3 rfl (by simp) λw4 o4 x4 s4=> ?_
 simp only[aLy,aLB]at o4
 refine⟨⟨h0,_,o4, ?_⟩,(x3.mono λy _ h=> .inr h).seq (x4.mono λy _ h=> .inl h)⟩
 have:=Hv o3 x4 (λb hb h=>h0 (h▸hb))
 rw[aLs,aL2]
 exact this
theorem lB{p x n:Nat}{S:Nat->Prop}{l:List UInt8}{w:aOm}(h:Cw w p S l)(hS:∀b,w.heap.size<=b->S b)(hx:x<2^64)(hn:1<=n/\n<=8)(hl:l.length<=100000000):
 aK pg bA #[.pointer (some ⟨p,0,none⟩),.int .u64 x,.int .i64 n] w (λr w'=>r= .tuple #[]/\Cw w' p S (l++dM x n)/\aN w w' (λy=>y=p∨S y)):=by
 refine KU ?_
 unfold Gv Cf Ce
 have d1:decide ((n:Int)<1)=false:=by simp;omega
 have d2:decide ((8:Int)<(n:Int))=false:=by simp;omega
 simp(disch:=omega)only[SV,d1,d2]
 unfold lN
 refine aX.rule (λm (t:aOn) w'=>∃i:Nat,m=n-i/\t= .int .i64 i/\i<=n/\Cw w' p S (l++dM x i)/\aN w w' (λy=>y=p∨S y)) n
  ⟨0,rfl,rfl,by omega,by rw[dM,aMf];exact h,aN.refl _ _⟩ ?_
 rintro m t w1 ⟨i,rfl,rfl,hi,hw,x1⟩
 unfold sP
 by_cases hlt:i<n
 .have d3:decide ((i:Int)<(n:Int))=true:=by simp;omega
  have e0:((8:Int)*(i:Int))=((8*i:Nat):Int):=by omega
  have e1:(x:Int).fdiv (2^(min (8*i) IntKind.u64.bits))=((x/256^i:Nat):Int):=by
   rw[ayZ];exact UM x (8*i) (by omega)
  have e2:IntKind.u8.wrap ((x/256^i:Nat):Int)=(((UInt8.ofNat (x/256^i%256)).toNat:Nat):Int):=by
   rw[aNN]
   generalize x/256^i=y
   rw[show IntKind.u8.wrap (y:Int)=(y:Int)%256 from rfl]
   omega
  obtain⟨c,hc⟩:∃c,c=UInt8.ofNat (x/256^i%256):=⟨_,rfl⟩
  rw[<-hc]at e2
  obtain⟨h0,v0,o,os⟩:=hw
  obtain⟨va,vc,rfl⟩:=Oz os
  have c0:=o.cell (off:=0)
  simp only[aLu,aLw]at c0
  have lp:=o.lt
  have hsz:=x1.size
  have hpl:=bS i x
  rw[aLs,hpl]at os
  rw[aLs,hpl]at c0
  simp(disch:=omega)only[SV,d3,e0,e1,e2,c0,aLx,aLs,hpl]
  refine iM (cells:= #[.int .u8 c.toNat]) (by decide) (by decide) (by kernel_rfl) λw2 o2 x2 s2=> ?_
  refine qN (m:=1) (news:=[dR c]) (i:=Tryz.t5) Tryz.underlying22 Tryz.underlying22 Hq rfl rfl rfl (Hv os x2 (λ_ _ h=>h)) (o2.cl (off:=0) (l:=[dR c]) (n:=1) rfl (λi hi=>by rw[aLI]<;>rfl)) (by simp[one,dR]) (λb hb=>hS b (by omega)) (by omega) (by rw[show Tryz.t5.bytes=1 from rfl];omega) (by decide) λv3 w3 o3 x3=> ?_
  have x13:aN w1 w3 S:=(x2.mono λ_ _ h=>h.elim).seq x3
  have op3:=o.ext x13 h0
  obtain⟨a3,c3,rfl⟩:=Oz o3
  refine lK op3 rfl (by simp) λw4 o4 x4 s4=> ?_
  simp only[aLy,aLB]at o4
  have x14:aN w1 w4 (λy=>y=p∨S y):=(x13.mono λy _ h=> .inr h).seq (x4.mono λy _ h=> .inl h)
  refine⟨n-(i+1),by omega,i+1,rfl,rfl,by omega,⟨h0,_,o4, ?_⟩,x1.seq x14⟩
  have:=Hv o3 x4 (λb hb h=>h0 (h▸hb))
  rw[anM,<-hc,<-aLJ,aL2,aLs,aLs,bS]
  exact this
 .have d3:decide ((i:Int)<(n:Int))=false:=by simp;omega
  obtain rfl:i=n:=by omega
  simp(disch:=omega)only[SV,d3]
  exact⟨hw,x1⟩
theorem NA{p:Nat}{S:Nat->Prop}{l:List UInt8}{w:aOm}(h:Cw w p S l)(hl:l.length<=1000000000):
 aK pg eJ #[.pointer (some ⟨p,0,none⟩)] w (λr w'=>pC w' w.heap.size 1 r l.length (l.map dR)/\aN w w' bJ):=by
 refine Pz ?_
 unfold Lo Gw
 obtain⟨h0,v0,o,os⟩:=h
 obtain⟨va,vc,rfl⟩:=Oz os
 have c0:=o.cell (off:=0)
 simp only[aLu,aLw]at c0
 simp(disch:=omega)only[SV,c0]
 exact agI (acA os) hl
end Go.Proofs.YtoecppploooloaaGreatDoor
namespace Go.En
open Go
theorem Ah.ext {w w':aOm}{S M:Nat->Prop}{sz n:Nat}{v:aOn}{l:List aOn}(h:Ah w S sz v n l)(hx:aN w w' M)(hM:∀b,S b->¬M b):Ah w' S sz v n l:=by
 refine⟨h.1, ?_⟩
 rcases h.2 with h2|⟨b,c,rest,h1,h2,h3,h4,h5⟩
 .exact .inl h2
 .exact .inr ⟨b,c,rest,h1,h2,h3.ext hx (hM b h2),h4,h5⟩
theorem pC.ne {w:aOm}{base p sz n:Nat}{v:aOn}{l:List aOn}(h:pC w base sz v n l)(hp:w.heap.size<=p):Ah w (λb=>base<=b/\b≠p) sz v n l:=by
 refine⟨h.1, ?_⟩
 rcases h.2 with h2|⟨b,c,rest,h1,h2,h3,h4,h5⟩
 .exact .inl h2
 .have:=h3.lt
  exact .inr ⟨b,c,rest,h1,⟨h2,by omega⟩,h3,h4,h5⟩
theorem Ah.osl {w:aOm}{base p sz n:Nat}{v:aOn}{l:List aOn}(h:Ah w (λb=>base<=b/\b≠p) sz v n l):pC w base sz v n l:=by
 refine⟨h.1, ?_⟩
 rcases h.2 with h2|⟨b,c,rest,h1,h2,h3,h4,h5⟩
 .exact .inl h2
 .exact .inr ⟨b,c,rest,h1,h2.1,h3,h4,h5⟩
theorem Ah.len {w:aOm}{S:Nat->Prop}{sz n:Nat}{v:aOn}{l:List aOn}(h:Ah w S sz v n l):∃a c,v= .slice a n c:=by
 rcases h.2 with⟨h1,rfl⟩|⟨b,c,rest,h1,_⟩
 .exact ⟨_,_,h1⟩
 .exact ⟨_,_,h1⟩
end Go.En
namespace Go.Proofs.YtoecppploooloaaGreatDoor
open Go Go.En Go.Pu
set_option maxRecDepth 4000
theorem Zl{w:aOm}{S T:Nat->Prop}{sz n:Nat}{v:aOn}{l:List aOn}(h:Ah w S sz v n l)(hT:∀b,S b->b<w.heap.size->T b):Ah w T sz v n l:=by
 refine⟨h.1, ?_⟩
 rcases h.2 with h2|⟨b,c,rest,h1,h2,h3,h4,h5⟩
 .exact .inl h2
 .exact .inr ⟨b,c,rest,h1,hT b h2 h3.lt,h3,h4,h5⟩
def MJ:aOn:= .slice none 0 0
theorem ahN{p pr lo hi n:Nat}{cs:List aOn}{l:List UInt8}{w:aOm}(o:aZ w p cs)(c0:cs[0]?=some (.pointer (some ⟨pr,0,none⟩)))(hr:Pa w lo hi pr l 0)(hl:l.length<=1000000)(hn:n<=1000000):
 aK pg iH #[.pointer (some ⟨p,0,none⟩),.int .i64 (n:Nat)] w (λr w'=>(l.length<n/\r= .tuple #[MJ,.int .i64 10]/\w'=w)∨(n<=l.length/\∃v,r= .tuple #[v,.int .i64 0]/\Bs w' v (l.take n)/\AtS v (λb=>lo<=b/\b<hi/\b≠pr)/\Pa w' lo hi pr (l.drop n) 0/\aN w w' (λy=>y=pr))):=by
 refine NK ?_
 unfold Ji Eh
 have c:=o.cell (off:=0)
 rw[c0]at c
 simp(disch:=omega)only[SV,c]
 refine(SE hr).mono ?_
 rintro r w1 ⟨rfl,h1⟩
 rw[h1];clear h1 w1
 by_cases h:l.length<n
 .have d1:decide ((n:Int)>(l.length:Int))=true:=decide_eq_true (by omega)
  have d2:decide ((l.length:Int)<(n:Int))=true:=decide_eq_true (by omega)
  simp(disch:=omega)only[SV,d1,d2]
  exact .inl ⟨h,rfl⟩
 .have d1:decide ((n:Int)>(l.length:Int))=false:=decide_eq_false (by omega)
  have d2:decide ((l.length:Int)<(n:Int))=false:=decide_eq_false (by omega)
  simp(disch:=omega)only[SV,d1,d2,c]
  refine(aaQ hr (by omega) (by omega)).mono ?_
  have ht:D2 l 0 n=(l.take n,l.drop n,0):=by unfold D2;rw[if_neg (by decide),if_neg h]
  rw[ht]
  rintro r w1 ⟨h1,h2,h3,h4⟩
  exact .inr ⟨by omega,r,rfl,h1,h2,h3,h4⟩
def gZ:List aOn:=[MJ,.int .i64 0,MJ,.int .i64 0,MJ,.int .i64 0,MJ,.int .u32 0,.int .u32 0,.int .u32 0]
def gL:List aOn:=[MJ,.int .i64 0,MJ,.int .i64 0,MJ,.int .i64 0,MJ,.int .u32 1,.int .u32 4,.int .u32 8]
def gZv:aOn:= .agg #[.slice none 0 0,.int .i64 0,.slice none 0 0,.int .i64 0,.slice none 0 0,.int .i64 0,.slice none 0 0,.int .u32 0,.int .u32 0,.int .u32 0]
def gLv:aOn:= .agg #[.slice none 0 0,.int .i64 0,.slice none 0 0,.int .i64 0,.slice none 0 0,.int .i64 0,.slice none 0 0,.int .u32 1,.int .u32 4,.int .u32 8]
def bx(l:List UInt8):Nat:=jW (l.take 3)
def Lk(l:List UInt8):Nat:=bx l/2%4
def Nq(l:List UInt8):Nat:=bx l/8
def Yb(l:List UInt8):Nat:=if Lk l=1 then 1 else Nq l
def asI(l:List UInt8):List UInt8:=if Lk l=1 then List.replicate (Nq l) ((l.drop 3).headD 0)else(l.drop 3).take (Nq l)
def Yn(l all:List UInt8)(win room:Nat):Option (Except Int (List UInt8×List UInt8×Bool)):=
 if l.length<3 then some (.error 10)else if Lk l=3 then some (.error 11)else if min win 131072<Nq l then some (.error 12)
 else if Lk l=2 then none else if l.length-3<Yb l then some (.error 10)
 else if room<all.length+(asI l).length then some (.error 12)else some (.ok (all++asI l,l.drop (3+Yb l),bx l%2==1))
theorem aBD{RR:aOn->aOm->Prop}{p pg6 pt9 px most n:Nat}{L:Bool}{vo va x1 x2:aOn}{N:Nat}{cs:List aOn}{w:aOm}
 (o:aZ w p cs) (k2:cs[2]?=some (.int .i64 (most:Nat))) (k3:cs[3]?=some vo) (hvo:∃a c,vo= .slice a n c) (hva:∃a c,va= .slice a N c) (og:aZ w pg6 gL) (ot:aZ w pt9 gZ) (hne:pg6≠pt9) (hpx:px≠pt9)
 (ox:aZ w px [.bool L,x1,x2]) (hn:n<=2000000) (hN:N<=4000000) (hmost:most<=2000000)
 (hk:∀w',aN w w' (λy=>y=pt9)->RR (if most<n+N then .tuple #[MJ,gZv,.bool false,.int .i64 12]else .tuple #[va,gLv,.bool L,.int .i64 0]) w'):
 kB RR (.pointer (some ⟨p,0,none⟩)) va (.pointer (some ⟨pg6,0,none⟩)) (.pointer (some ⟨pt9,0,none⟩)) (.pointer (some ⟨px,0,none⟩)) w:=by
 unfold kB
 obtain⟨a,c,rfl⟩:=hvo
 obtain⟨a',c',rfl⟩:=hva
 have e2:=(bV o).cell (off:=2)
 have e3:=(bV o).cell (off:=3)
 have f2:=o.cell (off:=2)
 have f3:=o.cell (off:=3)
 have g2:=(bV (bV o)).cell (off:=2)
 have g3:=(bV (bV o)).cell (off:=3)
 rw[k2]at e2 f2 g2
 rw[k3]at e3 f3 g3
 by_cases h:most<n+N
 .have d1:decide ((n:Int)+(N:Int)>(most:Int))=true:=decide_eq_true (by omega)
  have d2:decide ((most:Int)<(n:Int)+(N:Int))=true:=decide_eq_true (by omega)
  rw[if_pos h]at hk
  simp(disch:=omega)only[SV,e2,e3,f2,f3,g2,g3,d1,d2]
  refine gC (bV ot) rfl (by simp[one]) (by simp[gZ]) λw1 o1 x1 s1=> ?_
  refine nE o1 (by simp[aT,gZ]) ?_
  simp only[aT,gZ,aLy,aLB,aLE,aLC,aLK]
  exact hk w1 ((aN.dr w _).seq x1)
 .have d1:decide ((n:Int)+(N:Int)>(most:Int))=false:=decide_eq_false (by omega)
  have d2:decide ((most:Int)<(n:Int)+(N:Int))=false:=decide_eq_false (by omega)
  rw[if_neg h]at hk
  have hg:=EX (off:=0) (bV og) (by simp[gL])
  have hg2:=EX (off:=0) (bV (bV og)) (by simp[gL])
  simp only[gL,aLE,aLC,aLK]at hg hg2
  have b0:=(bV ox).cell (off:=0)
  have b1:=(bV (bV ox)).cell (off:=0)
  simp only[aLu]at b0 b1
  simp(disch:=omega)only[SV,e2,e3,f2,f3,g2,g3,d1,d2,hg,hg2,b0,b1]
  refine gC (bV (bV ot)) rfl (by simp[one,MJ]) (by simp[gZ]) λw1 o1 x1 s1=> ?_
  have ox1:=(bV (bV ox)).ext x1 hpx
  have b2:=ox1.cell (off:=0)
  simp only[aLu]at b2
  try simp(disch:=omega)only[SV,b2]
  refine nE o1 (by simp[aT,gZ]) ?_
  simp only[aT,gZ,aLy,aLB,aLE,aLC,aLK]
  exact hk w1 (((aN.dr w _).seq (aN.dr _ _)).seq x1)
theorem apB{S:Nat->Prop}{v x:aOn}{l m:List UInt8}{w:aOm}(h:Ah w S 1 v l.length (l.map dR))(hx:Bs w x m)(hb:∀b,w.heap.size<=b->S b)(hn:l.length+m.length<=100000000){K:aOn->aOm->Prop}
 (hk:∀v' w',Ah w' S 1 v' (l++m).length ((l++m).map dR)->aN w w' S->K v' w'):aA pg (dD .append #[22,22] 22 [v,x]) w K:=by
 have hcl:Cl w 1 x m.length (m.map dR):=by have:=hx.cl;rwa [aLv]at this
 refine qN (m:=m.length) (news:=m.map dR) (i:=Tryz.t5) Tryz.underlying22 Tryz.underlying22 Hq rfl rfl rfl h hcl (BF _) hb (by omega) (by rw[show Tryz.t5.bytes=1 from rfl];omega) (by decide) λv3 w3 o3 x3=> ?_
 refine hk v3 w3 ?_ x3
 rw[aLs,aL2]
 exact o3
theorem aBE{RR:aOn->aOm->Prop}{p pr pg6 pt9 px lo hi most n k sz need wv bv:Nat}{L:Bool}{A:Nat->Prop}{vo va:aOn}{all l made:List UInt8}{cs:List aOn}{w:aOm}
 (o:aZ w p cs) (k0:cs[0]?=some (.pointer (some ⟨pr,0,none⟩))) (k2:cs[2]?=some (.int .i64 (most:Nat))) (k3:cs[3]?=some vo) (hvo:∃a c,vo= .slice a n c) (og:aZ w pg6 gL) (ot:aZ w pt9 gZ) (ox:aZ w px [.bool L,.int .i64 (k:Nat),.int .i64 (sz:Nat)])
 (hr:Pa w lo hi pr l 0) (ha:Ah w A 1 va all.length (all.map dR)) (hA:∀b,A b->b≠p/\¬(lo<=b/\b<hi)/\b≠pg6/\b≠pt9/\b≠px) (hAn:∀b,w.heap.size<=b->A b)
 (hne:pg6≠pt9) (hpx:px≠pt9) (q1:¬(lo<=p/\p<hi)) (q2:¬(lo<=pg6/\pg6<hi)) (q3:¬(lo<=pt9/\pt9<hi)) (q4:¬(lo<=px/\px<hi)) (hk01:k=0∨k=1) (hsz:sz<=131072) (hn:n<=2000000) (hl:l.length<=1000000) (hall:all.length<=2000000) (hmost:most<=2000000)
 (hneed:need=if k=1 then 1 else sz) (hmade:made=if k=1 then List.replicate sz (l.headD 0)else l.take sz)
 (hk1:l.length<need->∀w',aN w w' (λy=>y=pt9)->RR (.tuple #[MJ,gZv,.bool false,.int .i64 10]) w')
 (hk2:need<=l.length->most<n+(all.length+made.length)->∀w',aN w w' (λy=>A y∨y=pr∨y=pt9)->RR (.tuple #[MJ,gZv,.bool false,.int .i64 12]) w')
 (hk3:need<=l.length->¬most<n+(all.length+made.length)->∀w' va',Ah w' A 1 va' (all++made).length ((all++made).map dR)->Pa w' lo hi pr (l.drop need) 0->aN w w' (λy=>A y∨y=pr∨y=pt9)->RR (.tuple #[va',gLv,.bool L,.int .i64 0]) w'):
 kC RR (.pointer (some ⟨p,0,none⟩)) va (.int .u64 (wv:Nat)) (.pointer (some ⟨pg6,0,none⟩)) (.pointer (some ⟨pt9,0,none⟩)) (.int .i64 (bv:Nat)) (.pointer (some ⟨px,0,none⟩)) (.int .i64 (need:Nat)) w:=by
 have hneed2:need<=131072:=by rw[hneed];split<;>omega
 unfold kC Ee
 refine(ahN o k0 hr hl (by omega)).mono ?_
 rintro r w1 (⟨h1,rfl,h2⟩|⟨h1,v,rfl,hb1,hat,hr1,x1⟩)
 .rw [h2];clear h2 w1
  have n1:((10:Int) !=0)=true:=rfl
  unfold MJ
  simp(disch:=omega)only[SV,n1]
  refine gC ot rfl (by simp[one]) (by simp[gZ]) λw1 o1 x1 s1=> ?_
  refine nE o1 (by simp[aT,gZ]) ?_
  simp only[aT,gZ,aLy,aLB,aLE,aLC,aLK]
  exact hk1 h1 w1 x1
 have n1:((0:Int) !=0)=false:=rfl
 have hpr:lo<=pr/\pr<hi:=⟨hr.1,hr.2.1⟩
 have ox1:=ox.ext x1 (λe=>q4 (e▸hpr))
 have og1:=og.ext x1 (λe=>q2 (e▸hpr))
 have ot1:=ot.ext x1 (λe=>q3 (e▸hpr))
 have o1:=o.ext x1 (λe=>q1 (e▸hpr))
 have ha1:=ha.ext x1 (λb hb e=>(hA b hb).2.1 (e▸hpr))
 have z1:=x1.size
 have c1:=ox1.cell (off:=1)
 have c2:=ox1.cell (off:=2)
 simp only[aLu,aLw]at c1 c2
 have fin:∀(m':List UInt8) (v':aOn) (w2:aOm),m'=made->Ah w2 A 1 v' (all++m').length ((all++m').map dR)->aN w1 w2 A->kB RR (.pointer (some ⟨p,0,none⟩)) v' (.pointer (some ⟨pg6,0,none⟩)) (.pointer (some ⟨pt9,0,none⟩)) (.pointer (some ⟨px,0,none⟩)) w2:=by
  rintro m' v' w2 rfl o2 x2
  have hlen:=o2.len
  refine aBD (n:=n) (N:=(all++m').length) (L:=L) (o1.ext x2 λh=>(hA p h).1 rfl) k2 k3 hvo hlen (og1.ext x2 λh=>(hA _ h).2.2.1 rfl) (ot1.ext x2 λh=>(hA _ h).2.2.2.1 rfl) hne hpx (ox1.ext x2 λh=>(hA _ h).2.2.2.2 rfl) (by omega) ?_ hmost λw' x=> ?_
  .have:m'.length<=131072:=by
    rw[hmade];split
    .rw [aMr];exact hsz
    .rw [aLD];omega
   rw[aLs];omega
  .rw [aLs]
   have xx:aN w w' (λy=>A y∨y=pr∨y=pt9):=(((x1.mono λ_ _ h=> .inr (.inl h)).seq (x2.mono λ_ _ h=> .inl h))).seq (x.mono λ_ _ h=> .inr (.inr h))
   by_cases hm:most<n+(all.length+m'.length)
   .rw [if_pos hm];exact hk2 h1 hm w' xx
   .rw [if_neg hm]
    refine hk3 h1 hm w' v' (o2.ext x λb hb e=>(hA b hb).2.2.2.1 e) ((hr1.ext x2 λb h1 h2 h3=>(hA b h3).2.1 ⟨h1,h2⟩).ext x λb h1 h2 h3=>q3 (h3▸⟨h1,h2⟩)) xx
 rcases hk01 with rfl|rfl
 .have e0:(((0:Nat):Int)==0)=true:=rfl
  simp only[show¬((0:Nat)=1)from by decide,if_false]at hneed hmade
  simp(disch:=omega)only[SV,n1,c1,e0]
  refine apB ha1 hb1 (λb hb=>hAn b (by omega)) (by rw[aLD];omega) λv' w2 o2 x2=> ?_
  exact fin _ v' w2 (by rw[hmade,hneed]) o2 x2
 .have e0:(((1:Nat):Int)==0)=false:=rfl
  have e1:(((1:Nat):Int)==1)=true:=rfl
  simp only[if_true]at hneed hmade
  subst hneed
  simp(disch:=omega)only[SV,n1,c1,e0,e1,c2]
  obtain⟨c,t,hct⟩:∃c t,l=c::t:=by
   cases l with
   |nil=>simp at h1
   |cons c t=>exact⟨c,t,rfl⟩
  have e4:l.take 1=[c]:=by rw[hct]<;>rfl
  rw[e4]at hb1
  refine(aEM hb1 hsz).mono ?_
  rintro r w2 ⟨o2,x2⟩
  have z2:=x2.size
  have hbr:Bs w2 r (List.replicate sz c):=by
   unfold Bs
   rw[aNf]
   exact o2.sl
  refine apB (ha1.ext x2 λ_ _ h=>h) hbr (λb hb=>hAn b (by omega)) (by rw[aMr];omega) λv' w3 o3 x3=> ?_
  exact fin _ v' w3 (by rw[hmade,hct]<;>rfl) o3 ((x2.mono λ_ _ h=>h.elim).seq x3)
def aHi(lo hi pr:Nat)(A:Nat->Prop)(w:aOm)(r:aOn)(w':aOm):Except Int (List UInt8×List UInt8×Bool)->Prop
 | .error e=>r= .tuple #[MJ,gZv,.bool false,.int .i64 e]/\aN w w' (λy=>A y∨y=pr)
 | .ok (a,l,b)=>∃v,r= .tuple #[v,gLv,.bool b,.int .i64 0]/\Ah w' A 1 v a.length (a.map dR)/\Pa w' lo hi pr l 0/\aN w w' (λy=>A y∨y=pr)
theorem aDL{p pr lo hi most n win:Nat}{A:Nat->Prop}{vo va:aOn}{all l:List UInt8}{cs:List aOn}{w:aOm}{m:Except Int (List UInt8×List UInt8×Bool)}
 (o:aZ w p cs) (k0:cs[0]?=some (.pointer (some ⟨pr,0,none⟩))) (k2:cs[2]?=some (.int .i64 (most:Nat))) (k3:cs[3]?=some vo) (hvo:∃a c,vo= .slice a n c)
 (hr:Pa w lo hi pr l 0) (ha:Ah w A 1 va all.length (all.map dR)) (hA:∀b,A b->b≠p/\¬(lo<=b/\b<hi)) (hAn:∀b,w.heap.size<=b->A b) (hhi:hi<=w.heap.size)
 (q1:¬(lo<=p/\p<hi)) (hn:n<=most) (hl:l.length<=1000000) (hall:all.length<=2000000) (hmost:most<=2000000)
 (hm:Yn l all win (most-n)=some m):
 aK pg pO #[.pointer (some ⟨p,0,none⟩),va,gLv,.int .u64 (win:Nat)] w (λr w'=>aHi lo hi pr A w r w' m):=by
 refine NJ ?_
 obtain⟨RR,hRR⟩:∃RR:aOn->aOm->Prop,RR=λr w'=>aHi lo hi pr A w r w' m:=⟨_,rfl⟩
 rw[<-hRR]
 unfold Jh Eg Ef
 refine fC λw1 o1 x1 s1=> ?_
 have o1:aZ w1 w.heap.size gL:=o1
 obtain⟨p6,hp6⟩:∃p,p=w.heap.size:=⟨_,rfl⟩
 rw[<-hp6]at o1⊢
 refine Qs λw2 o2 x2 s2=> ?_
 have o2:aZ w2 w1.heap.size gZ:=o2
 obtain⟨p9,hp9⟩:∃p,p=w1.heap.size:=⟨_,rfl⟩
 rw[<-hp9]at o2⊢
 have z1:=o1.lt
 have z2:=o2.lt
 have x12:=x1.seq x2
 have og2:=o1.ext x2 (λh=>h)
 have hmn:(if(131072:Int)<(win:Int)then(131072:Int)else(win:Int))=((min win 131072:Nat):Int):=by
  split<;>omega
 have hw:IntKind.i64.wrap ((min win 131072:Nat):Int)=((min win 131072:Nat):Int):=cX (by omega) (by omega)
 simp(disch:=omega)only[SV,hmn,hw]
 refine(ahN (n:=3) (o.ext x12 (λh=>h)) k0 (hr.ext x12 (λ_ _ _ h=>h)) hl (by omega)).mono ?_
 unfold Yn at hm
 rintro r w3 (⟨h1,rfl,h2⟩|⟨h1,v,rfl,hb1,hat,hr1,x3⟩)
 .rw [h2];clear h2 w3
  rw[if_pos h1]at hm
  cases hm
  have n1:((10:Int) !=0)=true:=rfl
  unfold MJ
  simp(disch:=omega)only[SV,n1]
  refine gC o2 rfl (by simp[one]) (by simp[gZ]) λw3 o3 x3 s3=> ?_
  refine nE o3 (by simp[aT,gZ]) ?_
  simp only[aT,gZ,aLy,aLB,aLE,aLC,aLK]
  rw[hRR]
  exact⟨rfl,(x12.mono λ_ _ h=>h.elim).trans x3 λy hy h=>by omega⟩
 rw[if_neg (by omega)]at hm
 have n0:((0:Int) !=0)=false:=rfl
 have hpr:lo<=pr/\pr<hi:=⟨hr.1,hr.2.1⟩
 have og3:=og2.ext x3 (by intro h;omega)
 have ot3:=o2.ext x3 (by intro h;omega)
 have o3:=(o.ext x12 (λh=>h)).ext x3 (λe=>q1 (e▸hpr))
 have ha3:=(ha.ext x12 (λ_ _ h=>h)).ext x3 (λb hb e=>(hA b hb).2 (e▸hpr))
 simp(disch:=omega)only[SV,n0]
 refine(avB hb1 (by rw[aLD];omega)).mono ?_
 rintro r w4 ⟨rfl,x4⟩
 have e0:jW (l.take 3)=bx l:=rfl
 unfold rbV
 rw[e0]
 have ek:bx l/2%4=Lk l:=rfl
 rw[ek]
 have og4:=og3.ext x4 (λh=>h)
 have ot4:=ot3.ext x4 (λh=>h)
 have zz3:=x3.size
 have zz4:=x4.size
 by_cases h3:Lk l=3
 .rw [if_pos h3]
  rw[if_pos h3]at hm
  cases hm
  have n1:((11:Int) !=0)=true:=rfl
  simp(disch:=omega)only[SV,n1]
  refine CH λw5 o5 x5 s5=> ?_
  refine vH o5 rfl (by simp[one]) (by simp) λw6 o6 x6 s6=> ?_
  have x46:aN w4 w6 bJ:=x5.new x6 (by omega)
  have ot6:=ot4.ext x46 (λh=>h)
  try simp(disch:=omega)only[SV,n1]
  refine gC ot6 rfl (by simp[one]) (by simp[gZ]) λw7 o7 x7 s7=> ?_
  refine nE o7 (by simp[aT,gZ]) ?_
  simp only[aT,gZ,aLy,aLB,aLE,aLC,aLK]
  rw[hRR]
  exact⟨rfl,((x12.mono λ_ _ h=>h.elim).seq ((x3.mono λ_ _ h=> .inr h).seq ((x4.seq x46).mono λ_ _ h=>h.elim))).trans x7 λy hy h=>by omega⟩
 rw[if_neg h3]
 rw[if_neg h3]at hm
 unfold rbA
 rw[ek]
 have es:bx l/8=Nq l:=rfl
 rw[es]
 simp(disch:=omega)only[SV,n0]
 refine CH λw5 o5 x5 s5=> ?_
 obtain⟨px,hpx⟩:∃p,p=w4.heap.size:=⟨_,rfl⟩
 rw[<-hpx]at o5⊢
 refine vH o5 rfl (by simp[one]) (by simp) λw6 o6 x6 s6=> ?_
 simp only[aT,aLy,aLB]at o6
 have x46:aN w4 w6 bJ:=x5.new x6 (by omega)
 have c1:=o6.cell (off:=1)
 have c2:=o6.cell (off:=2)
 simp only[aLu,aLw]at c1 c2
 have og6:=og4.ext x46 (λh=>h)
 have ot6:=ot4.ext x46 (λh=>h)
 have z5:=o5.lt
 by_cases hb:min win 131072<Nq l
 .rw [if_pos hb]at hm
  cases hm
  have d1:decide (((Nq l:Nat):Int)>((min win 131072:Nat):Int))=true:=decide_eq_true (by omega)
  have d2:decide (((min win 131072:Nat):Int)<((Nq l:Nat):Int))=true:=decide_eq_true (by omega)
  simp(disch:=omega)only[SV,n0,c1,c2,d1,d2]
  refine gC ot6 rfl (by simp[one]) (by simp[gZ]) λw7 o7 x7 s7=> ?_
  refine nE o7 (by simp[aT,gZ]) ?_
  simp only[aT,gZ,aLy,aLB,aLE,aLC,aLK]
  rw[hRR]
  exact⟨rfl,((x12.mono λ_ _ h=>h.elim).seq ((x3.mono λ_ _ h=> .inr h).seq ((x4.seq x46).mono λ_ _ h=>h.elim))).trans x7 λy hy h=>by omega⟩
 rw[if_neg hb]at hm
 have d1:decide (((Nq l:Nat):Int)>((min win 131072:Nat):Int))=false:=decide_eq_false (by omega)
 have d2:decide (((min win 131072:Nat):Int)<((Nq l:Nat):Int))=false:=decide_eq_false (by omega)
 have hk2':Lk l≠2:=by
  intro h
  rw[if_pos h]at hm
  cases hm
 rw[if_neg hk2']at hm
 have hk01:Lk l=0∨Lk l=1:=by
  have:Lk l<4:=aNM _ (by omega)
  omega
 have x02:aN w w2 bJ:=x12
 have x06:aN w w6 (λy=>y=pr):=((x02.mono λ_ _ h=>h.elim).seq x3).seq ((x4.seq x46).mono λ_ _ h=>h.elim)
 have ha':Ah w (λb=>A b/\b≠p6/\b≠p9/\b≠px) 1 va all.length (all.map dR):=Zl ha λb hb h1=>by
  have:=x1.size
  have:=x2.size
  exact⟨hb,by omega,by omega,by omega⟩
 have ha6:=ha'.ext x06 λb hb e=>(hA b hb.1).2 (e▸hpr)
 have hr6:=(hr1.ext x4 λ_ _ _ h=>h).ext x46 λ_ _ _ h=>h
 have o6':=(o3.ext x4 λh=>h).ext x46 λh=>h
 have e8:(l.drop 3).headD 0=(l.drop 3).headD 0:=rfl
 have hld:(l.drop 3).length=l.length-3:=aLP
 have main:kC RR (.pointer (some ⟨p,0,none⟩)) va (.int .u64 (win:Nat)) (.pointer (some ⟨p6,0,none⟩)) (.pointer (some ⟨p9,0,none⟩)) (.int .i64 (min win 131072:Nat)) (.pointer (some ⟨px,0,none⟩)) (.int .i64 (Yb l:Nat)) w6:=by
  have hz0:=o.lt
  refine aBE (made:=asI l) (L:=bx l%2==1) (A:=λb=>A b/\b≠p6/\b≠p9/\b≠px) o6' k0 k2 k3 hvo og6 ot6 o6 hr6 ha6 ?_ ?_ (by omega) (by omega) q1 (by omega) (by omega) (by omega) hk01 (by omega) (by omega) (by omega) hall hmost rfl rfl ?_ ?_ ?_
  .intro b hb
   exact⟨(hA b hb.1).1,(hA b hb.1).2,hb.2.1,hb.2.2.1,hb.2.2.2⟩
  .intro b hb
   exact⟨hAn b (by omega),by omega,by omega,by omega⟩
  .intro h w' x
   rw[if_pos (by omega)]at hm
   cases hm
   rw[hRR]
   exact⟨rfl,(x06.mono λ_ _ h=> .inr h).trans x λy hy h=>by omega⟩
  .intro h h2 w' h5
   rw[if_neg (by omega),if_pos (by omega)]at hm
   cases hm
   rw[hRR]
   refine⟨rfl,(x06.mono λ_ _ h=> .inr h).trans h5 λy hy h=> ?_⟩
   rcases h with h|h|h
   .exact .inl h.1
   .exact .inr h
   .omega
  .intro h h2 w' va' h3 h4 h5
   rw[if_neg (by omega),if_neg (by omega)]at hm
   cases hm
   rw[hRR]
   rw[aMK]at h4
   refine⟨va',rfl,Zl h3 λb hb _=>hb.1,h4,(x06.mono λ_ _ h=> .inr h).trans h5 λy hy h=> ?_⟩
   rcases h with h|h|h
   .exact .inl h.1
   .exact .inr h
   .omega
 rcases hk01 with h|h
 .have e1:Yb l=Nq l:=by unfold Yb;rw[if_neg (by omega)]
  have e2:(((Lk l:Nat):Int)==1)=false:=by rw[h]<;>rfl
  rw[e1]at main
  simp(disch:=omega)only[SV,n0,c1,c2,d1,d2,e2]
  exact main
 .have e1:Yb l=1:=by unfold Yb;rw[if_pos (by omega)]
  have e2:(((Lk l:Nat):Int)==1)=true:=by rw[h]<;>rfl
  rw[e1]at main
  simp(disch:=omega)only[SV,n0,c1,c2,d1,d2,e2]
  exact main
end Go.Proofs.YtoecppploooloaaGreatDoor
namespace Go.Proofs.YtoecppploooloaaGreatDoor
open Go Go.En
set_option maxRecDepth 4000
def azH(x:Int)(k:Nat):Int:=orI .u64 (IntKind.u64.wrap (x*2^k)) (x.fdiv (2^(64-k)))
def aCw(v x:Int):Int:=IntKind.u64.wrap (azH (IntKind.u64.wrap (v+IntKind.u64.wrap (x*14029467366897019727))) 31*11400714785074694791)
theorem aJu:∀k:Fin 64,Cq .u64 (k.val:Int) 63=(k.val:Int):=by decide
theorem aJ3:∀k:Fin 64,IntKind.u64.wrap (64-(k.val:Int))=64-(k.val:Int):=by decide
theorem Z2 (x:Int)(k:Nat)(hk:k<64)(w:aOm):
 aK pg dG #[.int .u64 x,.int .i64 (k:Int)] w (λv w'=>v= .int .u64 (azH x k)/\w'=w):=by
 refine IE ?_
 have h1:=aJu ⟨k,hk⟩
 have h2:=aJ3 ⟨k,hk⟩
 simp only at h1 h2
 have e1:min k IntKind.u64.bits=k:=by simp only[IntKind.bits];omega
 have e2:min (64-(k:Int)).toNat IntKind.u64.bits=64-k:=by simp only[IntKind.bits];omega
 simp(disch:=omega)only[Dn,Ae,SV,h1,h2,e1,e2,azH]
theorem adD(v x:Int)(w:aOm):
 aK pg B8 #[.int .u64 v,.int .u64 x] w (λr w'=>r= .int .u64 (aCw v x)/\w'=w):=by
 refine akM ?_
 simp(disch:=omega)only[aoD,Z0,SV]
 refine(Z2 _ 31 (by omega) w).mono ?_
 rintro r w' ⟨rfl,rfl⟩
 simp(disch:=omega)only[SV,aCw]
def EA:List UInt8->Int
 |[]=>0
 |c::l=>(c.toNat:Int)+256*EA l
theorem Zi:∀l,0<=EA l
 |[]=>by simp[EA]
 |c::l=>by have:=Zi l;simp only[EA];omega
theorem ayL(l:List UInt8)(c:UInt8):EA (l++[c])=EA l+(c.toNat:Int)*256^l.length:=by
 induction l with
 |nil=>simp[EA]
 |cons a l ih=>simp only[aMo,EA,ih,aLS,Int.pow_succ,Int.mul_add];rw[Int.mul_comm (256:Int) (_*_),Int.mul_assoc];omega
theorem auN:∀l:List UInt8,EA l<256^l.length
 |[]=>by simp[EA]
 |c::l=>by
  have:=auN l
  have hc:c.toNat<256:=c.toNat_lt
  simp only[EA,aLS,Int.pow_succ];omega
theorem agG{α:Type}{l:List α}{k:Nat}(h:k<l.length):l.take (k+1)=l.take k++[l[k]]:=by
 rw[List.take_succ_eq_append_getElem h]
theorem aEA{x:Int}{c k:Nat}(hk:k<8)(hx0:0<=x)(hx:x<256^k)(hc:c<256):
 orI .u64 x (IntKind.u64.wrap ((c:Int)*2^(8*k)))=x+(c:Int)*256^k:=by
 obtain⟨m,rfl⟩:=Int.eq_ofNat_of_zero_le hx0
 have e256:(256:Nat)^k=2^(8*k):=by rw[show(256:Nat)=2^8 from rfl,<-Nat.pow_mul]
 have hm:m<2^(8*k):=by rw[<-e256];exact_mod_cast hx
 have hle:c*2^(8*k)+2^(8*k)<=2^64:=by
  have h1:(c+1)*2^(8*k)<=256*2^(8*k):=aL1 _ (by omega)
  have h2:(256:Nat)*2^(8*k)=2^(8*k+8):=by rw[aMF,aMb]
  have h3:(2:Nat)^(8*k+8)<=2^64:=aLG (by omega) (by omega)
  rw[aMl]at h1;omega
 have hpos:0<2^(8*k):=Nat.pow_pos (by omega)
 have w:IntKind.u64.wrap ((c:Int)*2^(8*k))=((c*2^(8*k):Nat):Int):=by
  have:((c:Int)*2^(8*k))=((c*2^(8*k):Nat):Int):=by push_cast;rfl
  rw[this];exact gP (by omega) (by omega)
 rw[w]
 have b1:(BitVec.ofInt 64 (m:Int)|||BitVec.ofInt 64 ((c*2^(8*k):Nat):Int)).toNat=m+c*2^(8*k):=by
  rw[BitVec.toNat_or]
  simp only[BitVec.toNat_ofInt]
  have e1:(((m:Int)%((2^64:Nat):Int)).toNat)=m:=by omega
  have e2:((((c*2^(8*k):Nat):Int)%((2^64:Nat):Int)).toNat)=c*2^(8*k):=by omega
  rw[e1,e2,Nat.or_comm,aMb c,<-Nat.two_pow_add_eq_or_of_lt hm]
  omega
 show IntKind.u64.wrap ((BitVec.ofInt 64 (m:Int)|||BitVec.ofInt 64 ((c*2^(8*k):Nat):Int)).toNat:Int)=_
 rw[b1]
 have:((m+c*2^(8*k):Nat):Int)=(m:Int)+(c:Int)*256^k:=by
  rw[<-e256];push_cast;rfl
 rw[<-this]
 exact gP (by omega) (by omega)
theorem XU(v:aOn)(l:List UInt8)(w:aOm)(h:Bs w v l)(hl:l.length<=8):
 aK pg zF #[v] w (λr w'=>r= .int .u64 (EA l)/\w'=w):=by
 obtain⟨a,n,c,rfl,hn,hc,hcell⟩:=h
 rw[aLv]at hn
 subst hn
 refine agF ?_
 simp(disch:=omega)only[akL,Gm,Gp,WM,M8,M9,WN,WO,SV]
 refine aX.rule (λn t w'=>∃k:Nat,n=l.length-k/\k<=l.length/\t=(.int .u64 (EA (l.take k)),.int .i64 (k:Int))/\w'=w) l.length ⟨0,rfl,aMQ _,rfl,rfl⟩ ?_
 rintro n t w' ⟨k,rfl,hk,rfl,rfl⟩
 by_cases hlt:k<l.length
 .obtain ⟨b,off,rfl,hcell'⟩:=hcell (by omega)
  have hcl:=hcell' k hlt
  rw[aLR,aLt hlt,aL6]at hcl
  have hb:(l[k].toNat)<256:=l[k].toNat_lt
  have hd:decide ((k:Int)<(l.length:Int))=true:=by simpa using hlt
  have e1:min (8*(k:Int)).toNat IntKind.u64.bits=8*k:=by simp only[IntKind.bits];omega
  simp(disch:=omega)only[Gn,SV,hd,bD,hcl,dR,e1]
  have hlen:(l.take k).length=k:=by simp;omega
  have hx:=auN (l.take k)
  rw[hlen]at hx
  refine⟨l.length-(k+1),by omega,k+1,rfl,by omega, ?_⟩
  rw[aEA (by omega) (Zi _) hx hb,agG hlt,ayL,hlen]
  rfl
 .have hd:decide ((k:Int)<(l.length:Int))=false:=by simpa using hlt
  simp(disch:=omega)only[Gn,SV,hd,aR]
  rw[aLO (by omega)]
  try(unfold Gm;exact⟨rfl,rfl⟩)
def aJJ:List Int:=[IntKind.u64.wrap (11400714785074694791+14029467366897019727),14029467366897019727,0,IntKind.u64.wrap (0-11400714785074694791)]
def Uc(vs:List Int)(s:List UInt8)(i:Nat):List Int:=vs.mapIdx λj v=>if j<i then aCw v (EA ((s.drop (8*j)).take 8))else v
def UQ:Nat->List UInt8->List Int
 |0,_=>aJJ
 |k+1,L=>Uc (UQ k L) ((L.drop (32*k)).take 32) 4
theorem tH(vs:List Int)(s:List UInt8)(i:Nat):(Uc vs s i).length=vs.length:=by simp[Uc]
theorem yA:∀k L,(UQ k L).length=4
 |0,_=>rfl
 |k+1,L=>by rw[UQ,tH,yA k L]
theorem aCO(vs:List Int)(s:List UInt8):Uc vs s 0=vs:=by
 apply aMU
 .simp [Uc]
 .intro i h1 h2;simp[Uc]
theorem aFc(vs:List Int)(s:List UInt8)(i:Nat)(h:i<vs.length):(Uc vs s i)[i]?=some vs[i]:=by
 rw[aLt (by rw[tH];exact h)];simp[Uc]
theorem aFd(vs:List Int)(s:List UInt8)(i:Nat)(h:i<vs.length):(Uc vs s i).set i (aCw vs[i] (EA ((s.drop (8*i)).take 8)))=Uc vs s (i+1):=by
 apply aMU
 .simp [Uc]
 .intro j h1 h2
  rw[aND]
  simp only[Uc,List.getElem_mapIdx]
  by_cases hij:i=j
  .subst hij;simp
  .simp only[hij,if_false]
   by_cases hj:j<i
   .rw [if_pos hj,if_pos (by omega)]
   .rw [if_neg hj,if_neg (by omega)]
theorem adF:∀k (L M:List UInt8),32*k<=L.length->UQ k (L++M)=UQ k L
 |0,_,_,_=>rfl
 |k+1,L,M,h=>by
  rw[UQ,UQ,adF k L M (by omega)]
  congr 1
  rw[aNO (by omega),aMW (by rw[aLP];omega)]
def cM(vs:List Int)(kept:List UInt8)(n all:Nat):List aOn:=vs.map (Value.int .u64)++(kept.map dR++[.int .i64 (n:Int),.int .u64 (all:Int)])
theorem mZ{vs:List Int}{kept:List UInt8}{n all:Nat}(h1:vs.length=4)(h2:kept.length=32):(cM vs kept n all).length=38:=by
 simp[cM,h1,h2]
theorem adQ{vs:List Int}{kept:List UInt8}{n all:Nat}(i:Nat)(h:i<vs.length):(cM vs kept n all)[i]?=some (.int .u64 vs[i]):=by
 unfold cM;rw[aLU (by simpa using h)];simp[h]
theorem Tc{vs:List Int}{kept:List UInt8}{n all:Nat}(h1:vs.length=4)(i:Nat)(h:i<kept.length):(cM vs kept n all)[4+i]?=some (dR kept[i]):=by
 unfold cM
 rw[aL0 (by simp[h1]),aLv,h1,aN7,aLU (by simpa using h)];simp[h]
theorem LD{vs:List Int}{kept:List UInt8}{n all:Nat}(h1:vs.length=4)(h2:kept.length=32):(cM vs kept n all)[36]?=some (.int .i64 (n:Int)):=by
 unfold cM
 rw[aL0 (by simp[h1]),aLv,h1,aL0 (by simp[h2]),aLv,h2]<;>rfl
theorem F8 {vs:List Int}{kept:List UInt8}{n all:Nat}(h1:vs.length=4)(h2:kept.length=32):(cM vs kept n all)[37]?=some (.int .u64 (all:Int)):=by
 unfold cM
 rw[aL0 (by simp[h1]),aLv,h1,aL0 (by simp[h2]),aLv,h2]<;>rfl
theorem afE{vs:List Int}{kept:List UInt8}{n all:Nat}(i:Nat)(x:Int)(h:i<vs.length):(cM vs kept n all).set i (.int .u64 x)=cM (vs.set i x) kept n all:=by
 unfold cM;rw[aNz _ _ (by simpa using h),aM5]
theorem QO{vs:List Int}{kept:List UInt8}{n all:Nat}(h1:vs.length=4)(h2:kept.length=32)(m:Nat):(cM vs kept n all).set 36 (.int .i64 (m:Int))=cM vs kept m all:=by
 unfold cM
 rw[aMt _ _ (by simp[h1]),aLv,h1,aMt _ _ (by simp[h2]),aLv,h2]<;>rfl
theorem YL{vs:List Int}{kept:List UInt8}{n all:Nat}(h1:vs.length=4)(h2:kept.length=32)(m:Nat):(cM vs kept n all).set 37 (.int .u64 (m:Int))=cM vs kept n m:=by
 unfold cM
 rw[aMt _ _ (by simp[h1]),aLv,h1,aMt _ _ (by simp[h2]),aLv,h2]<;>rfl
def Qr(l:List UInt8)(o:Nat)(x:List UInt8):List UInt8:=l.take o++x++l.drop (o+x.length)
theorem alZ{l:List UInt8}{o:Nat}{x:List UInt8}(h:o+x.length<=l.length):(Qr l o x).length=l.length:=by
 simp[Qr];omega
theorem aCf{l:List UInt8}{o:Nat}{c:UInt8}{x:List UInt8}(h:o+(x.length+1)<=l.length):Qr (l.set o c) (o+1) x=Qr l o (c::x):=by
 unfold Qr
 rw[List.take_set,List.drop_set_of_lt (by omega)]
 have e:(l.take (o+1)).set o c=l.take o++[c]:=by
  rw[List.take_succ_eq_append_getElem (by omega),aMt _ _ (by simp;omega)]
  simp only[aLD]
  rw[show o-min o l.length=0 from by omega]<;>rfl
 rw[e]
 simp only[aLJ,List.singleton_append,aLS,aMo,aL9]
 rw[show o+1+x.length=o+(x.length+1)from by omega]
theorem aiE{vs:List Int}{n all:Nat}(h1:vs.length=4):∀(x kept:List UInt8) (o:Nat),o+x.length<=kept.length→
 aT (cM vs kept n all) (4+o) (x.map dR)=cM vs (Qr kept o x) n all:=by
 intro x
 induction x with
 |nil=>intro kept o _;simp[aT,Qr]
 |cons c x ih=>
  intro kept o h
  rw[aLS]at h
  have e:(cM vs kept n all).set (4+o) (dR c)=cM vs (kept.set o c) n all:=by
   unfold cM
   rw[aMt _ _ (by simp[h1]),aLv,h1,aN7,aNz _ _ (by simp;omega),aM5]
  rw[aL7,aT,e,aMM,ih _ _ (by simp;omega),aCf (by omega)]
def aAl(w:aOm)(b:Nat)(L:List UInt8)(all:Nat):Prop:=
 ∃kept,kept.length=32/\kept.take (L.length%32)=L.drop (32*(L.length/32))/\aZ w b (cM (UQ (L.length/32) L) kept (L.length%32) all)
abbrev Z5 (w:aOm)(b:Nat)(L:List UInt8):Prop:=aAl w b L L.length
theorem aG7 (w:aOm):aK pg UA #[] w (λv w'=>v= .pointer (some ⟨w.heap.size,0,none⟩)/\Z5 w' w.heap.size []/\aN w w' bJ):=by
 refine arF ?_
 simp(disch:=omega)only[aBl,akK,SV]
 refine fC λw1 o1 x1 s1=>⟨rfl,⟨List.replicate 32 0,rfl,rfl, ?_⟩,x1⟩
 exact o1
theorem Z1 {w:aOm}{b:Nat}{cs:List aOn}(h:aZ w b cs):aZ (dr w) b cs:=h.ext (aN.dr w bJ) (λh=>h)
theorem arD(w0:aOm)(b:Nat)(vs:List Int)(kept:List UInt8)(all:Nat)(h1:vs.length=4)(h2:kept.length=32)(v:aOn)(R:aOn->aOn->aOm->Prop)
 (hR:∀w',aZ w' b (cM (Uc vs kept 4) kept 32 all)->aN w0 w' (λx=>x=b)->R (.pointer (some ⟨b,0,none⟩)) v w') (w:aOm) (ho:aZ w b (cM vs kept 32 all)) (hx:aN w0 w (λx=>x=b)):
 xS R (.pointer (some ⟨b,0,none⟩)) v w:=by
 simp(disch:=omega)only[xS,LY,qR,qR]
 refine aX.rule (λn t w'=>∃i:Nat,i<=4/\n=4-i/\t= .int .i64 (i:Int)/\aZ w' b (cM (Uc vs kept i) kept 32 all)/\aN w0 w' (λx=>x=b)) 4
  ⟨0,by omega,rfl,rfl,by rw[aCO];exact ho,hx⟩ ?_
 rintro n t w' ⟨i,hi,rfl,rfl,ho,hx⟩
 by_cases hlt:i<4
 .have hd:decide ((i:Int)<4)=true:=by simp;omega
  have hod:=Z1 ho
  have hv:=aFc vs kept i (by omega)
  have hc:(cM (Uc vs kept i) kept 32 all)[i]?=some (.int .u64 vs[i]):=by
   rw[adQ i (by rw[tH];omega)]
   rw[aLt (by rw[tH];omega)]at hv
   rw[aLW hv]
  have t1:(8*(i:Int)).toNat=8*i:=by omega
  have t2:(8*(i:Int)+8).toNat=8*i+8:=by omega
  simp(disch:=omega)only[xR,SV,hd,hod.cell,hc,t1,t2,oC (show 8*i≠32 by omega)]
  have hs:((kept.drop (8*i)).take 8).length=8:=by rw[aLD,aLP];omega
  have hbs:Bs (dr w') (.slice (some ⟨b,4+8*i,none⟩) (8*i+8-8*i) (32-8*i)) ((kept.drop (8*i)).take 8):=by
   rw[show 8*i+8-8*i=((kept.drop (8*i)).take 8).length from by omega]
   refine hod.bs (by omega) λj hj=> ?_
   rw[aMM,Tc (by rw[tH];exact h1) (8*i+j) (by omega)]
   simp
  refine(XU _ _ _ hbs (by omega)).mono ?_
  rintro r w1 ⟨rfl,rfl⟩
  simp(disch:=omega)only[SV,hod.cell,hc]
  refine(adD _ _ _).mono ?_
  rintro r w1 ⟨rfl,rfl⟩
  refine IT hod rfl (by rw[mZ (by rw[tH];exact h1) h2];omega) λw2 o2 x2 s2=> ?_
  rw[afE i _ (by rw[tH];omega),aFd vs kept i (by omega)]at o2
  exact⟨4-(i+1),by omega,i+1,by omega,rfl,rfl,o2,(hx.seq (aN.dr _ _)).seq x2⟩
 .have:i=4:=by omega
  subst this
  have hd:decide (((4:Nat):Int)<4)=false:=by simp
  simp(disch:=omega)only[xR,SV,hd]
  exact hR _ ho hx
theorem arG(w0:aOm)(b:Nat)(L l:List UInt8)(_hlen:L.length+l.length<=1099511627776)(R:aOm->Prop)
 (hR:∀w',aAl w' b (L++l) (L.length+l.length)->aN w0 w' (λx=>x=b)->R w') (v:aOn) (w:aOm)
 (h:aAl w b L (L.length+l.length)) (hv:Bs w v l) (hb:¬JN v (λx=>x=b)) (hx:aN w0 w (λx=>x=b)):
 kM R (.pointer (some ⟨b,0,none⟩)) v w:=by
 unfold kM
 refine aX.rule (λn t w'=>∃m:Nat,m<=l.length/\n=l.length-m/\Bs w' t (l.drop m)/\¬JN t (λx=>x=b)/\aAl w' b (L++l.take m) (L.length+l.length)/\aN w0 w' (λx=>x=b)) l.length
  ⟨0,by omega,rfl,hv,hb,by simpa using h,hx⟩ ?_
 rintro n t w' ⟨m,hm,rfl,hv,hb,⟨kept,h2,hk,ho⟩,hx⟩
 have hv':=hv
 obtain⟨a,n,c,rfl,hn,hc,hcell⟩:=hv'
 rw[aLv,aLP]at hn
 by_cases hlt:m<l.length
 .obtain ⟨b',o',rfl,hcell'⟩:=hcell (by omega)
  have hd:decide ((0:Int)<(n:Int))=true:=by simp;omega
  have hM:(L++l.take m).length=L.length+m:=by simp;omega
  rw[hM]at hk ho
  obtain⟨q,hq⟩:∃q,q=(L.length+m)/32:=⟨_,rfl⟩
  obtain⟨r,hr⟩:∃r,r=(L.length+m)%32:=⟨_,rfl⟩
  rw[<-hq,<-hr]at hk ho
  have hqr:L.length+m=32*q+r/\r<32:=by omega
  have h1:(UQ q (L++l.take m)).length=4:=yA _ _
  have hod:=Z1 ho
  have t1:(r:Int).toNat=r:=by omega
  simp(disch:=omega)only[oH,uV,fT,fT,uU,qS,xU,xT,qQ,SV,hd,hod.cell,LD h1 h2,oC (show r≠32 by omega)]
  have hvd:Bs (dr w') (.slice (some ⟨b',o',none⟩) n c) (l.drop m):=hv.ext (aN.dr w' bJ) (by unfold JN bJ;split<;>simp)
  refine SD hod (by rw[mZ h1 h2];omega) hvd (BF _) λw1 o1 x1 s1=> ?_
  obtain⟨u,hu⟩:∃u,u=min n (32-r):=⟨_,rfl⟩
  have hlm:(List.map dR (l.drop m)).length=n:=by rw[aLv,aLP,hn]
  rw[hlm]at o1⊢
  rw[<-hu]at o1⊢
  have hu1:u<=n/\u<=32-r/\(u=n∨u=32-r):=by omega
  have hul:((l.drop m).take u).length=u:=by rw[aLD,aLP];omega
  rw[<-aNg,aiE h1 _ _ _ (by omega)]at o1
  obtain⟨kept1,hk1⟩:∃x,x=Qr kept r ((l.drop m).take u):=⟨_,rfl⟩
  rw[<-hk1]at o1
  have h21:kept1.length=32:=by rw[hk1,alZ (by omega)];exact h2
  simp(disch:=omega)only[SV,o1.cell,LD h1 h21]
  refine rF o1 rfl (by rw[mZ h1 h21];omega) λw2 o2 x2 s2=> ?_
  rw[<-Int.natCast_add,QO h1 h21]at o2
  have hx2:aN w' w2 (λx=>x=b):=((aN.dr w' _).seq x1).seq x2
  have hv2:=hv.ext hx2 hb
  have hv3:=hv2.drop hu1.1
  have hb3:=aBX (k:=u) hb (by omega) (n-u)
  rw[<-aNx,aMK]at hv3
  have hM2:L++l.take (m+u)=(L++l.take m)++(l.drop m).take u:=by rw[aLJ,List.take_add]
  have hacc:UQ q (L++l.take (m+u))=UQ q (L++l.take m):=by rw[hM2];exact adF _ _ _ (by omega)
  have hlen2:(L++l.take (m+u)).length=L.length+(m+u):=by simp;omega
  have hkeep:kept1.take (r+u)=(L++l.take (m+u)).drop (32*q):=by
   rw[hk1,hM2,aNO (by omega),<-hk]
   unfold Qr
   rw[aMW (by simp;omega),aLO (by simp;omega)]
  rw[<-hacc]at o2
  simp(disch:=omega)only[SV,o2.cell,LD (yA _ _) h21]
  by_cases hfull:r+u=32
  .have he:(((r+u:Nat):Int)==32)=true:=by rw[hfull]<;>rfl
   rw[he]
   simp(disch:=omega)only[SV]
   rw[hfull]at o2 hkeep
   have h11:=yA q (L++l.take (m+u))
   refine arD w2 b _ kept1 _ h11 h21 _ _ (λw3 o3 x3=> ?_) w2 o2 (aN.refl _ _)
   have h13:(Uc (UQ q (L++l.take (m+u))) kept1 4).length=4:=by rw[tH];exact h11
   simp(disch:=omega)only[oH,uV,fT,fT,uU,qS,xU,xT,qQ,SV]
   refine rF o3 rfl (by rw[mZ h13 h21];omega) λw4 o4 x4 s4=> ?_
   have o4:aZ w4 b ((cM (Uc (UQ q (L++l.take (m+u))) kept1 4) kept1 32 (L.length+l.length)).set 36 (.int .i64 ((0:Nat):Int))):=o4
   rw[QO h13 h21]at o4
   have hx4:=x3.seq x4
   have hkk:kept1=(L++l.take (m+u)).drop (32*q):=by rw[<-hkeep,aLO (by omega)]
   refine⟨l.length-(m+u),by omega,m+u,by omega,rfl,hv3.ext hx4 hb3,hb3,⟨kept1,h21, ?_, ?_⟩,(hx.seq hx2).seq hx4⟩
   .have z:(L++l.take (m+u)).drop (32*((L.length+(m+u))/32))=[]:=aNj (by rw[hlen2];omega)
    have z1:(L.length+(m+u))%32=0:=by omega
    rw[hlen2,z,z1]<;>rfl
   .have z1:(L.length+(m+u))%32=0:=by omega
    have z2:(L.length+(m+u))/32=q+1:=by omega
    have z3:kept1.take 32=kept1:=aLO (by omega)
    rw[hlen2,z1,z2,UQ,<-hkk,z3]
    exact o4
  .have he:(((r+u:Nat):Int)==32)=false:=by rw[beq_eq_false_iff_ne];omega
   rw[he]
   simp(disch:=omega)only[SV]
   refine⟨l.length-(m+u),by omega,m+u,by omega,rfl,hv3,hb3,⟨kept1,h21, ?_, ?_⟩,hx.seq hx2⟩
   .rw [hlen2,show(L.length+(m+u))%32=r+u from by omega,show(L.length+(m+u))/32=q from by omega];exact hkeep
   .rw [hlen2,show(L.length+(m+u))%32=r+u from by omega,show(L.length+(m+u))/32=q from by omega];exact o2
 .have hd:decide ((0:Int)<(n:Int))=false:=by simp;omega
  simp(disch:=omega)only[oH,uV,fT,fT,uU,qS,xU,xT,qQ,SV,hd]
  refine hR _ ⟨kept,h2, ?_, ?_⟩ hx
  .have e:l.take m=l:=aLO (by omega)
   rw[e]at hk;exact hk
  .have e:l.take m=l:=aLO (by omega)
   rw[e]at ho;exact ho
theorem aCY(b:Nat)(L l:List UInt8)(hlen:L.length+l.length<=1099511627776)(v:aOn)(w:aOm)(h:Z5 w b L)(hv:Bs w v l)(hb:¬JN v (λx=>x=b)):
 aK pg zE #[.pointer (some ⟨b,0,none⟩),v] w (λr w'=>r= .tuple #[]/\Z5 w' b (L++l)/\aN w w' (λx=>x=b)):=by
 refine VD ?_
 obtain⟨kept,h2,hk,ho⟩:=h
 have h1:=yA (L.length/32) L
 have hv':=hv
 obtain⟨a,n,c,rfl,hn,hc,hcell⟩:=hv'
 rw[aLv]at hn
 simp(disch:=omega)only[Uv,KN,KM,kM,SV,ho.cell,F8 h1 h2]
 refine IT ho rfl (by rw[mZ h1 h2];omega) λw1 o1 x1 s1=> ?_
 rw[<-Int.natCast_add,hn,YL h1 h2]at o1
 refine arG w b L l hlen _ (λw' hh hx=>⟨?_,hx⟩) _ w1 ⟨kept,h2,hk,o1⟩ (hv.ext x1 hb) hb x1
 unfold Z5;rw[aLs];exact hh
def jA(vs:List Int):Nat->Int
 |0=>0
 |i+1=>IntKind.u64.wrap (jA vs i+azH (vs.getD i 0) ([1,7,12,18].getD i 0))
def jB(vs:List Int):Nat->Int
 |0=>jA vs 4
 |i+1=>IntKind.u64.wrap (IntKind.u64.wrap (XR .u64 (jB vs i) (aCw 0 (vs.getD i 0))*11400714785074694791)+9650029242287828579)
def atK(L:List UInt8):Int:=if L.length<32 then 2870177450012600261 else jB (UQ (L.length/32) L) 4
def aD3 (x:Int):Int:=
 let y1:=IntKind.u64.wrap (XR .u64 x (x.fdiv (2^min (33:Int).toNat IntKind.u64.bits))*14029467366897019727)
 let y2:=IntKind.u64.wrap (XR .u64 y1 (y1.fdiv (2^min (29:Int).toNat IntKind.u64.bits))*1609587929392839161)
 XR .u64 y2 (y2.fdiv (2^min (32:Int).toNat IntKind.u64.bits))
def ajX(x m:Int):Int:=IntKind.u64.wrap (IntKind.u64.wrap (azH (XR .u64 x (aCw 0 m)) 27*11400714785074694791)+9650029242287828579)
def aHx(x m:Int):Int:=IntKind.u64.wrap (IntKind.u64.wrap (azH (XR .u64 x (IntKind.u64.wrap (m*11400714785074694791))) 23*14029467366897019727)+1609587929392839161)
def aJ1 (x:Int)(c:UInt8):Int:=IntKind.u64.wrap (azH (XR .u64 x (IntKind.u64.wrap ((c.toNat:Int)*2870177450012600261))) 11*11400714785074694791)
def e8 (x:Int)(B:List UInt8):Nat->Int
 |0=>x
 |j+1=>ajX (e8 x B j) (EA ((B.drop (8*j)).take 8))
def e1 (x:Int)(B:List UInt8):Nat->Int
 |0=>x
 |j+1=>aJ1 (e1 x B j) (B.getD j 0)
def Z6 (x:Int)(C:List UInt8):Int×List UInt8:=if 4<=C.length then(aHx x (EA (C.take 4)),C.drop 4)else(x,C)
def aE8 (x:Int)(B:List UInt8):Int:=
 let r:=Z6 (e8 x B (B.length/8)) (B.drop (8*(B.length/8)))
 e1 r.1 r.2 r.2.length
def XXH(L:List UInt8):Int:=aD3 (aE8 (IntKind.u64.wrap (atK L+(L.length:Int))) (L.drop (32*(L.length/32))))
theorem aAj(b:Nat)(L:List UInt8)(hlen:L.length<=1099511627776)(w:aOm)(h:Z5 w b L):
 aK pg xA #[.pointer (some ⟨b,0,none⟩)] w (λr w'=>r= .int .u64 (atK L)/\w'=w):=by
 refine Uy ?_
 obtain⟨kept,h2,hk,ho⟩:=h
 have h1:=yA (L.length/32) L
 by_cases hs:L.length<32
 .have hd:decide ((L.length:Int)<32)=true:=by simp;omega
  simp(disch:=omega)only[HE,gK,gJ,SV,ho.cell,F8 h1 h2,hd,atK,hs]
 .have hd:decide ((L.length:Int)<32)=false:=by simp;omega
  obtain⟨vs,hvs⟩:∃vs,vs=UQ (L.length/32) L:=⟨_,rfl⟩
  have hH:atK L=jB vs 4:=by rw[hvs];unfold atK;rw[if_neg hs]
  rw[hH]
  rw[<-hvs]at ho h1
  clear hvs hH
  simp(disch:=omega)only[HE,iE,fU,kN,iF,iG,fV,jP,gH,gI,gJ,gK,SV,ho.cell,F8 h1 h2,hd]
  refine aX.rule (λn t w'=>∃i:Nat,i<=4/\n=4-i/\t=(.int .u64 (jA vs i),.int .i64 (i:Int))/\w'=w) 4 ⟨0,by omega,rfl,rfl,rfl⟩ ?_
  rintro n t w' ⟨i,hi,rfl,rfl,rfl⟩
  by_cases hlt:i<4
  .have hd:decide ((i:Int)<4)=true:=by simp;omega
   have hv:=adQ (vs:=vs) (kept:=kept) (n:=L.length%32) (all:=L.length) i (by omega)
   have hg:(#[Value.int .i64 1,.int .i64 7,.int .i64 12,.int .i64 18]:Array aOn)[i]?=some (.int .i64 (([1,7,12,18].getD i 0:Nat):Int)):=by
    have:i=0∨i=1∨i=2∨i=3:=by omega
    rcases this with rfl|rfl|rfl|rfl<;>rfl
   have ht:[1,7,12,18].getD i 0<64:=by
    have:i=0∨i=1∨i=2∨i=3:=by omega
    rcases this with rfl|rfl|rfl|rfl<;>decide
   simp(disch:=omega)only[uX,iE,fU,kN,iF,iG,fV,jP,gH,gI,gJ,gK,SV,hd,hg,ho.cell,hv]
   refine(Z2 _ _ ht _).mono ?_
   rintro r w1 ⟨rfl,rfl⟩
   simp(disch:=omega)only[SV]
   refine⟨4-(i+1),by omega,i+1,by omega,rfl, ?_⟩
   have hvd:vs.getD i 0=vs[i]'(by omega):=by rw[aLz,aLt (by omega)]<;>rfl
   rw[jA,hvd]
   rfl
  .have:i=4:=by omega
   subst this
   have hd:decide (((4:Nat):Int)<4)=false:=by simp
   have ha:=aiN (off:=0) ho (by rw[mZ h1 h2];omega)
   have hb:((cM vs kept (L.length%32) L.length).drop 0).take 4=vs.map (Value.int .u64):=by
    rw[aLE];unfold cM;rw[aMW (by simp;omega),aLO (by simp;omega)]
   rw[hb]at ha
   simp(disch:=omega)only[uX,iE,fU,kN,iF,iG,fV,jP,gH,gI,gJ,gK,SV,hd,ha,decide_false]
   refine aX.rule (λn t w2=>∃i:Nat,i<=4/\n=4-i/\t=(.int .u64 (jB vs i),.int .i64 (i:Int))/\w2=w') 4 ⟨0,by omega,rfl,rfl,rfl⟩ ?_
   rintro n t w2 ⟨i,hi,rfl,rfl,rfl⟩
   by_cases hlt:i<4
   .have hd:decide ((i:Int)<4)=true:=by simp;omega
    have hg:((vs.map (Value.int .u64)).toArray)[i]?=some (.int .u64 (vs[i]'(by omega))):=by simp[show i<vs.length by omega]
    simp(disch:=omega)only[uW,iE,fU,kN,iF,iG,fV,jP,gH,gI,gJ,gK,SV,hd,hg]
    refine(adD _ _ _).mono ?_
    rintro r w1 ⟨rfl,rfl⟩
    simp(disch:=omega)only[SV]
    refine⟨4-(i+1),by omega,i+1,by omega,rfl, ?_⟩
    have hvd:vs.getD i 0=vs[i]'(by omega):=by rw[aLz,aLt (by omega)]<;>rfl
    rw[jB,hvd]
    rfl
   .have:i=4:=by omega
    subst this
    have hd:decide (((4:Nat):Int)<4)=false:=by simp
    simp(disch:=omega)only[uW,iE,fU,kN,iF,iG,fV,jP,gH,gI,gJ,gK,SV,hd,decide_false]
theorem avY(w:aOm)(R:aOn->aOm->Prop)(y:Int)(D:List UInt8)(v:aOn)(hv:Bs w v D)(hD:D.length<32)(hR:R (.int .u64 (aD3 (e1 y D D.length))) w):
 jT R (.int .u64 y) v w:=by
 have hv':=hv
 obtain⟨a,n,c,rfl,hn,hc,hcell⟩:=hv'
 rw[aLv]at hn
 simp(disch:=omega)only[jT,lV,pN,iB,iB,SV]
 refine aX.rule (λm t w'=>∃j:Nat,j<=n/\m=n-j/\t=(.int .u64 (e1 y D j),.int .i64 (j:Int))/\w'=w) n ⟨0,by omega,rfl,rfl,rfl⟩ ?_
 rintro m t w' ⟨j,hj,rfl,rfl,rfl⟩
 by_cases hlt:j<n
 .obtain ⟨b,off,rfl,hcell'⟩:=hcell (by omega)
  have hcl:=hcell' j hlt
  rw[aLR,aLt (by omega),aL6]at hcl
  have hb:(D[j]'(by omega)).toNat<256:=aM7 _
  have hd:decide ((j:Int)<(n:Int))=true:=by simpa using hlt
  simp(disch:=omega)only[BB,lU,iB,pN,lV,jT,lW,jU,jD,jE,nG,nH,SV,hd,hcl,dR]
  refine(Z2 _ 11 (by omega) _).mono ?_
  rintro r w1 ⟨rfl,rfl⟩
  simp(disch:=omega)only[SV]
  refine⟨n-(j+1),by omega,j+1,by omega,rfl, ?_⟩
  have hg:D.getD j 0=D[j]'(by omega):=by rw[aLz,aLt (by omega)]<;>rfl
  rw[e1,hg]
  rfl
 .have hd:decide ((j:Int)<(n:Int))=false:=by simpa using hlt
  have:j=D.length:=by omega
  subst this
  simp(disch:=omega)only[BB,lU,iB,pN,lV,jT,lW,jU,jD,jE,nG,nH,lU,SV,hd,decide_false]
  exact hR
theorem aE4 (w:aOm)(R:aOn->aOm->Prop)(x:Int)(B:List UInt8)(v:aOn)(hv:Bs w v B)(hB:B.length<32)(hR:R (.int .u64 (aD3 (aE8 x B))) w):
 jE R (.int .u64 x) v w:=by
 unfold jE jD
 refine aX.rule (λn t w'=>∃(j:Nat) (u:aOn),8*j<=B.length/\n=B.length-j/\t=(.int .u64 (e8 x B j),u)/\Bs w u (B.drop (8*j))/\w'=w) B.length ⟨0,v,by omega,rfl,rfl,hv,rfl⟩ ?_
 rintro n t w' ⟨j,u,hj,rfl,rfl,hu,rfl⟩
 have hu':=hu
 obtain⟨a,n,c,rfl,hn,hc,hcell⟩:=hu'
 rw[aLv,aLP]at hn
 by_cases h8:8<=n
 .obtain ⟨b',o',rfl,_⟩:=hcell (by omega)
  have hd:decide ((8:Int)<=(n:Int))=true:=by simp;omega
  have t8:(8:Int).toNat=8:=rfl
  simp(disch:=omega)only[Ab,lU,iB,pN,lV,jT,lW,jU,jD,jE,nG,nH,SV,hd,t8]
  have hs:=hu.take h8
  rw[<-aNg]at hs
  refine(XU _ _ _ hs (by rw[aLD];omega)).mono ?_
  rintro r w1 ⟨rfl,rfl⟩
  refine(adD _ _ _).mono ?_
  rintro r w1 ⟨rfl,rfl⟩
  simp(disch:=omega)only[SV]
  refine(Z2 _ 27 (by omega) _).mono ?_
  rintro r w1 ⟨rfl,rfl⟩
  simp(disch:=omega)only[SV,t8]
  have hs2:=hu.drop h8
  rw[<-aNx,aMK]at hs2
  exact⟨B.length-(j+1),by omega,j+1,_,by omega,rfl,rfl,by rw[aNW];exact hs2⟩
 .have hd:decide ((8:Int)<=(n:Int))=false:=by simp;omega
  have hj8:j=B.length/8:=by omega
  obtain⟨C,hC⟩:∃C,C=B.drop (8*j):=⟨_,rfl⟩
  have hCl:C.length=n:=by rw[hC,aLP,hn]
  have htail:aE8 x B=(let r:=Z6 (e8 x B j) C;e1 r.1 r.2 r.2.length):=by rw[hC,hj8]<;>rfl
  rw[htail]at hR
  rw[<-hC]at hu
  simp(disch:=omega)only[Ab,lU,iB,pN,lV,jT,lW,jU,jD,jE,nG,nH,SV,hd,decide_false]
  by_cases h4:4<=n
  .obtain ⟨b',o',rfl,_⟩:=hcell (by omega)
   have hd:decide ((4:Int)<=(n:Int))=true:=by simp;omega
   have t4:(4:Int).toNat=4:=rfl
   have ha:Z6 (e8 x B j) C=(aHx (e8 x B j) (EA (C.take 4)),C.drop 4):=by unfold Z6;rw[if_pos (by omega)]
   rw[ha]at hR
   simp(disch:=omega)only[jU,lW,SV,hd,t4]
   have hs:=hu.take h4
   rw[<-aNg]at hs
   refine(XU _ _ _ hs (by rw[aLD];omega)).mono ?_
   rintro r w1 ⟨rfl,rfl⟩
   simp(disch:=omega)only[SV]
   refine(Z2 _ 23 (by omega) _).mono ?_
   rintro r w1 ⟨rfl,rfl⟩
   simp(disch:=omega)only[SV,t4]
   have hs2:=hu.drop h4
   rw[<-aNx]at hs2
   exact avY _ _ _ _ _ hs2 (by rw[aLP];omega) hR
  .have hd:decide ((4:Int)<=(n:Int))=false:=by simp;omega
   have ha:Z6 (e8 x B j) C=(e8 x B j,C):=by unfold Z6;rw[if_neg (by omega)]
   rw[ha]at hR
   simp(disch:=omega)only[jU,lW,SV,hd]
   exact avY _ _ _ _ _ hu (by omega) hR
theorem aG8 (b:Nat)(L:List UInt8)(hlen:L.length<=1099511627776)(w:aOm)(h:Z5 w b L):
 aK pg CE #[.pointer (some ⟨b,0,none⟩)] w (λr w'=>r= .int .u64 (XXH L)/\aN w w' bJ):=by
 refine ZZ ?_
 have h':=h
 obtain⟨kept,h2,hk,ho⟩:=h'
 have h1:=yA (L.length/32) L
 have hod:=Z1 ho
 simp(disch:=omega)only[ZY,nH,nG,SV]
 refine(aAj b L hlen (dr w) ⟨kept,h2,hk,hod⟩).mono ?_
 rintro r w1 ⟨rfl,rfl⟩
 have hod2:=Z1 hod
 have hr:L.length%32<32:=by omega
 have hbs:Bs (dr (dr w)) (.slice (some ⟨b,4,none⟩) (L.length%32-0) (32-0)) (L.drop (32*(L.length/32))):=by
  rw[<-hk]
  have e:(kept.take (L.length%32)).length=L.length%32:=by rw[aLD];omega
  rw[show L.length%32-0=(kept.take (L.length%32)).length from by omega]
  refine hod2.bs (by omega) λj hj=> ?_
  rw[Tc h1 j (by omega)]
  simp
 have t0:iD ⟨b,4,none⟩ 32 0 1=⟨b,4,none⟩:=by rw[oC (by omega)]
 simp(disch:=omega)only[SV,hod.cell,hod2.cell,F8 h1 h2,LD h1 h2,t0]
 refine aE4 _ _ _ _ _ hbs (by rw[aLP];omega) ⟨rfl,(aN.dr w _).seq (aN.dr _ _)⟩
theorem aFA(L:List UInt8)(hlen:L.length<=1099511627776)(v:aOn)(w:aOm)(hv:Bs w v L):
 aK pg Na #[v] w (λr w'=>r= .int .u64 (XXH L)/\aN w w' bJ):=by
 refine awL ?_
 simp(disch:=omega)only[aFz,aoC,SV]
 refine(aG7 w).mono ?_
 rintro r w1 ⟨rfl,h1,x1⟩
 have hnb:¬JN v (λx=>x=w.heap.size):=by
  intro hb
  refine hv.old ?_
  unfold JN at*
  split at hb
  .omega
  .exact hb
 have hv1:=hv.ext x1 (by unfold JN bJ;split<;>simp)
 refine(aCY _ [] L (by simpa using hlen) v w1 h1 hv1 hnb).mono ?_
 rintro r w2 ⟨rfl,h2,x2⟩
 refine(aG8 _ L hlen w2 h2).mono ?_
 rintro r w3 ⟨rfl,x3⟩
 exact⟨rfl,(x1.new x2 (aLA _)).seq x3⟩
end Go.Proofs.YtoecppploooloaaGreatDoor
namespace Go.Proofs.YtoecppploooloaaGreatDoor
open Go Go.En Go.Pu
set_option maxRecDepth 4000
def XN(L:List UInt8):Nat:=(XXH L).toNat
theorem adA(a b:Int):0<=XR .u64 a b/\XR .u64 a b<2^64:=by
 unfold XR
 have h:(BitVec.ofInt IntKind.u64.bits a^^^BitVec.ofInt IntKind.u64.bits b).toNat<2^64:=BitVec.isLt _
 rw[gP (by omega) (by omega)]
 omega
theorem aHb(L:List UInt8):XN L<2^64:=by
 have:=adA
 unfold XN XXH aD3
 simp only[]
 generalize IntKind.u64.wrap (XR .u64 (IntKind.u64.wrap _) _*1609587929392839161)=y
 have:=adA y (y.fdiv (2^min (32:Int).toNat IntKind.u64.bits))
 omega
theorem aHc(L:List UInt8):XXH L=(XN L:Int):=by
 have:0<=XXH L:=by
  unfold XXH aD3
  exact(adA _ _).1
 unfold XN
 omega
theorem aJs{x:Nat}(h:x<2^64):Cq .u64 (x:Int) 4294967295=((x%2^32:Nat):Int):=by
 unfold Cq
 have e:IntKind.u64.bits=64:=rfl
 have e2:(4294967295:Int)=((2^32-1:Nat):Int):=by decide
 rw[e2,e,BitVec.ofInt_natCast,BitVec.ofInt_natCast,BitVec.toNat_and,BitVec.toNat_ofNat,BitVec.toNat_ofNat,aLV h,aLV (by omega),aNc]
 exact gP (by omega) (by omega)
def aoV(l all:List UInt8):Except Int (List UInt8):=if l.length<4 then .error 10 else if jW (l.take 4)≠XN all%2^32 then .error 13 else .ok (l.drop 4)
def aJA(lo hi pr:Nat)(w:aOm)(r:aOn)(w':aOm):Except Int (List UInt8)->Prop
 | .error e=>e≠0/\r= .int .i64 e/\aN w w' (λy=>y=pr)
 | .ok l=>r= .int .i64 0/\Pa w' lo hi pr l 0/\aN w w' (λy=>y=pr)
theorem aBL{p pr lo hi:Nat}{va:aOn}{all l:List UInt8}{cs:List aOn}{w:aOm}(o:aZ w p cs)(k0:cs[0]?=some (.pointer (some ⟨pr,0,none⟩)))(hr:Pa w lo hi pr l 0)(ha:Bs w va all)(hv:¬JN va (λy=>y=pr))(hl:l.length<=1000000)(hall:all.length<=2000000):
 aK pg jZ #[.pointer (some ⟨p,0,none⟩),va] w (λr w'=>aJA lo hi pr w r w' (aoV l all)):=by
 refine Ml ?_
 unfold HL CW
 refine(ahN (n:=4) o k0 hr hl (by omega)).mono ?_
 unfold aoV
 rintro r w1 (⟨h1,rfl,h2⟩|⟨h1,v,rfl,hb1,hat,hr1,x1⟩)
 .rw [h2];clear h2 w1
  have n1:((10:Int) !=0)=true:=rfl
  rw[if_pos h1]
  simp(disch:=omega)only[SV,n1]
  exact⟨by decide,rfl,aN.refl _ _⟩
 rw[if_neg (by omega)]
 have n1:((0:Int) !=0)=false:=rfl
 simp(disch:=omega)only[SV,n1]
 refine(GO hb1 (by rw[aLD];omega)).mono ?_
 rintro r w2 ⟨p2,rfl,hr2,x2⟩
 have z1:=x1.size
 have hz:=hr.lt
 refine(yI (n:=4) hr2 (by rw[aLD];omega) ⟨by omega,by omega⟩).mono ?_
 rintro r w3 ⟨rfl,hr3,x3⟩
 have ht:D2 (l.take 4) 0 4=(l.take 4,[],0):=by
  unfold D2
  rw[if_neg (by decide),if_neg (by rw[aLD];omega),aLO (by rw[aLD];omega),aMI (by rw[aLD];omega)]
 rw[ht]
 have h2:w1.heap.size<=p2:=hr2.1
 have x13:aN w1 w3 bJ:=x2.trans x3 λy hy h=>by omega
 refine(aFA all (by omega) va w3 ((ha.ext x1 hv).ext x13 (aU _))).mono ?_
 rintro r w4 ⟨rfl,x4⟩
 rw[aHc]
 have a32:=aJs (aHb all)
 obtain⟨q,hq⟩:∃q,q=jW (l.take 4):=⟨_,rfl⟩
 rw[<-hq]
 obtain⟨q2,hq2⟩:∃q,q=XN all%2^32:=⟨_,rfl⟩
 rw[<-hq2]at a32⊢
 by_cases he:q=q2
 .have n2:((q:Int) !=(q2:Int))=false:=by rw[he];simp
  rw[if_neg (by simpa using he)]
  simp(disch:=omega)only[SV,a32,n2]
  exact⟨rfl,(hr1.ext x13 λ_ _ _ h=>h).ext x4 λ_ _ _ h=>h,(x1.trans x13 λ_ _ h=>h.elim).trans x4 λ_ _ h=>h.elim⟩
 .have n2:((q:Int) !=(q2:Int))=true:=by simp;omega
  rw[if_pos he]
  simp(disch:=omega)only[SV,a32,n2]
  exact⟨by decide,rfl,(x1.trans x13 λ_ _ h=>h.elim).trans x4 λ_ _ h=>h.elim⟩
def NH(h:FH)(l all:List UInt8):Except Int (List UInt8×List UInt8):=
 if h.known=true/\all.length≠h.size then .error 11 else if h.sum=true then(match aoV l all with| .error e=> .error e| .ok l'=> .ok (all,l'))else .ok (all,l)
structure DM where
 l:List UInt8
 win:Nat
 most:Nat
 out:List UInt8
 fr:Nat
 sk:Nat
def tU(pr:Nat)(vo:aOn)(m:DM):List aOn:=[.pointer (some ⟨pr,0,none⟩),.int .u64 (m.win:Nat),.int .i64 (m.most:Nat),vo,.int .i64 (m.fr:Nat),.int .i64 (m.sk:Nat)]
def DSt(w:aOm)(base p:Nat)(m:DM):Prop:=
 ∃pr vo lo hi,∃O:Nat->Prop,aZ w p (tU pr vo m)/\Pa w lo hi pr m.l 0/\Ah w O 1 vo m.out.length (m.out.map dR)/\base<=p/\base<=lo/\(∀b,O b->base<=b/\b≠p/\¬(lo<=b/\b<hi))/\¬(lo<=p/\p<hi)/\hi<=w.heap.size
theorem aGD{w:aOm}{S M:Nat->Prop}{n:Nat}{v:aOn}{l:List aOn}(h:Ah w S 1 v n l)(hM:∀b,S b->¬M b):¬JN v M:=by
 rcases h.2 with⟨rfl,rfl⟩|⟨b,c,rest,rfl,h2,_⟩
 .exact λh=>h
 .have:=hM b h2
  cases n<;>simp_all[JN]
def aBS(base p:Nat)(w:aOm)(dm:DM)(r:aOn)(w':aOm):Except Int (List UInt8×List UInt8)->Prop
 | .error e=>e≠0/\r= .int .i64 e/\aN w w' (λy=>base<=y)
 | .ok (all,l)=>r= .int .i64 0/\DSt w' base p ⟨l,dm.win,dm.most,dm.out++all,dm.fr+1,dm.sk⟩/\aN w w' (λy=>base<=y)
theorem amL{RR:aOn->aOm->Prop}{base p pr lo hi:Nat}{O:Nat->Prop}{vo va:aOn}{all:List UInt8}{m:DM}{w:aOm}
 (o:aZ w p (tU pr vo m)) (hr:Pa w lo hi pr m.l 0) (oo:Ah w O 1 vo m.out.length (m.out.map dR)) (hp:base<=p) (hlo:base<=lo) (hO:∀b,O b->base<=b/\b≠p/\¬(lo<=b/\b<hi)) (q1:¬(lo<=p/\p<hi)) (hhi:hi<=w.heap.size)
 (ha:Bs w va all) (h1:m.out.length<=2000000) (h2:all.length<=2000000) (h3:m.fr<=2000000)
 (hk:∀w',DSt w' base p ⟨m.l,m.win,m.most,m.out++all,m.fr+1,m.sk⟩->aN w w' (λy=>base<=y)->RR (.int .i64 0) w'):
 gR RR (.pointer (some ⟨p,0,none⟩)) va w:=by
 unfold gR
 have hz:=o.lt
 have c3:=o.cell (off:=3)
 simp only[tU,aLu,aLw]at c3
 simp(disch:=omega)only[SV,c3]
 refine apB (S:=λb=>O b∨w.heap.size<=b) (Zl oo λb h _=> .inl h) ha (λb h=> .inr h) (by omega) λv' w1 o1 x1=> ?_
 have hp1:¬(O p∨w.heap.size<=p):=by
  rintro(h|h)
  .exact (hO p h).2.1 rfl
  .omega
 have o2:=o.ext x1 hp1
 obtain⟨a',c',hv'⟩:=o1.len
 try simp(disch:=omega)only[SV]
 refine lK (off:=3) o2 (by rw[hv']<;>rfl) (by simp[tU]) λw3 o3 x3 s3=> ?_
 simp only[tU,aLy,aLB]at o3
 have c4:=o3.cell (off:=4)
 simp only[aLu,aLw]at c4
 have e4:(m.fr:Int)+1=((m.fr+1:Nat):Int):=by omega
 have w4:IntKind.i64.wrap ((m.fr+1:Nat):Int)=((m.fr+1:Nat):Int):=cX (by omega) (by omega)
 simp(disch:=omega)only[SV,c4,e4,w4]
 refine rF (off:=4) o3 rfl (by simp) λw5 o5 x5 s5=> ?_
 simp only[aLy,aLB]at o5
 have x35:=x3.seq x5
 have zz1:=x1.size
 have zz3:=x35.size
 have x05:aN w w5 (λy=>O y∨w.heap.size<=y∨y=p):=(x1.mono λy _ h=>h.elim .inl λh=> .inr (.inl h)).seq (x35.mono λy _ h=> .inr (.inr h))
 refine hk w5 ⟨pr,v',lo,hi,λb=>(O b∨w.heap.size<=b),o5, ?_,o1.ext x35 ?_,hp,hlo, ?_,q1,by omega⟩ (x05.mono ?_)
 .refine hr.ext x05 λb h1 h2 h=> ?_
  rcases h with h|h|h
  .exact (hO b h).2.2 ⟨h1,h2⟩
  .omega
  .exact q1 (h▸⟨h1,h2⟩)
 .intro b h e
  exact hp1 (e▸h)
 .rintro b (h|h)
  .exact hO b h
  .exact ⟨by omega,by omega,by omega⟩
 .rintro y hy (h|h|h)
  .exact (hO y h).1
  .omega
  .omega
theorem aBK{base p pr ph lo hi:Nat}{O A:Nat->Prop}{vo va:aOn}{all:List UInt8}{m dm:DM}{h:FH}{w0 w:aOm}
 (hdm:dm.win=m.win/\dm.most=m.most/\dm.out=m.out/\dm.fr=m.fr/\dm.sk=m.sk) (hx:aN w0 w (λy=>base<=y))
 (o:aZ w p (tU pr vo m)) (hr:Pa w lo hi pr m.l 0) (oo:Ah w O 1 vo m.out.length (m.out.map dR)) (hp:base<=p) (hlo:base<=lo) (hO:∀b,O b->base<=b/\b≠p/\¬(lo<=b/\b<hi)) (q1:¬(lo<=p/\p<hi)) (hhi:hi<=w.heap.size)
 (oh:aZ w ph (Oa h)) (ha:Ah w A 1 va all.length (all.map dR)) (hA:∀b,A b->¬(lo<=b/\b<hi)) (h1:m.out.length<=2000000) (h2:all.length<=2000000) (h3:m.fr<=2000000) (hl:m.l.length<=1000000) (hsz:h.size<2^64):
 kD (λr w'=>aBS base p w0 dm r w' (NH h m.l all)) (.pointer (some ⟨p,0,none⟩)) (.pointer (some ⟨ph,0,none⟩)) va w:=by
 obtain⟨RR,hRR⟩:∃RR:aOn->aOm->Prop,RR=λr w'=>aBS base p w0 dm r w' (NH h m.l all):=⟨_,rfl⟩
 rw[<-hRR]
 unfold kD Ei
 have c2:=oh.cell (off:=2)
 have c1:=oh.cell (off:=1)
 have c3:=oh.cell (off:=3)
 simp only[Oa,aLu,aLw]at c1 c2 c3
 obtain⟨a',c',hva⟩:=ha.len
 have hb:Bs w va all:=acA ha
 have wl:IntKind.u64.wrap (all.length:Int)=all.length:=gP (by omega) (by omega)
 have hpr:lo<=pr/\pr<hi:=⟨hr.1,hr.2.1⟩
 have hnp:¬JN va (λy=>y=pr):=aGD ha λb hb e=>hA b hb (e▸hpr)
 have fin:¬(h.known=true/\all.length≠h.size)->bQ (.bool h.sum) (aK pg jZ #[.pointer (some ⟨p,0,none⟩),va] w λt105 w=>aA pg (aD .neq 24 (.tmp 106) (.const (.int .i64 0)) t105 (.int .i64 0)) w λt107 w=>bQ t107 (RR t105 w) (gR RR (.pointer (some ⟨p,0,none⟩)) va w)) (gR RR (.pointer (some ⟨p,0,none⟩)) va w):=by
  intro hn
  cases hs:h.sum with
  |false=>
   simp(disch:=omega)only[SV]
   refine amL o hr oo hp hlo hO q1 hhi hb h1 h2 h3 λw' hd x=> ?_
   rw[hRR]
   unfold NH
   rw[if_neg hn,if_neg (by rw[hs];simp)]
   refine⟨rfl, ?_,hx.seq x⟩
   rw[hdm.1,hdm.2.1,hdm.2.2.1,hdm.2.2.2.1,hdm.2.2.2.2]
   exact hd
  |true=>
   simp(disch:=omega)only[SV]
   refine(aBL o (by rfl) hr hb hnp hl h2).mono ?_
   intro r w1 hs1
   have hdt:NH h m.l all=match aoV m.l all with| .error e=> .error e| .ok l'=> .ok (all,l'):=by
    unfold NH
    rw[if_neg hn,if_pos hs]
    try rfl
   cases hd:aoV m.l all with
   |error e=>
    rw[hd]at hs1
    obtain⟨he,rfl,x1⟩:=hs1
    have n1:(e !=0)=true:=by simp[he]
    simp(disch:=omega)only[SV,n1]
    rw[hRR,hdt,hd]
    exact⟨he,rfl,hx.seq (x1.mono λy _ h=>by omega)⟩
   |ok l'=>
    rw[hd]at hs1
    obtain⟨rfl,hr1,x1⟩:=hs1
    have n1:((0:Int) !=0)=false:=rfl
    simp(disch:=omega)only[SV,n1]
    have z1:=x1.size
    refine amL (m:=⟨l',m.win,m.most,m.out,m.fr,m.sk⟩) (o.ext x1 λe=>q1 (e▸hpr)) hr1 (oo.ext x1 λb hb e=>(hO b hb).2.2 (e▸hpr)) hp hlo hO q1 (by omega) (hb.ext x1 hnp) h1 h2 h3 λw' hd' x=> ?_
    rw[hRR,hdt,hd]
    refine⟨rfl, ?_,hx.seq ((x1.mono λy _ h=>by omega).seq x)⟩
    rw[hdm.1,hdm.2.1,hdm.2.2.1,hdm.2.2.2.1,hdm.2.2.2.2]
    exact hd'
 cases hkn:h.known with
 |false=>
  rw[hkn]at c2
  have:=fin (by rw[hkn];simp)
  subst hva
  simp(disch:=omega)only[SV,c2,c3]
  exact this
 |true=>
  rw[hkn]at c2
  subst hva
  by_cases he:all.length=h.size
  .have n1:((all.length:Int) !=(h.size:Int))=false:=by rw[he];simp
   have:=fin (by simp[he])
   simp(disch:=omega)only[SV,c2,c3,c1,wl,n1]
   exact this
  .have n1:((all.length:Int) !=(h.size:Int))=true:=by simp;omega
   simp(disch:=omega)only[SV,c2,c3,c1,wl,n1]
   rw[hRR]
   unfold NH
   rw[if_pos ⟨hkn,he⟩]
   exact⟨by decide,rfl,hx⟩
def Qy(h:FH)(room:Nat):Nat->List UInt8->List UInt8->Option (Except Int (List UInt8×List UInt8))
 |0,_,_=>none
 |f+1,l,all=>match Yn l all h.window room with
  |none=>none
  |some (.error e)=>some (.error e)
  |some (.ok (a,l',b))=>if h.known=true/\h.size<a.length then some (.error 11)else if b then some (.ok (a,l'))else Qy h room f l' a
def aAB(h:FH):Except Int (List UInt8×List UInt8)->Except Int (List UInt8×List UInt8)
 | .error e=> .error e
 | .ok (a,l')=>NH h l' a
theorem aDH{l all:List UInt8}{win room:Nat}{e:Int}(h:Yn l all win room=some (.error e)):e≠0:=by
 unfold Yn at h
 repeat' split at h
 all_goals first|(cases h;decide)|cases h
theorem aAA{l all a l':List UInt8}{win room:Nat}{b:Bool}(h:Yn l all win room=some (.ok (a,l',b))):a.length<=room/\l'.length<=l.length:=by
 unfold Yn at h
 repeat' split at h
 all_goals first|cases h|skip
 rw[aLs,aLP]
 omega
theorem aBF{base p pr ph pq lo hi aB f:Nat}{O:Nat->Prop}{vo va:aOn}{all:List UInt8}{m dm:DM}{h:FH}{w0 w:aOm}{mm:Except Int (List UInt8×List UInt8)}
 (hdm:dm.win=m.win/\dm.most=m.most/\dm.out=m.out/\dm.fr=m.fr/\dm.sk=m.sk) (hx:aN w0 w (λy=>base<=y))
 (o:aZ w p (tU pr vo m)) (hr:Pa w lo hi pr m.l 0) (oo:Ah w O 1 vo m.out.length (m.out.map dR)) (hp:base<=p) (hlo:base<=lo) (hO:∀b,O b->base<=b/\b≠p/\¬(lo<=b/\b<hi)/\b<aB) (hpq:base<=pq/\pq≠p/\pq≠ph/\¬O pq) (q1:¬(lo<=p/\p<hi)) (q2:¬(lo<=ph/\ph<hi)) (q3:¬(lo<=pq/\pq<hi)) (hb:p<aB/\ph<aB/\pq<aB/\hi<=aB/\base<=aB/\aB<=w.heap.size)
 (oh:aZ w ph (Oa h)) (og:aZ w pq gL) (ha:Ah w (λb=>aB<=b) 1 va all.length (all.map dR)) (h1:m.out.length<=m.most) (h2:all.length<=2000000) (h3:m.fr<=2000000) (hmost:m.most<=2000000) (hl:m.l.length<=1000000) (hsz:h.size<2^64)
 (hm:Qy h (m.most-m.out.length) f m.l all=some mm):
 kE (λr w'=>aBS base p w0 dm r w' (aAB h mm)) (.pointer (some ⟨p,0,none⟩)) (.pointer (some ⟨ph,0,none⟩)) (.pointer (some ⟨pq,0,none⟩)) va w:=by
 obtain⟨RR,hRR⟩:∃RR:aOn->aOm->Prop,RR=λr w'=>aBS base p w0 dm r w' (aAB h mm):=⟨_,rfl⟩
 rw[<-hRR]
 unfold kE oK
 refine aX.rule (λf (va:aOn) w1=>∃all l,Qy h (m.most-m.out.length) f l all=some mm/\aN w w1 (λy=>aB<=y∨y=pr∨y=pq)/\Pa w1 lo hi pr l 0/\Ah w1 (λb=>aB<=b) 1 va all.length (all.map dR)/\aZ w1 pq gL/\all.length<=2000000/\l.length<=1000000) f
  ⟨all,m.l,hm,aN.refl _ _,hr,ha,og,h2,hl⟩ ?_
 clear hm ha og hl h2 hr all
 rintro f va w1 ⟨all,l,hm,x1,hr,ha,og,h2,hl⟩
 have hpr:lo<=pr/\pr<hi:=⟨hr.1,hr.2.1⟩
 have z1:=x1.size
 have hnp:¬(aB<=p∨p=pr∨p=pq):=by omega
 have hnh:¬(aB<=ph∨ph=pr∨ph=pq):=by omega
 have hnO:∀b,O b->¬(aB<=b∨b=pr∨b=pq):=by
  rintro b hb (h|h|h)
  .have:=(hO b hb).2.2.2;omega
  .exact (hO b hb).2.2.1 (h▸hpr)
  .exact hpq.2.2.2 (h▸hb)
 have o1:=o.ext x1 hnp
 have oh1:=oh.ext x1 hnh
 have oo1:=oo.ext x1 hnO
 cases f with
 |zero=>cases hm
 |succ f=>
  rw[Qy]at hm
  unfold wB
  have hg:=EX (off:=0) og (by simp[gL])
  simp only[gL,aLE,aLC,aLK]at hg
  have c0:=oh1.cell (off:=0)
  have c1:=oh1.cell (off:=1)
  have c2:=oh1.cell (off:=2)
  simp only[Oa,aLu,aLw]at c0 c1 c2
  simp(disch:=omega)only[SV,hg,c0]
  obtain⟨mb,hmb⟩:∃mb,Yn l all h.window (m.most-m.out.length)=some mb:=by
   cases hd:Yn l all h.window (m.most-m.out.length)with
   |none=>rw[hd]at hm;cases hm
   |some mb=>exact⟨mb,rfl⟩
  rw[hmb]at hm
  refine(aDL (n:=m.out.length) (most:=m.most) o1 rfl rfl rfl oo1.len hr ha (λb h=>⟨by omega,by omega⟩) (λb h=>by omega) (by omega) q1 h1 hl h2 hmost hmb).mono ?_
  intro r w2 hb2
  cases mb with
  |error e=>
   have he:=aDH hmb
   cases hm
   obtain⟨rfl,x2⟩:=hb2
   have n1:(e !=0)=true:=by simp[he]
   unfold gZv
   simp(disch:=omega)only[SV,n1]
   have og2:aZ w2 pq gL:=og.ext x2 (by omega)
   refine gC og2 rfl (by simp[one]) (by simp[gL]) λw3 o3 x3 s3=> ?_
   try simp(disch:=omega)only[SV,n1]
   rw[hRR]
   exact⟨he,rfl,hx.seq ((((x1.mono λy _ h=>by omega).seq (x2.mono λy _ h=>by omega))).seq (x3.mono λy _ h=>by omega))⟩
  |ok t=>
   obtain⟨a,l',b⟩:=t
   obtain⟨v,rfl,o2,hr2,x2⟩:=hb2
   have hlen:=aAA hmb
   have n1:((0:Int) !=0)=false:=rfl
   have z2:=x2.size
   have og2:=og.ext x2 (by omega)
   obtain⟨av,cv,hv⟩:=o2.len
   unfold gLv
   subst hv
   simp(disch:=omega)only[SV,n1]
   refine gC og2 rfl (by simp[one]) (by simp[gL]) λw3 o3 x3 s3=> ?_
   simp only[aT,gL,aLy,aLB]at o3
   have x13:aN w w3 (λy=>aB<=y∨y=pr∨y=pq):=(x1.seq (x2.mono λy _ h=>by omega)).seq (x3.mono λy _ h=>by omega)
   have oh3:=oh.ext x13 hnh
   have d0:=oh3.cell (off:=0)
   have d1:=oh3.cell (off:=1)
   have d2:=oh3.cell (off:=2)
   simp only[Oa,aLu,aLw]at d0 d1 d2
   have o3':=o.ext x13 hnp
   have hr3:=hr2.ext x3 (λb h1 h2 h=>by omega)
   have o2':=o2.ext x3 (λb h1 h=>by omega)
   have wl:IntKind.u64.wrap (a.length:Int)=a.length:=gP (by omega) (by omega)
   have go:¬(h.known=true/\h.size<a.length)->bQ (.bool b) (kD RR (.pointer (some ⟨p,0,none⟩)) (.pointer (some ⟨ph,0,none⟩)) (.slice av a.length cv) w3) (∃m_1,m_1<f+1/\∃all l,Qy h (m.most-m.out.length) m_1 l all=some mm/\aN w w3 (λy=>aB<=y∨y=pr∨y=pq)/\Pa w3 lo hi pr l 0/\Ah w3 (λb=>aB<=b) 1 (.slice av a.length cv) all.length (all.map dR)/\aZ w3 pq gL/\all.length<=2000000/\l.length<=1000000):=by
    intro hn
    simp only[if_neg hn]at hm
    cases b with
    |true=>
     cases hm
     simp(disch:=omega)only[SV]
     rw[hRR]
     exact aBK (m:=⟨l',m.win,m.most,m.out,m.fr,m.sk⟩) hdm (hx.seq (x13.mono λy _ h=>by omega)) o3' hr3 (oo.ext x13 hnO) hp hlo (λb hb=>⟨(hO b hb).1,(hO b hb).2.1,(hO b hb).2.2.1⟩) q1 (by omega) oh3 o2' (λb h=>by omega) (show m.out.length<=2000000 by omega) (by omega) h3 (show l'.length<=1000000 by omega) hsz
    |false=>
     simp(disch:=omega)only[SV]
     exact⟨f,by omega,a,l',hm,x13,hr3,o2',o3,by omega,by omega⟩
   cases hkn:h.known with
   |false=>
    rw[hkn]at d2
    have:=go (by rw[hkn];simp)
    simp(disch:=omega)only[SV,n1,d2]
    exact this
   |true=>
    rw[hkn]at d2
    by_cases hlt:h.size<a.length
    .have g1:decide ((a.length:Int)>(h.size:Int))=true:=decide_eq_true (by omega)
     have g2:decide ((h.size:Int)<(a.length:Int))=true:=decide_eq_true (by omega)
     simp only[if_pos (⟨hkn,hlt⟩:h.known=true/\h.size<a.length)]at hm
     cases hm
     simp(disch:=omega)only[SV,n1,d2,d1,wl,g1,g2]
     rw[hRR]
     exact⟨by decide,rfl,hx.seq (x13.mono λy _ h=>by omega)⟩
    .have g1:decide ((a.length:Int)>(h.size:Int))=false:=decide_eq_false (by omega)
     have g2:decide ((h.size:Int)<(a.length:Int))=false:=decide_eq_false (by omega)
     have:=go (by simp[hlt])
     simp(disch:=omega)only[SV,n1,d2,d1,wl,g1,g2]
     exact this
def aoU(l:List UInt8)(win room:Nat):Option (Except Int (List UInt8×List UInt8)):=
 match QJ l with
 | .error e=>some (.error e)
 | .ok (h,n)=>if win<h.window∨(h.known=true/\room<h.size)then some (.error 12)else match Qy h room (l.length+1) (l.drop n) []with|none=>none|some mm=>some (aAB h mm)
theorem aDX{L dict:Nat}{s:List UInt8×Int}{h:FH}{e:Int}(hh:aeX L s dict h= .error e):e≠0:=by
 unfold aeX at hh
 split at hh
 .cases hh;assumption
 .split at hh
  .cases hh;decide
  .cases hh
theorem aBR{l:List UInt8}{e:Int}(h:QJ l= .error e):e≠0:=by
 unfold QJ at h
 split at h
 .cases h;assumption
 .split at h
  .cases h;decide
  .exact aDX h
theorem aIt(s:List UInt8×Int)(n:Nat)(hn:n<=8):opV s n<2^64:=by
 unfold opV
 split
 .have:=ajA s n
  have h2:256^n<=256^8:=aLG (by omega) hn
  have h3:(256:Nat)^8=2^64:=by decide
  omega
 .decide
theorem aH2 (s:List UInt8×Int)(d:Nat)(hd:d<256):fSz d (opV s (XV d))<2^64:=by
 have h4:d/64=0∨d/64=1∨d/64=2∨d/64=3:=by omega
 have h8:XV d<=8:=by
  unfold XV
  rcases h4 with h|h|h|h<;>rw[h]<;>simp
  split<;>omega
 have:=aIt s (XV d) h8
 unfold fSz
 split
 .rename_i h2
  rw[h2]at this⊢
  have h5:opV s 2<65536:=by
   unfold opV
   rw[if_pos (by omega)]
   exact ajA s 2
  omega
 .exact this
theorem aDZ{l:List UInt8}{h:FH}{n:Nat}(hh:QJ l= .ok (h,n)):h.size<2^64/\n<=l.length:=by
 unfold QJ at hh
 split at hh
 .cases hh
 .split at hh
  .cases hh
  .unfold ahS aeX at hh
   split at hh
   .cases hh
   .split at hh
    .cases hh
    .cases hh
     have hd:nvS (l,0) 1<256:=ajA (l,0) 1
     exact⟨aH2 _ _ hd,by omega⟩
theorem aAH{w:aOm}:aK pg pJ #[] w (λr w'=>r= .agg #[.int .u32 1,.int .u32 4,.int .u32 8]/\aN w w' bJ):=by
 refine Xg ?_
 unfold VT NU
 refine dU λw1 o1 x1 s1=> ?_
 try simp(disch:=omega)only[SV]
 refine cB o1 rfl (by simp[one]) (by simp) λw2 o2 x2 s2=> ?_
 refine iQ o2 (by simp[aT]) ?_
 exact⟨rfl,x1.new x2 (by omega)⟩
theorem aDQ{base p:Nat}{dm:DM}{w:aOm}{mm:Except Int (List UInt8×List UInt8)}(hd:DSt w base p dm)(h1:dm.out.length<=dm.most)(h3:dm.fr<=2000000)(hmost:dm.most<=2000000)(hl:dm.l.length<=1000000)
 (hm:aoU dm.l dm.win (dm.most-dm.out.length)=some mm):
 aK pg pP #[.pointer (some ⟨p,0,none⟩)] w (λr w'=>aBS base p w dm r w' mm):=by
 refine NL ?_
 unfold Jj CV CU wD Ej
 obtain⟨RR,hRR⟩:∃RR:aOn->aOm->Prop,RR=λr w'=>aBS base p w dm r w' mm:=⟨_,rfl⟩
 rw[<-hRR]
 obtain⟨pr,vo,lo,hi,O,o,hr,oo,hp,hlo,hO,q1,hhi⟩:=hd
 have hpr:lo<=pr/\pr<hi:=⟨hr.1,hr.2.1⟩
 have hzp:=o.lt
 have hO1:Ah w (λb=>O b/\b<w.heap.size) 1 vo dm.out.length (dm.out.map dR):=Zl oo λb h h2=>⟨h,h2⟩
 have xd:=aN.dr w bJ
 have zd:=xd.size
 have c0:=(bV o).cell (off:=0)
 simp only[tU,aLu]at c0
 simp(disch:=omega)only[SV,c0]
 refine(SE (hr.ext xd (λ_ _ _ h=>h))).mono ?_
 rintro r w1 ⟨rfl,hw1⟩
 rw[hw1];clear hw1 w1
 have o:=bV o
 have hr:=hr.ext xd (λ_ _ _ h=>h)
 have hO1:=hO1.ext xd (λ_ _ h=>h)
 obtain⟨wd,hwd⟩:∃x,x=dr w:=⟨_,rfl⟩
 rw[<-hwd]at o hr hO1 xd zd c0⊢
 simp(disch:=omega)only[SV,c0]
 refine(aaQ hr (by omega) (by omega)).mono ?_
 rintro rest w1 ⟨hb1,hat,hr1,x1⟩
 have ht:D2 dm.l 0 dm.l.length=(dm.l,[],0):=by
  unfold D2
  rw[if_neg (by decide),if_neg (by omega),aLO (by omega),aMI (by omega)]
 rw[ht]at hb1 hr1
 have hb1:Bs w1 rest dm.l:=hb1
 clear hr1
 have o1:=o.ext x1 (λe=>q1 (e▸hpr))
 have oo1:Ah w1 (λb=>O b/\b<w.heap.size) 1 vo dm.out.length (dm.out.map dR):=hO1.ext x1 λb h e=>(hO b h.1).2.2 (e▸hpr)
 have z1:=x1.size
 refine(atE hb1 hl).mono ?_
 rintro r w2 ⟨rfl,x2⟩
 unfold aoU at hm
 have z2:=x2.size
 cases hf:QJ dm.l with
 |error e=>
  have he:=aBR hf
  rw[hf]at hm
  cases hm
  have n1:(e !=0)=true:=by simp[he]
  unfold fRV fhV
  simp(disch:=omega)only[SV]
  refine Bm λw3 o3 x3 s3=> ?_
  refine jC o3 rfl (by simp[one]) (by simp) λw4 o4 x4 s4=> ?_
  simp(disch:=omega)only[SV,n1]
  rw[hRR]
  have x24:aN w2 w4 bJ:=x3.new x4 (by omega)
  exact⟨he,rfl,(((xd.mono λ_ _ h=>h.elim).seq (x1.mono λy _ h=>by omega)).seq ((x2.seq x24).mono λ_ _ h=>h.elim))⟩
 |ok t=>
  obtain⟨h,n⟩:=t
  have hok:=aDZ hf
  rw[hf]at hm
  have n1:((0:Int) !=0)=false:=rfl
  unfold fRV fhV
  simp(disch:=omega)only[SV]
  refine Bm λw3 o3 x3 s3=> ?_
  obtain⟨ph,hph⟩:∃p,p=w2.heap.size:=⟨_,rfl⟩
  rw[<-hph]at o3⊢
  refine jC o3 rfl (by simp[one]) (by simp) λw4 o4 x4 s4=> ?_
  simp only[aT,aLy,aLB]at o4
  have oh4:aZ w4 ph (Oa h):=o4
  have x24:aN w2 w4 bJ:=x3.new x4 (by omega)
  have x14:aN w1 w4 bJ:=x2.seq x24
  have hz3:=o4.lt
  obtain⟨va,vc,hrest,hvc⟩:=hb1.len
  rw[aLv]at hrest hvc
  subst hrest
  have hb4:=hb1.ext x14 (aU _)
  have t0:(n:Int).toNat=n:=aLx _
  have hbd:Bs w4 (.slice (cW va vc n 1) (dm.l.length-n) (vc-n)) (dm.l.drop n):=by
   have:=hb4.drop' (k:=n) (by omega)
   rwa [<-aNx]at this
  simp(disch:=omega)only[SV,n1,t0]
  refine(GO hbd (by rw[aLP];omega)).mono ?_
  rintro r w5 ⟨p5,rfl,hr5,x5⟩
  have z4:=x14.size
  have z5:=x5.size
  have o5:=(o1.ext x14 (λh=>h)).ext x5 (λh=>h)
  refine XI (off:=0) o5 rfl (by simp[tU]) λw6 o6 x6 s6=> ?_
  simp only[tU,aLy]at o6
  have x46:aN w4 w6 (λy=>y=p):=(x5.mono λ_ _ h=>h.elim).seq x6
  have x06:aN w w6 (λy=>base<=y):=((((xd.mono λ_ _ h=>h.elim).seq (x1.mono λy _ h=>by omega)).seq (x14.mono λ_ _ h=>h.elim)).seq (x46.mono λy _ h=>by omega))
  have hphp:ph≠p:=by omega
  have oh6:=oh4.ext x46 hphp
  have oo6:=(oo1.ext x14 λ_ _ h=>h).ext x46 λb h e=>(hO b h.1).2.1 e
  have h5lo:w4.heap.size<=p5/\p5<w5.heap.size:=⟨hr5.1,hr5.2.1⟩
  have hr6:=hr5.ext x6 (λb h1 h2 h=>by omega)
  have ch0:=oh6.cell (off:=0)
  have ch1:=oh6.cell (off:=1)
  have ch2:=oh6.cell (off:=2)
  have eh0:=(bV oh6).cell (off:=0)
  have eh1:=(bV oh6).cell (off:=1)
  have eh2:=(bV oh6).cell (off:=2)
  simp only[Oa,aLu,aLw]at ch0 ch1 ch2 eh0 eh1 eh2
  have co1:=o6.cell (off:=1)
  have co2:=o6.cell (off:=2)
  have co3:=o6.cell (off:=3)
  have eo1:=(bV o6).cell (off:=1)
  have eo2:=(bV o6).cell (off:=2)
  have eo3:=(bV o6).cell (off:=3)
  simp only[aLu,aLw]at co1 co2 co3 eo1 eo2 eo3
  obtain⟨av,cv,hvo⟩:=oo6.len
  subst hvo
  have e9:(dm.most:Int)-(dm.out.length:Int)=((dm.most-dm.out.length:Nat):Int):=by omega
  have w9:IntKind.u64.wrap ((dm.most-dm.out.length:Nat):Int)=((dm.most-dm.out.length:Nat):Int):=gP (by omega) (by omega)
  by_cases hbig:dm.win<h.window∨(h.known=true/\dm.most-dm.out.length<h.size)
  .simp only[if_pos hbig]at hm
   cases hm
   have fin:RR (.int .i64 12) (dr w6):=by rw[hRR];exact⟨by decide,rfl,x06.seq (aN.dr w6 _)⟩
   by_cases hw:dm.win<h.window
   .have d1:decide ((h.window:Int)>(dm.win:Int))=true:=decide_eq_true (by omega)
    have d2:decide ((dm.win:Int)<(h.window:Int))=true:=decide_eq_true (by omega)
    have iu:bK undef true=false:=rfl
    simp(disch:=omega)only[SV,ch0,ch1,ch2,eh0,eh1,eh2,co1,co2,co3,eo1,eo2,eo3,d1,d2,iu]
    exact fin
   .have hks:=hbig.resolve_left hw
    have d1:decide ((h.window:Int)>(dm.win:Int))=false:=decide_eq_false (by omega)
    have d2:decide ((dm.win:Int)<(h.window:Int))=false:=decide_eq_false (by omega)
    have d3:decide ((h.size:Int)>((dm.most-dm.out.length:Nat):Int))=true:=decide_eq_true (by omega)
    have d4:decide (((dm.most-dm.out.length:Nat):Int)<(h.size:Int))=true:=decide_eq_true (by omega)
    rw[hks.1]at ch2 eh2
    simp(disch:=omega)only[SV,ch0,ch1,ch2,eh0,eh1,eh2,co1,co2,co3,eo1,eo2,eo3,d1,d2,d3,d4,e9,w9]
    exact fin
  .simp only[if_neg hbig]at hm
   have hw:¬dm.win<h.window:=λh=>hbig (.inl h)
   have d1:decide ((h.window:Int)>(dm.win:Int))=false:=decide_eq_false (by omega)
   have d2:decide ((dm.win:Int)<(h.window:Int))=false:=decide_eq_false (by omega)
   obtain⟨mb,hmb⟩:∃mb,Qy h (dm.most-dm.out.length) (dm.l.length+1) (dm.l.drop n) []=some mb:=by
    cases hd:Qy h (dm.most-dm.out.length) (dm.l.length+1) (dm.l.drop n) []with
    |none=>rw[hd]at hm;cases hm
    |some mb=>exact⟨mb,rfl⟩
   rw[hmb]at hm
   cases hm
   obtain⟨K,hK⟩:∃K:aOm->Prop,K=λw=>aK pg pJ #[] w λt64 w=>aA pg (bH 110 [(2,t64)]) w λt65 w=>aA pg (bG 110) w λg_7 w=>aA pg (aM 110 g_7 t65) w λ_u w=>kE RR (.pointer (some ⟨p,0,none⟩)) (.pointer (some ⟨ph,0,none⟩)) g_7 MJ w:=⟨_,rfl⟩
   have main:K (dr w6):=by
    rw[hK]
    refine aAH.mono ?_
    rintro r w7 ⟨rfl,x7⟩
    simp(disch:=omega)only[SV]
    refine Qs λw8 o8 x8 s8=> ?_
    obtain⟨pq,hpq⟩:∃q,q=w7.heap.size:=⟨_,rfl⟩
    rw[<-hpq]at o8⊢
    refine gC o8 rfl (by simp[one]) (by simp) λw9 o9 x9 s9=> ?_
    simp only[aT,aLy,aLB]at o9
    have x69:aN w6 w9 bJ:=(((aN.dr w6 bJ).seq x7).seq x8).trans x9 λy hy h=>by
     have:=(aN.dr w6 bJ).size
     have:=x7.size
     omega
    have zz:w6.heap.size<=w7.heap.size:=by
     have:=(aN.dr w6 bJ).size
     have:=x7.size
     omega
    have z6:=x6.size
    rw[hRR]
    have hz8:=o8.lt
    refine aBF (aB:=w9.heap.size) (m:=⟨dm.l.drop n,dm.win,dm.most,dm.out,dm.fr,dm.sk⟩) ⟨rfl,rfl,rfl,rfl,rfl⟩ (x06.seq (x69.mono λ_ _ h=>h.elim)) (o6.ext x69 (λh=>h)) (hr6.ext x69 λ_ _ _ h=>h) (oo6.ext x69 λ_ _ h=>h) hp (by omega) (λb hb=>⟨(hO b hb.1).1,(hO b hb.1).2.1,by omega,by omega⟩) ⟨by omega,by omega,by omega,λh=>by omega⟩ (by omega) (by omega) (by omega) (by omega) (oh6.ext x69 (λh=>h)) o9 ?_ h1 (by simp) h3 hmost (by show(dm.l.drop n).length<=_;rw[aLP];omega) hok.1 hmb
    exact⟨rfl,.inl ⟨rfl,rfl⟩⟩
   rw[hK]at main
   unfold MJ at main
   cases hkn:h.known with
   |false=>
    rw[hkn]at ch2 eh2
    simp(disch:=omega)only[SV,ch0,ch1,ch2,eh0,eh1,eh2,co1,co2,co3,eo1,eo2,eo3,d1,d2]
    exact main
   |true=>
    rw[hkn]at ch2 eh2
    have hns:¬dm.most-dm.out.length<h.size:=λh'=>hbig (.inr ⟨hkn,h'⟩)
    have d3:decide ((h.size:Int)>((dm.most-dm.out.length:Nat):Int))=false:=decide_eq_false (by omega)
    have d4:decide (((dm.most-dm.out.length:Nat):Int)<(h.size:Int))=false:=decide_eq_false (by omega)
    simp(disch:=omega)only[SV,ch0,ch1,ch2,eh0,eh1,eh2,co1,co2,co3,eo1,eo2,eo3,d1,d2,d3,d4,e9,w9]
    exact main
def aBB(l:List UInt8):Except Int (List UInt8):=if l.length<4 then .error 10 else if l.length-4<jW (l.take 4)then .error 10 else .ok (l.drop (4+jW (l.take 4)))
def aJZ(base p:Nat)(w:aOm)(dm:DM)(r:aOn)(w':aOm):Except Int (List UInt8)->Prop
 | .error e=>e≠0/\r= .int .i64 e/\aN w w' (λy=>base<=y)
 | .ok l=>r= .int .i64 0/\DSt w' base p ⟨l,dm.win,dm.most,dm.out,dm.fr,dm.sk+1⟩/\aN w w' (λy=>base<=y)
theorem aGa{base p:Nat}{dm:DM}{w:aOm}(hd:DSt w base p dm)(h3:dm.sk<=2000000)(hl:dm.l.length<=1000000):
 aK pg rI #[.pointer (some ⟨p,0,none⟩)] w (λr w'=>aJZ base p w dm r w' (aBB dm.l)):=by
 refine PA ?_
 unfold Lp Gx
 obtain⟨pr,vo,lo,hi,O,o,hr,oo,hp,hlo,hO,q1,hhi⟩:=hd
 have hpr:lo<=pr/\pr<hi:=⟨hr.1,hr.2.1⟩
 have c0:=o.cell (off:=0)
 simp only[tU,aLu]at c0
 simp(disch:=omega)only[SV,c0]
 refine(yI (n:=4) hr (by omega) ⟨by omega,by omega⟩).mono ?_
 rintro r w1 ⟨rfl,hr1,x1⟩
 have o1:=o.ext x1 (λe=>q1 (e▸hpr))
 have oo1:=oo.ext x1 λb h e=>(hO b h).2.2 (e▸hpr)
 have c1:=o1.cell (off:=0)
 simp only[tU,aLu]at c1
 simp(disch:=omega)only[SV,c1]
 refine(Lm hr1).mono ?_
 rintro r w2 ⟨rfl,h2⟩
 rw[h2];clear h2 w2
 unfold aBB
 by_cases h4:dm.l.length<4
 .have ht:D2 dm.l 0 4=([],dm.l,10):=by unfold D2;rw[if_neg (by decide),if_pos h4]
  rw[ht,if_pos h4]
  have n1:((10:Int) !=0)=true:=rfl
  simp(disch:=omega)only[SV,n1]
  exact⟨by decide,rfl,x1.mono λy _ h=>by omega⟩
 have ht:D2 dm.l 0 4=(dm.l.take 4,dm.l.drop 4,0):=by unfold D2;rw[if_neg (by decide),if_neg h4]
 rw[ht]at hr1⊢
 rw[if_neg h4]
 have hlt:jW (dm.l.take 4)<2^32:=by
  have:=LN (dm.l.take 4)
  rw[aLD,aMk (by omega)]at this
  exact this
 obtain⟨n,hn⟩:∃n,n=jW (dm.l.take 4):=⟨_,rfl⟩
 have en:jW (dm.l.take 4,dm.l.drop 4,(0:Int)).1=n:=hn.symm
 rw[<-hn]at hlt⊢
 have hr1:Pa w1 lo hi pr (dm.l.drop 4) 0:=hr1
 have hl4:(dm.l.drop 4).length=dm.l.length-4:=aLP
 have n1:((0:Int) !=0)=false:=rfl
 have wl:IntKind.u64.wrap ((dm.l.drop 4).length:Int)=((dm.l.drop 4).length:Int):=gP (by omega) (by omega)
 have wn:IntKind.i64.wrap (n:Int)=n:=cX (by omega) (by omega)
 simp(disch:=omega)only[SV,n1,en,c1]
 refine(SE hr1).mono ?_
 rintro r w2 ⟨rfl,h2⟩
 rw[h2];clear h2 w2
 by_cases hs:dm.l.length-4<n
 .have d1:decide ((n:Int)>((dm.l.drop 4).length:Int))=true:=decide_eq_true (by omega)
  have d2:decide (((dm.l.drop 4).length:Int)<(n:Int))=true:=decide_eq_true (by omega)
  rw[if_pos hs]
  simp(disch:=omega)only[SV,wl,d1,d2]
  exact⟨by decide,rfl,x1.mono λy _ h=>by omega⟩
 have d1:decide ((n:Int)>((dm.l.drop 4).length:Int))=false:=decide_eq_false (by omega)
 have d2:decide (((dm.l.drop 4).length:Int)<(n:Int))=false:=decide_eq_false (by omega)
 rw[if_neg hs]
 simp(disch:=omega)only[SV,wl,d1,d2,c1,wn]
 refine(aaQ hr1 (by omega) (by omega)).mono ?_
 rintro rest w3 ⟨hb3,hat,hr3,x3⟩
 have ht3:D2 (dm.l.drop 4) 0 n=((dm.l.drop 4).take n,dm.l.drop (4+n),0):=by unfold D2;rw[if_neg (by decide),if_neg (by omega),aMK]
 rw[ht3]at hr3
 have hr3:Pa w3 lo hi pr (dm.l.drop (4+n)) 0:=hr3
 have o3:=o1.ext x3 (λe=>q1 (e▸hpr))
 have oo3:=oo1.ext x3 λb h e=>(hO b h).2.2 (e▸hpr)
 have c5:=o3.cell (off:=5)
 simp only[tU,aLu,aLw]at c5
 have e5:(dm.sk:Int)+1=((dm.sk+1:Nat):Int):=by omega
 have w5:IntKind.i64.wrap ((dm.sk+1:Nat):Int)=((dm.sk+1:Nat):Int):=cX (by omega) (by omega)
 simp(disch:=omega)only[SV,c5,e5,w5]
 refine rF (off:=5) o3 rfl (by simp[tU]) λw6 o6 x6 s6=> ?_
 simp only[tU,aLy,aLB]at o6
 have z1:=x1.size
 have z3:=x3.size
 have z6:=x6.size
 refine⟨rfl,⟨pr,vo,lo,hi,O,o6,hr3.ext x6 (λb h1 h2 h=>q1 (h▸⟨h1,h2⟩)),oo3.ext x6 (λb h e=>(hO b h).2.1 e),hp,hlo,hO,q1,by omega⟩,((x1.mono λy _ h=>by omega).seq (x3.mono λy _ h=>by omega)).seq (x6.mono λy _ h=>by omega)⟩
def aoT(win most:Nat):Nat->List UInt8->List UInt8->Nat->Nat->Option (Except Int (List UInt8×Nat×Nat))
 |0,_,_,_,_=>none
 |f+1,l,out,fr,sk=>if l.length=0 then some (.ok (out,fr,sk))else if l.length<4 then some (.error 10)
  else if jW (l.take 4)=4247762216 then(match aoU (l.drop 4) win (most-out.length)with|none=>none|some (.error e)=>some (.error e)|some (.ok (a,l'))=>aoT win most f l' (out++a) (fr+1) sk)
  else if 407710288<=jW (l.take 4)/\jW (l.take 4)<407710304 then(match aBB (l.drop 4)with| .error e=>some (.error e)| .ok l'=>aoT win most f l' out fr (sk+1))
  else some (.error 11)
theorem asT{h:FH}{room:Nat}:∀{f:Nat} {l all a l':List UInt8},Qy h room f l all=some (.ok (a,l'))->a.length<=room/\l'.length<=l.length
 |0,_,_,_,_,hh=>by cases hh
 |f+1,l,all,a,l',hh=>by
  rw[Qy]at hh
  cases hd:Yn l all h.window room with
  |none=>rw[hd]at hh;cases hh
  |some m=>
   rw[hd]at hh
   cases m with
   |error e=>cases hh
   |ok t=>
    obtain⟨a1,l1,b⟩:=t
    have h1:=aAA hd
    simp only at hh
    split at hh
    .cases hh
    .split at hh
     .cases hh;exact h1
     .have:=asT hh
      exact⟨this.1,by omega⟩
theorem aFZ{l a l':List UInt8}{win room:Nat}(hh:aoU l win room=some (.ok (a,l'))):a.length<=room/\l'.length<=l.length:=by
 unfold aoU at hh
 cases hf:QJ l with
 |error e=>rw[hf]at hh;cases hh
 |ok t=>
  obtain⟨h,n⟩:=t
  rw[hf]at hh
  simp only at hh
  split at hh
  .cases hh
  .cases hb:Qy h room (l.length+1) (l.drop n) []with
   |none=>rw[hb]at hh;cases hh
   |some mm=>
    rw[hb]at hh
    cases mm with
    |error e=>cases hh
    |ok t=>
     obtain⟨a1,l1⟩:=t
     have h1:=asT hb
     rw[aLP]at h1
     have hh:NH h l1 a1= .ok (a,l'):=by injection hh
     unfold NH aoV at hh
     repeat' split at hh
     all_goals first|cases hh|skip
     all_goals rename_i hq
     all_goals first|(repeat' split at hq)|skip
     all_goals first|cases hq|skip
     all_goals(try rw[aLP])
     all_goals omega
def aHN(base p:Nat)(w:aOm)(win most:Nat)(r:aOn)(w':aOm):Except Int (List UInt8×Nat×Nat)->Prop
 | .error e=>e≠0/\r= .tuple #[.pointer none,.int .i64 e]/\aN w w' (λy=>base<=y)
 | .ok (out,fr,sk)=>r= .tuple #[.pointer (some ⟨p,0,none⟩),.int .i64 0]/\(∃l,DSt w' base p ⟨l,win,most,out,fr,sk⟩)/\aN w w' (λy=>base<=y)
theorem aF2 {RR:aOn->aOm->Prop}{base p win most f:Nat}{l:List UInt8}{w0 w:aOm}{mm:Except Int (List UInt8×Nat×Nat)}(hx:aN w0 w (λy=>base<=y))(hd:DSt w base p ⟨l,win,most,[],0,0⟩)(hf:f<=2000000)(hl:l.length<=1000000)(hmost:most<=2000000)(hm:aoT win most f l [] 0 0=some mm)(hR:∀r w',aHN base p w0 win most r w' mm->RR r w'):
 CT RR (.pointer (some ⟨p,0,none⟩)) w:=by
 unfold CT FY
 refine aX.rule (λf (t:Unit) w1=>∃l out fr sk,aoT win most f l out fr sk=some mm/\DSt w1 base p ⟨l,win,most,out,fr,sk⟩/\aN w0 w1 (λy=>base<=y)/\out.length<=most/\fr+f<=2000000/\sk+f<=2000000/\l.length<=1000000) f
  ⟨l,[],0,0,hm,hd,hx,by simp,by omega,by omega,hl⟩ ?_
 clear hm hd hx hl hf l w
 rintro f t w ⟨l,out,fr,sk,hm,hd,hx,hout,hfr,hsk,hl⟩
 cases f with
 |zero=>cases hm
 |succ f=>
  rw[aoT]at hm
  unfold Mi VR
  have hd0:=hd
  obtain⟨pr,vo,lo,hi,O,o,hr,oo,hp,hlo,hO,q1,hhi⟩:=hd
  have hpr:lo<=pr/\pr<hi:=⟨hr.1,hr.2.1⟩
  have c0:=o.cell (off:=0)
  simp only[tU,aLu]at c0
  simp(disch:=omega)only[SV,c0]
  refine(SE hr).mono ?_
  rintro r w1 ⟨rfl,h2⟩
  rw[h2];clear h2 w1
  by_cases h0:l.length=0
  .rw [if_pos h0]at hm
   cases hm
   have d1:decide ((l.length:Int)>0)=false:=decide_eq_false (by omega)
   have d2:decide ((0:Int)<(l.length:Int))=false:=decide_eq_false (by omega)
   simp(disch:=omega)only[SV,d1,d2]
   unfold Mg
   refine hR _ _ ?_
   exact⟨rfl,⟨l,hd0⟩,hx⟩
  rw[if_neg h0]at hm
  have d1:decide ((l.length:Int)>0)=true:=decide_eq_true (by omega)
  have d2:decide ((0:Int)<(l.length:Int))=true:=decide_eq_true (by omega)
  simp(disch:=omega)only[SV,d1,d2]
  unfold Mh VQ
  simp(disch:=omega)only[SV,c0]
  refine(yI (n:=4) hr (by show l.length<=_;omega) ⟨by omega,by omega⟩).mono ?_
  rintro r w1 ⟨rfl,hr1,x1⟩
  have o1:=o.ext x1 (λe=>q1 (e▸hpr))
  have oo1:=oo.ext x1 λb h e=>(hO b h).2.2 (e▸hpr)
  have z1:=x1.size
  have hx1:aN w0 w1 (λy=>base<=y):=hx.seq (x1.mono λy _ h=>by omega)
  have c1:=o1.cell (off:=0)
  simp only[tU,aLu]at c1
  simp(disch:=omega)only[SV,c1]
  refine(Lm hr1).mono ?_
  rintro r w2 ⟨rfl,h2⟩
  rw[h2];clear h2 w2
  by_cases h4:l.length<4
  .have ht:D2 l 0 4=([],l,10):=by unfold D2;rw[if_neg (by decide),if_pos h4]
   rw[if_pos h4]at hm
   cases hm
   have hr1:Pa w1 lo hi pr (D2 l 0 4).2.1 (D2 l 0 4).2.2:=hr1
   have hl':(DM.mk l win most out fr sk).l=l:=rfl
   rw[hl',ht]
   rw[ht]at hr1
   have n1:((10:Int) !=0)=true:=rfl
   simp(disch:=omega)only[SV,n1,c1]
   refine(Lm hr1).mono ?_
   rintro r w2 ⟨rfl,h2⟩
   rw[h2];clear h2 w2
   refine hR _ _ ?_
   exact⟨by decide,rfl,hx1⟩
  rw[if_neg h4]at hm
  have ht:D2 l 0 4=(l.take 4,l.drop 4,0):=by unfold D2;rw[if_neg (by decide),if_neg h4]
  have hr1:Pa w1 lo hi pr (D2 l 0 4).2.1 (D2 l 0 4).2.2:=hr1
  have hl':(DM.mk l win most out fr sk).l=l:=rfl
  rw[hl',ht]
  rw[ht]at hr1
  have hr1:Pa w1 lo hi pr (l.drop 4) 0:=hr1
  have hd1:DSt w1 base p ⟨l.drop 4,win,most,out,fr,sk⟩:=⟨pr,vo,lo,hi,O,o1,hr1,oo1,hp,hlo,hO,q1,by omega⟩
  have hl4:(l.drop 4).length=l.length-4:=aLP
  obtain⟨n,hn⟩:∃n,n=jW (l.take 4):=⟨_,rfl⟩
  have en:jW (l.take 4,l.drop 4,(0:Int)).1=n:=hn.symm
  rw[<-hn]at hm
  have n0:((0:Int) !=0)=false:=rfl
  by_cases hmg:n=4247762216
  .have g1:((n:Int)==4247762216)=true:=by rw[hmg]<;>rfl
   rw[if_pos hmg]at hm
   obtain⟨mb,hmb⟩:∃mb,aoU (l.drop 4) win (most-out.length)=some mb:=by
    cases hd:aoU (l.drop 4) win (most-out.length)with
    |none=>rw[hd]at hm;cases hm
    |some mb=>exact⟨mb,rfl⟩
   rw[hmb]at hm
   simp(disch:=omega)only[SV,en,n0,g1]
   refine(aDQ hd1 hout (show fr<=2000000 by omega) hmost (by show(l.drop 4).length<=_;omega) hmb).mono ?_
   intro r w2 hq
   unfold AY
   cases mb with
   |error e=>
    obtain⟨he,rfl,x2⟩:=hq
    cases hm
    have n1:(e !=0)=true:=by simp[he]
    simp(disch:=omega)only[SV,n1]
    refine hR _ _ ?_
    exact⟨he,rfl,hx1.seq x2⟩
   |ok t=>
    obtain⟨a,l'⟩:=t
    obtain⟨rfl,hd2,x2⟩:=hq
    have hok:=aFZ hmb
    simp(disch:=omega)only[SV,n0]
    exact⟨f,by omega,l',out++a,fr+1,sk,hm,hd2,hx1.seq x2,by rw[aLs];omega,by omega,by omega,by omega⟩
  have g1:((n:Int)==4247762216)=false:=by simp;omega
  rw[if_neg hmg]at hm
  by_cases hs:407710288<=n/\n<407710304
  .have g2:decide ((n:Int)≥407710288)=true:=decide_eq_true (by omega)
   have g3:decide ((407710288:Int)<=(n:Int))=true:=decide_eq_true (by omega)
   have g4:decide ((n:Int)<407710304)=true:=decide_eq_true (by omega)
   rw[if_pos hs]at hm
   simp(disch:=omega)only[SV,en,n0,g1,g2,g3,g4]
   refine(aGa hd1 (show sk<=2000000 by omega) (by show(l.drop 4).length<=_;omega)).mono ?_
   intro r w2 hq
   unfold AY
   have hq:aJZ base p w1 ⟨l.drop 4,win,most,out,fr,sk⟩ r w2 (aBB (l.drop 4)):=hq
   cases hk:aBB (l.drop 4)with
   |error e=>
    rw[hk]at hq hm
    obtain⟨he,rfl,x2⟩:=hq
    cases hm
    have n1:(e !=0)=true:=by simp[he]
    simp(disch:=omega)only[SV,n1]
    refine hR _ _ ?_
    exact⟨he,rfl,hx1.seq x2⟩
   |ok l'=>
    rw[hk]at hq hm
    obtain⟨rfl,hd2,x2⟩:=hq
    have hle:l'.length<=(l.drop 4).length:=by
     unfold aBB at hk
     repeat' split at hk
     all_goals first|cases hk|skip
     rw[aLP]
     omega
    simp(disch:=omega)only[SV,n0]
    exact⟨f,by omega,l',out,fr,sk+1,hm,hd2,hx1.seq x2,hout,by omega,by omega,by omega⟩
  .rw [if_neg hs]at hm
   cases hm
   have n1:((11:Int) !=0)=true:=rfl
   unfold AY
   by_cases h1:407710288<=n
   .have g2:decide ((n:Int)≥407710288)=true:=decide_eq_true (by omega)
    have g3:decide ((407710288:Int)<=(n:Int))=true:=decide_eq_true (by omega)
    have g4:decide ((n:Int)<407710304)=false:=decide_eq_false (by omega)
    simp(disch:=omega)only[SV,en,n0,g1,g2,g3,g4,n1]
    refine hR _ _ ?_
    exact⟨by decide,rfl,hx1⟩
   .have g2:decide ((n:Int)≥407710288)=false:=decide_eq_false (by omega)
    have g3:decide ((407710288:Int)<=(n:Int))=false:=decide_eq_false (by omega)
    simp(disch:=omega)only[SV,en,n0,g1,g2,g3,n1]
    refine hR _ _ ?_
    exact⟨by decide,rfl,hx1⟩
def dec(l:List UInt8)(log most:Nat):Option (Except Int (List UInt8×Nat×Nat)):=aoT (2^log) most (l.length+1) l [] 0 0
theorem aDM{v:aOn}{l:List UInt8}{log most:Nat}{w:aOm}{mm:Except Int (List UInt8×Nat×Nat)}(hb:Bs w v l)(hl:l.length<=1000000)(hlog:10<=log/\log<=22)(hmost:most<=2000000)(hm:dec l log most=some mm):
 aK pg Iu #[v,.int .i64 (log:Nat),.int .i64 (most:Nat)] w (λr w'=>∃p,aHN w.heap.size p w (2^log) most r w' mm):=by
 refine aeW ?_
 obtain⟨RR,hRR⟩:∃RR:aOn->aOm->Prop,RR=λr w'=>∃p,aHN w.heap.size p w (2^log) most r w' mm:=⟨_,rfl⟩
 rw[<-hRR]
 unfold ahO SI SH
 have d1:decide ((log:Int)<10)=false:=decide_eq_false (by omega)
 have d2:decide ((log:Int)>22)=false:=decide_eq_false (by omega)
 have d3:decide ((22:Int)<(log:Int))=false:=decide_eq_false (by omega)
 have d4:decide ((most:Int)<0)=false:=decide_eq_false (by omega)
 have hlb:2^log<=2^22:=aLG (by omega) hlog.2
 have e1:(1:Int)*2^min log IntKind.u64.bits=((2^log:Nat):Int):=by
  rw[aMk (by have:IntKind.u64.bits=64:=rfl;omega)]
  simp
 have e2:IntKind.u64.wrap ((2^log:Nat):Int)=((2^log:Nat):Int):=by
  have:∀W:Nat,W<=2^22->IntKind.u64.wrap (W:Int)=(W:Int):=λW hW=>gP (by omega) (by omega)
  exact this _ hlb
 have t0:(log:Int).toNat=log:=aLx _
 have g0:(0:Int)<=(log:Int):=by omega
 simp(disch:=omega)only[SV,d1,d2,d3,d4]
 have hb1:=hb.ext (aN.dr w bJ) (aU _)
 refine(GO hb1 (by omega)).mono ?_
 rintro r w1 ⟨pr,rfl,hr,x1⟩
 have zd:=(aN.dr w bJ).size
 have z1:=x1.size
 simp(disch:=omega)only[SV,e1,e2,t0,g0]
 refine fC λw2 o2 x2 s2=> ?_
 have o2:aZ w2 w1.heap.size (tU pr MJ ⟨l,2^log,most,[],0,0⟩):=o2
 have hz:=o2.lt
 have hpr:(dr w).heap.size<=pr/\pr<w1.heap.size:=⟨hr.1,hr.2.1⟩
 refine aF2 (base:=w.heap.size) (p:=w1.heap.size) (w0:=w) (w:=w2) (f:=l.length+1) (l:=l) (win:=2^log) (most:=most) (mm:=mm) ((((aN.dr w bJ).seq x1).seq x2).mono λ_ _ h=>h.elim) ⟨pr,MJ,(dr w).heap.size,w1.heap.size,(λb=>False),o2,hr.ext x2 (λ_ _ _ h=>h),⟨rfl,.inl ⟨rfl,rfl⟩⟩,by omega,by omega,λb h=>h.elim,by omega,by omega⟩ (by omega) hl hmost hm λr w' h=> ?_
 rw[hRR]
 exact⟨_,h⟩
def aKD(w:aOm)(r:aOn)(w':aOm):Except Int (List UInt8×Nat×Nat)->Prop
 | .error e=>r= .tuple #[MJ,.int .i64 e]/\aN w w' bJ
 | .ok (out,fr,sk)=>∃v,r= .tuple #[v,.int .i64 0]/\Bs w' v out/\aN w w' bJ
theorem aDN{v:aOn}{l:List UInt8}{log most:Nat}{w:aOm}{mm:Except Int (List UInt8×Nat×Nat)}(hb:Bs w v l)(hl:l.length<=1000000)(hlog:10<=log/\log<=22)(hmost:most<=2000000)(hm:dec l log most=some mm):
 aK pg Bg #[v,.int .i64 (log:Nat),.int .i64 (most:Nat)] w (λr w'=>aKD w r w' mm):=by
 refine Xe ?_
 unfold VP NI
 refine(aDM hb hl hlog hmost hm).mono ?_
 rintro r w1 ⟨p,hq⟩
 cases mm with
 |error e=>
  obtain⟨he,rfl,x⟩:=hq
  have n1:(e !=0)=true:=by simp[he]
  simp(disch:=omega)only[SV,n1]
  exact⟨rfl,x.mono λy hy h=>by omega⟩
 |ok t=>
  obtain⟨out,fr,sk⟩:=t
  obtain⟨rfl,⟨l',hd⟩,x⟩:=hq
  obtain⟨pr,vo,lo,hi,O,o,hr,oo,hp,hlo,hO,q1,hhi⟩:=hd
  have n1:((0:Int) !=0)=false:=rfl
  have c3:=o.cell (off:=3)
  simp only[tU,aLu,aLw]at c3
  simp(disch:=omega)only[SV,n1,c3]
  exact⟨vo,rfl,acA oo,x.mono λy hy h=>by omega⟩
def skF(k:UInt8)(b:List UInt8):List UInt8:=UInt8.ofNat (80+k.toNat%16)::42::77::24::UInt8.ofNat b.length::0::0::0::b
def aEW:List (UInt8×List UInt8)->List UInt8
 |[]=>[]
 |(k,b)::L=>skF k b++aEW L
def azR:Nat->List (UInt8×List UInt8)->List Nat
 |_,[]=>[]
 |n,(k,b)::L=>(n+(8+b.length))::azR (n+(8+b.length)) L
def RwS(w:aOm)(v:aOn)(ls:List (List UInt8)):Prop:=∃vs:List aOn,Sl w v vs/\vs.length=ls.length/\∀i (h:i<ls.length) (h':i<vs.length),Bs w vs[i] ls[i]
theorem RwS.ext {w w':aOm}{v:aOn}{ls:List (List UInt8)}(h:RwS w v ls)(x:aN w w' bJ):RwS w' v ls:=by
 obtain⟨vs,h1,h2,h3⟩:=h
 exact⟨vs,h1.ext x (aU _),h2,λi a b=>(h3 i a b).ext x (aU _)⟩
theorem RwS.len {w:aOm}{v:aOn}{ls:List (List UInt8)}(h:RwS w v ls):∃a c,v= .slice a ls.length c:=by
 obtain⟨vs,⟨a,n,c,rfl,hn,hc,_⟩,h2,h3⟩:=h
 exact⟨a,c,by rw[<-h2,hn]⟩
theorem RwS.at {w:aOm}{v:aOn}{ls:List (List UInt8)}(h:RwS w v ls){i:Nat}(hi:i<ls.length):∃b o c u,v= .slice (some ⟨b,o,none⟩) ls.length c/\w.cell? ⟨b,o+i,none⟩=some u/\Bs w u (ls[i]'hi):=by
 obtain⟨vs,⟨a,n,c,rfl,hn,hc,hh⟩,h2,h3⟩:=h
 obtain⟨b,o,rfl,h4⟩:=hh (by omega)
 have h5:=h4 i (by omega)
 rw[aLt (by omega)]at h5
 exact⟨b,o,c,_,by rw[<-h2,hn],h5,h3 i hi (by omega)⟩
theorem aIu{w:aOm}{b:Nat}{l:List UInt8}(h:aZ w b (l.map dR)):Bs w (.slice (some ⟨b,0,none⟩) l.length l.length) l:=
 h.bs (off:=0) (c:=l.length) (aLA _) (λi hi=>by rw[aLI,aLR,aLt hi]<;>rfl)
def iv(n:Nat):aOn:= .int .i64 (n:Nat)
def aHL(base:Nat)(w:aOm)(va ve:aOn)(L:List (UInt8×List UInt8)):Prop:=
 ∃S T:Nat->Prop,Ah w S 1 va (aEW L).length ((aEW L).map dR)/\Ah w T 1 ve (azR 0 L).length ((azR 0 L).map iv)/\(∀b,S b->base<=b/\¬T b)/\(∀b,T b->base<=b)
theorem aHL.ext {base:Nat}{w w':aOm}{va ve:aOn}{L:List (UInt8×List UInt8)}(h:aHL base w va ve L)(x:aN w w' bJ):aHL base w' va ve L:=by
 obtain⟨S,T,h1,h2,h3,h4⟩:=h
 exact⟨S,T,h1.ext x (λ_ _ h=>h),h2.ext x (λ_ _ h=>h),h3,h4⟩
theorem ofN{n:Nat}(h:n<256):(UInt8.ofNat n).toNat=n:=by rw[aNN];omega
def b3 (x:Nat):List UInt8:=[UInt8.ofNat (x%256),UInt8.ofNat (x/256%256),UInt8.ofNat (x/65536%256)]
theorem aGt{x:Nat}(h:x<2^24):jW (b3 x)=x:=by
 simp only[b3,jW]
 rw[ofN (by omega),ofN (by omega),ofN (by omega)]
 omega
theorem aJw{x:Nat}{r:List UInt8}(h:x<2^24):bx (b3 x++r)=x:=by
 have:(b3 x++r).take 3=b3 x:=rfl
 unfold bx
 rw[this,aGt h]
def smX(n:Nat)(b:Bool):Nat:=8*n+2+(if b then 1 else 0)
def aIM(n:Nat)(c:UInt8)(b:Bool):List UInt8:=b3 (smX n b)++[c]
def Dp(n:Nat)(s:Bool):List UInt8:=if n<256 then[40,181,47,253]++dM (32+(if s then 4 else 0)) 1++dM n 1 else[40,181,47,253]++dM (32+(if s then 4 else 0)+64) 1++dM (n-256) 2
theorem ajH(n:Nat)(s:Bool):(Dp n s).length<=7:=by
 unfold Dp
 split
 .rw [aLs,aLs,bS,bS];simp
 .rw [aLs,aLs,bS,bS];simp
theorem aJ5 (l r:List UInt8):D2 (l++r) 0 l.length=(l,r,0):=by
 unfold D2
 rw[if_neg (by simp),if_neg (by rw[aLs];omega),List.take_left,aNB]
theorem aHt{l r:List UInt8}{n:Nat}(h:l.length=n):nxS (l++r,0) n=(r,0)/\nvS (l++r,0) n=jW l:=by
 subst h
 unfold nxS nvS
 rw[aJ5]
 exact⟨rfl,rfl⟩
theorem aDI{n win room:Nat}{b:Bool}{m r all:List UInt8}(hm:m.length=n)(hn:n<=win)(hn2:n<=131072)(hr:all.length+n<=room):Yn (b3 (8*n+(if b then 1 else 0))++(m++r)) all win room=some (.ok (all++m,r,b)):=by
 obtain⟨x,hx⟩:∃x,x=8*n+(if b then 1 else 0):=⟨_,rfl⟩
 have hx2:x<2^24:=by rw[hx];split<;>omega
 rw[<-hx]
 unfold Yn
 have hl:(b3 x++(m++r)).length=3+n+r.length:=by simp[b3,hm];omega
 have hb:=aJw (r:=m++r) hx2
 have hk:Lk (b3 x++(m++r))=0:=by unfold Lk;rw[hb,hx];split<;>omega
 have hs:Nq (b3 x++(m++r))=n:=by unfold Nq;rw[hb,hx];split<;>omega
 have hd:Yb (b3 x++(m++r))=n:=by unfold Yb;rw[hk,hs]<;>rfl
 have hdr:(b3 x++(m++r)).drop 3=m++r:=rfl
 have hmm:asI (b3 x++(m++r))=m:=by unfold asI;rw[hk,hs,hdr,if_neg (by omega),<-hm,List.take_left]
 have hq:(bx (b3 x++(m++r))%2==1)=b:=by
  rw[hb,hx]
  cases b
  .have:(8*n+(if false=true then 1 else 0))%2=0:=by simp;omega
   rw[this]<;>rfl
  .have:(8*n+(if true=true then 1 else 0))%2=1:=by simp;omega
   rw[this]<;>rfl
 rw[hl,hk,hs,hd,hmm,hq,hm,if_neg (by omega),if_neg (by omega),if_neg (by omega),if_neg (by omega),if_neg (by omega),if_neg (by omega),<-aMK,hdr,<-hm,aNB]
def plD(n:Nat)(s:Bool):Nat:=32+(if s then 4 else 0)+(if n<256 then 0 else 64)
def plS(n:Nat):List UInt8:=if n<256 then dM n 1 else dM (n-256) 2
theorem agM(n:Nat)(s:Bool):Dp n s=[40,181,47,253]++(dM (plD n s) 1++plS n):=by
 unfold Dp plD plS
 split<;>rw[aLJ]<;>rfl
theorem aJS{n:Nat}(s:Bool)(hn:n<65792):plD n s<256/\Vc (plD n s)=true/\fDn (plD n s)=0/\XV (plD n s)=(if n<256 then 1 else 2)/\(plD n s/8%2=0)/\(plD n s/4%2==1)=s/\(plS n).length=(if n<256 then 1 else 2)/\fSz (plD n s) (jW (plS n))=n:=by
 unfold plD plS
 by_cases h:n<256
 .simp only[if_pos h]
  have e:jW (dM n 1)=n:=by rw[IP];exact aLV (by omega)
  rw[e]
  cases s<;>refine⟨by decide,by decide,by decide,by decide,by decide,by decide,bS _ _, ?_⟩<;>·unfold fSz;rw[if_neg (by decide)]
 .simp only[if_neg h]
  have e:jW (dM (n-256) 2)=n-256:=by rw[IP];exact aLV (by omega)
  rw[e]
  cases s<;>refine⟨by decide,by decide,by decide,by decide,by decide,by decide,bS _ _, ?_⟩<;>·unfold fSz;rw[if_pos (by decide)];omega
theorem aD0 {n:Nat}{s:Bool}(hn:n<65792)(r:List UInt8):QJ (dM (plD n s) 1++(plS n++r))= .ok (⟨n,n,true,s⟩,1+(plS n).length):=by
 obtain⟨f1,f2,f3,f4,f5,f6,f7,f8⟩:=aJS s hn
 have h1:=aHt (l:=dM (plD n s) 1) (r:=plS n++r) (n:=1) (bS _ _)
 have h2:=aHt (l:=plS n) (r:=r) (n:=(plS n).length) rfl
 have e1:jW (dM (plD n s) 1)=plD n s:=by rw[IP];exact aLV (by omega)
 unfold QJ
 rw[h1.1,h1.2,e1,if_neg (by simp),if_neg (by omega)]
 unfold ahS fS2
 rw[f2,f3,f4,<-f7]
 have hp:0<(plS n).length:=by rw[f7];split<;>omega
 have o1:opS (plS n++r,0) 0=(plS n++r,0):=rfl
 have o2:opV (plS n++r,0) 0=0:=rfl
 have o3:opS (plS n++r,0) (plS n).length=(r,0):=by unfold opS;rw[if_pos hp];exact h2.1
 have o4:opV (plS n++r,0) (plS n).length=jW (plS n):=by unfold opV;rw[if_pos hp];exact h2.2
 simp only[if_true,o1,o2,o3,o4,f8,f6]
 unfold aeX
 rw[if_neg (by simp),if_neg (by simp),decide_eq_true hp]
 have e9:(dM (plD n s) 1++(plS n++r)).length-r.length=1+(plS n).length:=by
  rw[aLs,aLs,bS]
  omega
 rw[e9]
theorem aIi:jW [40,181,47,253]=4247762216:=by decide
theorem aDK{b T:List UInt8}{s:Bool}:NH ⟨b.length,b.length,true,s⟩ T b=if s then(match aoV T b with| .error e=> .error e| .ok l'=> .ok (b,l'))else .ok (b,T):=by
 unfold NH
 rw[if_neg (by simp)]
 all_goals(cases s<;>rfl)
theorem aF0 {b r:List UInt8}:aoV (dM (XN b) 4++r) b= .ok r:=by
 unfold aoV
 have hl:(dM (XN b) 4).length=4:=bS _ _
 have e1:(dM (XN b) 4++r).take 4=dM (XN b) 4:=by rw[aMW (by omega),aLO (by omega)]
 have e2:(dM (XN b) 4++r).drop 4=r:=aNI hl
 have e3:jW (dM (XN b) 4)=XN b%2^32:=IP 4 (XN b)
 rw[e1,e2,e3,if_neg (by rw[aLs,hl];omega),if_neg (by simp)]
def enT(b:List UInt8)(s:Bool):List UInt8:=if s then dM (XN b) 4 else[]
def enF(b blk:List UInt8)(s:Bool):List UInt8:=Dp b.length s++(blk++enT b s)
theorem aDJ{b blk T:List UInt8}{win room:Nat}{s:Bool}(hb:b.length<65792)(hw:b.length<=win)(hr:b.length<=room)(hblk:Yn (blk++T) [] b.length room=some (.ok (b,T,true))):
 aoU ((Dp b.length s).drop 4++(blk++T)) win room=some (NH ⟨b.length,b.length,true,s⟩ T b):=by
 have e0:(Dp b.length s).drop 4++(blk++T)=dM (plD b.length s) 1++(plS b.length++(blk++T)):=by
  rw[agM]
  show(dM (plD b.length s) 1++plS b.length)++_=_
  rw[aLJ]
 rw[e0]
 unfold aoU
 rw[aD0 hb]
 have:¬(win<b.length∨(true=true/\room<b.length)):=by rintro(h|h)<;>omega
 show(if win<b.length∨(true=true/\room<b.length)then _ else _)=_
 rw[if_neg this]
 have hd:(dM (plD b.length s) 1++(plS b.length++(blk++T))).drop (1+(plS b.length).length)=blk++T:=by
  rw[<-aLJ,aNI (by rw[aLs,bS])]
 rw[hd,Qy]
 simp only[hblk]
 simp[aAB]
theorem aBC{b r:List UInt8}{s:Bool}:NH ⟨b.length,b.length,true,s⟩ (enT b s++r) b= .ok (b,r):=by
 rw[aDK]
 unfold enT
 cases s with
 |false=>rfl
 |true=>
  simp only[if_true]
  rw[aF0]
theorem aF3 {b blk:List UInt8}{log most:Nat}{s:Bool}(hb:b.length<65792)(hw:b.length<=2^log)(hr:b.length<=most)(hblk:∀T,Yn (blk++T) [] b.length most=some (.ok (b,T,true))):
 dec (enF b blk s) log most=some (.ok (b,1,0)):=by
 unfold dec enF
 have h4:(Dp b.length s++(blk++enT b s)).take 4=[40,181,47,253]:=by rw[agM]<;>rfl
 have hd:(Dp b.length s++(blk++enT b s)).drop 4=(Dp b.length s).drop 4++(blk++enT b s):=by rw[agM]<;>rfl
 have hl:4<=(Dp b.length s++(blk++enT b s)).length:=by rw[agM];simp
 have ht:=aBC (b:=b) (r:=[]) (s:=s)
 rw[aMf]at ht
 rw[aoT,if_neg (by omega),if_neg (by omega),h4,aIi,if_pos rfl,hd,aDJ hb hw (by simpa using hr) (by simpa using hblk _),ht]
 obtain⟨q,hq⟩:∃q,(Dp b.length s++(blk++enT b s)).length=q+1:=⟨(Dp b.length s++(blk++enT b s)).length-1,by omega⟩
 rw[hq]
 show aoT _ _ (q+1) [] ([]++b) (0+1) 0=_
 rw[aoT]
 simp
def aIH(b:List UInt8):List UInt8:=b3 (8*b.length+1)++b
theorem aF4 {b:List UInt8}{log most:Nat}{s:Bool}(hn:b.length<65792)(hw:b.length<=2^log)(hr:b.length<=most):dec (enF b (aIH b) s) log most=some (.ok (b,1,0)):=by
 refine aF3 hn hw hr λT=> ?_
 have:=aDI (n:=b.length) (win:=b.length) (room:=most) (b:=true) (m:=b) (r:=T) (all:=[]) rfl (aLA _) (by omega) (by simpa using hr)
 unfold aIH
 rw[aLJ]
 simp only[if_true,aL9]at this
 exact this
theorem aGc{b blk:List UInt8}{s:Bool}:(enF b blk s).length<=11+blk.length:=by
 unfold enF enT
 have:=ajH b.length s
 rw[aLs,aLs]
 split
 .rw [bS];omega
 .simp;omega
end Go.Proofs.YtoecppploooloaaGreatDoor
namespace Go.Pu
def Vw(w:Nat):Nat:=if w=0 then 0 else 2^(w-1)
def dQ(l:List Nat):Nat:=(l.map Vw).sum
def yB(d:Nat)(l:List Nat):Bool:=l.all λw=>decide (w<=d)
def fG(l:List Nat):Nat:=
 if yB 11 l=true/\2<=l.length/\l.length<=256/\l.getLast?≠some 0/\2^(dQ l).log2=dQ l/\(dQ l).log2<=11/\yB (dQ l).log2 l=true then(dQ l).log2 else 0
theorem alY(a b:List Nat):dQ (a++b)=dQ a+dQ b:=by simp[dQ]
theorem jS(w:Nat)(l:List Nat):dQ (w::l)=Vw w+dQ l:=by simp[dQ]
theorem aBi{w:Nat}(h:w<=11):Vw w<=1024:=by
 unfold Vw
 split
 .omega
 .have:2^(w-1)<=2^10:=aLG (by omega) (by omega)
  omega
theorem acY:∀{l:List Nat},(∀w∈l,w<=11)->dQ l<=1024*l.length
 |[],_=>by simp[dQ]
 |w::l,h=>by
  have h1:=aBi (h w (aMa ..))
  have h2:=acY λx hx=>h x (aLN _ hx)
  rw[jS,aLS];omega
theorem awJ{w:Nat}:∀{l:List Nat},w∈l->Vw w<=dQ l
 |[],h=>by cases h
 |x::l,h=>by
  rw[jS]
  rcases aMd.1 h with rfl|h
  .omega
  .have:=awJ h;omega
theorem zG{d:Nat}{l:List Nat}:yB d l=true↔∀w∈l,w<=d:=by simp[yB]
theorem aDr:∀(s:Nat),0<s->((s&&&(s-1)=0)↔2^s.log2=s):=by
 intro s
 induction s using Nat.strongRecOn with
 |ind s ih=>
  intro h
  by_cases h1:s=1
  .subst h1;decide
  .have hl:s.log2=(s/2).log2+1:=by
    rw[Nat.log2_def,if_pos (by omega)]
   have hd:(s&&&(s-1))/2=s/2&&&(s-1)/2:=Nat.and_div_two
   have hm:(s&&&(s-1))%2=0:=by
    rcases Nat.mod_two_eq_zero_or_one (s&&&(s-1))with h'|h'
    .exact h'
    .rw [Nat.and_mod_two_eq_one]at h';omega
   rw[hl,aMe]
   rcases Nat.mod_two_eq_zero_or_one s with h2|h2
   .have he:(s-1)/2=s/2-1:=by omega
    rw[he]at hd
    have:=ih (s/2) (by omega) (by omega)
    constructor
    .intro h0
     rw[h0]at hd
     have:=this.1 (by omega)
     omega
    .intro h0
     have:=this.2 (by omega)
     omega
   .have he:(s-1)/2=s/2:=by omega
    rw[he,Nat.and_self]at hd
    constructor
    .intro h0;omega
    .intro h0;omega
theorem NM{l:List Nat}{d:Nat}(h:fG l=d)(hd:d≠0):(∀w∈l,w<=d)/\d<=11/\2<=l.length/\l.length<=256/\l.getLast?≠some 0/\dQ l=2^d:=by
 unfold fG at h
 split at h
 .rename_i hh
  obtain⟨h1,h2,h3,h4,h5,h6,h7⟩:=hh
  subst h
  exact⟨zG.1 h7,h6,h2,h3,h4,h5.symm⟩
 .exact absurd h.symm hd
theorem aBJ{l:List Nat}{d:Nat}(h1:∀w∈l,w<=d)(h2:d<=11)(h3:2<=l.length)(h4:l.length<=256)(h5:l.getLast?≠some 0)(h6:dQ l=2^d):fG l=d:=by
 unfold fG
 have hl:(dQ l).log2=d:=by rw[h6,Nat.log2_two_pow]
 rw[hl,if_pos ⟨zG.2 λw hw=>aMu (h1 w hw) h2,h3,h4,h5,h6.symm,h2,zG.2 h1⟩]
def sX(l:List Nat)(w:Nat):Nat:=dQ (l.filter λx=>decide (x<w))
def KR(l:List Nat)(s:Nat):Nat:=sX l (l.getD s 0)+(l.take s).count (l.getD s 0)*2^(l.getD s 0-1)
def EJ(l:List Nat)(d s:Nat):Nat×Nat:=if l.getD s 0=0 then(0,0)else(d+1-l.getD s 0,KR l s/2^(l.getD s 0-1))
theorem LJ(l:List Nat)(w:Nat)(hw:1<=w):sX l (w+1)=sX l w+l.count w*2^(w-1):=by
 unfold sX
 induction l with
 |nil=>simp[dQ]
 |cons x l ih=>
  rw[aM9,aNC,aNC]
  by_cases h1:x<w
  .rw [if_pos (by simp;omega),if_pos (by simp;omega),jS,jS,ih]
   have:(x==w)=false:=by simp;omega
   rw[this];simp;omega
  .by_cases h2:x=w
   .subst h2
    rw[if_pos (by simp),if_neg (by simp),jS,ih]
    have:Vw x=2^(x-1):=by unfold Vw;rw[if_neg (by omega)]
    rw[this];simp[aMl];omega
   .rw [if_neg (by simp;omega),if_neg (by simp;omega),ih]
    have:(x==w)=false:=by simpa using h2
    rw[this];simp
theorem aiT(l:List Nat):sX l 1=0:=by
 unfold sX
 induction l with
 |nil=>rfl
 |cons x l ih=>
  rw[aNC]
  split
  .rename_i h
   have:x=0:=by simp at h;omega
   subst this
   rw[jS,ih]<;>rfl
  .exact ih
theorem Xo{l:List Nat}{d:Nat}(h:∀w∈l,w<=d):sX l (d+1)=dQ l:=by
 unfold sX
 rw[List.filter_eq_self.2 λa ha=>by have:=h a ha;simp;omega]
theorem aiS{l:List Nat}{d w:Nat}(hs:dQ l=2^d)(hw:w<=d+1)(h1:1<=w):2^(w-1)∣sX l w:=by
 have hsplit:∀l:List Nat,dQ l=sX l w+dQ (l.filter λx=>decide (w<=x)):=by
  intro l
  unfold sX
  induction l with
  |nil=>rfl
  |cons x l ih=>
   rw[aNC,aNC,jS,ih]
   by_cases h:x<w
   .rw [if_pos (by simpa using h),if_neg (by simp;omega),jS];omega
   .rw [if_neg (by simpa using h),if_pos (by simp;omega),jS];omega
 have hhigh:2^(w-1)∣dQ (l.filter λx=>decide (w<=x)):=by
  generalize hL:l.filter (λx=>decide (w<=x))=L
  have hge:∀x∈L,w<=x:=λx hx=>by rw[<-hL]at hx;simpa using(aN0.1 hx).2
  clear hL
  induction L with
  |nil=>exact Nat.dvd_zero _
  |cons x L ih=>
   rw[jS]
   refine Nat.dvd_add ?_ (ih λy hy=>hge y (aLN _ hy))
   have:=hge x (aMa ..)
   unfold Vw
   rw[if_neg (by omega)]
   exact aOk 2 (by omega)
 have htot:2^(w-1)∣dQ l:=by rw[hs];exact aOk 2 (by omega)
 rw[hsplit l]at htot
 exact(Nat.dvd_add_left hhigh).1 htot
theorem Df{l:List Nat}{s:Nat}(h:s<l.length):l.getD s 0∈l:=by
 rw[aLz,aLt h];exact aLT h
theorem aDD{l:List Nat}{s:Nat}(h:s<l.length):(l.take s).count (l.getD s 0)+1<=l.count (l.getD s 0):=by
 have hg:l.getD s 0=l[s]:=by rw[aLz,aLt h]<;>rfl
 have e:l=l.take s++l[s]::l.drop (s+1):=by rw[<-aL8 h,aMz]
 rw[hg]
 have:l.count l[s]=(l.take s++l[s]::l.drop (s+1)).count l[s]:=by rw[<-e]
 rw[this,aMO,aM9];simp
theorem Tq{l:List Nat}{a b:Nat}(h1:1<=a)(h:a<=b):sX l a<=sX l b:=by
 obtain⟨c,rfl⟩:=Nat.exists_eq_add_of_le h
 induction c with
 |zero=>exact aLA _
 |succ c ih=>
  have:=LJ l (a+c) (by omega)
  rw[<-aMM]
  have:=ih (by omega)
  omega
theorem aDt{l:List Nat}{s:Nat}(h:s<l.length)(h0:l.getD s 0≠0):KR l s+2^(l.getD s 0-1)<=sX l (l.getD s 0+1):=by
 have h1:=aDD h
 rw[LJ l _ (by omega)]
 unfold KR
 have:=aL1 (2^(l.getD s 0-1)) h1
 rw[aMl]at this
 omega
theorem aDs{l:List Nat}{s d:Nat}(h:s<l.length)(h0:l.getD s 0≠0)(hs:dQ l=2^d)(hd:l.getD s 0<=d):2^(l.getD s 0-1)∣KR l s:=
 Nat.dvd_add (aiS hs (by omega) (by omega)) (Nat.dvd_mul_left _ _)
theorem aBy{l:List Nat}{s d:Nat}(h:s<l.length)(h0:l.getD s 0≠0)(hs:dQ l=2^d)(hall:∀w∈l,w<=d):KR l s/2^(l.getD s 0-1)<2^(d+1-l.getD s 0):=by
 have hd:=hall _ (Df h)
 have h1:=aDt h h0
 have h2:=Tq (l:=l) (a:=l.getD s 0+1) (b:=d+1) (by omega) (by omega)
 rw[Xo hall,hs]at h2
 rw[aMZ (aLZ _),<-aMF,show d+1-l.getD s 0+(l.getD s 0-1)=d from by omega]
 have:=aLZ (l.getD s 0-1)
 omega
theorem amI{l:List Nat}{s t d:Nat}(hsl:s<l.length)(htl:t<l.length)(hst:s≠t)(hs0:l.getD s 0≠0)(ht0:l.getD t 0≠0)(hw:l.getD t 0<=l.getD s 0)(hs:dQ l=2^d)(hall:∀w∈l,w<=d):
 KR l t/2^(l.getD t 0-1)/2^(l.getD s 0-l.getD t 0)≠KR l s/2^(l.getD s 0-1):=by
 rw[aMV,<-aMF,show l.getD t 0-1+(l.getD s 0-l.getD t 0)=l.getD s 0-1 from by omega]
 have hp:=aLZ (l.getD s 0-1)
 obtain⟨q,hq⟩:=aDs hsl hs0 hs (hall _ (Df hsl))
 rw[hq,aNG _ hp]
 rcases aLL (l.getD t 0) (l.getD s 0)with hlt|hge
 .have h1:=aDt htl ht0
  have h2:=Tq (l:=l) (a:=l.getD t 0+1) (b:=l.getD s 0) (by omega) (by omega)
  have h3:sX l (l.getD s 0)<=KR l s:=Nat.le_add_right _ _
  have hp2:=aLZ (l.getD t 0-1)
  have:KR l t/2^(l.getD s 0-1)<q:=by
   rw[aMZ hp,aMb]
   omega
  omega
 .have he:l.getD t 0=l.getD s 0:=by omega
  have hne:(l.take t).count (l.getD t 0)≠(l.take s).count (l.getD s 0):=by
   have key:∀{a b:Nat},a<b->b<l.length->l.getD a 0=l.getD b 0->(l.take a).count (l.getD a 0)<(l.take b).count (l.getD b 0):=by
    intro a b hab hb hab2
    have h1:=aDD (l:=l.take b) (s:=a) (by rw[aLD];omega)
    have h2:(l.take b).getD a 0=l.getD a 0:=by
     rw[aLz,aLz,aLX hab]
    rw[h2,List.take_take,aMk (by omega)]at h1
    rw[<-hab2];omega
   rcases Nat.lt_or_gt_of_ne hst with h|h
   .have:=key h htl he.symm;omega
   .have:=key h hsl he;omega
  intro h
  apply hne
  unfold KR at hq h
  rw[he]at h⊢
  obtain⟨r,hr⟩:=aiS hs (by have:=hall _ (Df hsl);omega) (by omega:1<=l.getD s 0)
  rw[hr]at hq h
  generalize 2^(l.getD s 0-1)=p at*
  generalize(l.take t).count (l.getD s 0)=x at*
  generalize(l.take s).count (l.getD s 0)=y at*
  rw[aMb x p,<-aNW,aNG _ hp]at h
  rw[aMb y p,<-aNW]at hq
  have:=Nat.eq_of_mul_eq_mul_left hp hq
  omega
def qF(o:Nat):Nat:=if o=0 then 0 else 2^(11-o)
def eF(out:List Nat):Nat:=(out.map qF).sum
theorem nP(o:Nat)(l:List Nat):eF (o::l)=qF o+eF l:=by simp[eF]
theorem UE:∀{l:List Nat} {i:Nat} (o:Nat) (h:i<l.length),eF (l.set i o)+qF l[i]=eF l+qF o
 |[],i,o,h=>by simp at h
 |x::l,0,o,h=>by rw[aLy,nP,nP,aNk];omega
 |x::l,i+1,o,h=>by
  rw[aLB,nP,nP,aMJ]
  have:=UE (l:=l) (i:=i) o (by simpa using h)
  omega
theorem YV:∀{l:List Nat},(∀o∈l,o=0∨o=11)->eF l<=l.length
 |[],_=>by simp[eF]
 |x::l,h=>by
  have h1:=h x (aMa ..)
  have h2:=YV λy hy=>h y (aLN _ hy)
  rw[nP,aLS]
  have:qF x<=1:=by
   rcases h1 with rfl|rfl<;>decide
  omega
theorem amX{M:Nat}(hM:M<=11):∀{l:List Nat},(∀o∈l,o<=M)->2^(11-M)∣eF l
 |[],_=>Nat.dvd_zero _
 |x::l,h=>by
  rw[nP]
  refine Nat.dvd_add ?_ (amX hM λy hy=>h y (aLN _ hy))
  have:=h x (aMa ..)
  unfold qF
  split
  .exact Nat.dvd_zero _
  .exact aOk 2 (by omega)
theorem amY{o:Nat}:∀{l:List Nat},o∈l->qF o<=eF l
 |[],h=>by cases h
 |x::l,h=>by
  rw[nP]
  rcases aMd.1 h with rfl|h
  .omega
  .have:=amY h;omega
theorem aBY{o:Nat}(h:o≠0):1<=qF o:=by
 unfold qF;rw[if_neg h];exact aN4
theorem abL:∀{l:List Nat} {i j:Nat} (hi:i<l.length) (hj:j<l.length),i<j->qF l[i]+qF l[j]<=eF l
 |[],i,j,hi,hj,h=>by simp at hi
 |x::l,0,j+1,hi,hj,h=>by
  have:=amY (l:=l) (aLT (show j<l.length by simpa using hj))
  rw[nP,aNk,aMJ];omega
 |x::l,i+1,j+1,hi,hj,h=>by
  have:=abL (l:=l) (i:=i) (j:=j) (by simpa using hi) (by simpa using hj) (by omega)
  rw[nP,aMJ,aMJ];omega
def wOf(d o:Nat):Nat:=if o=0 then 0 else d+1-o
theorem aeJ{d:Nat}(hd:d<=11):∀{l:List Nat},(∀o∈l,o<=d)->dQ (l.map (wOf d))*2^(11-d)=eF l
 |[],_=>by simp[dQ,eF]
 |x::l,h=>by
  have h1:=h x (aMa ..)
  rw[aL7,jS,nP,aMl,aeJ hd λy hy=>h y (aLN _ hy)]
  congr 1
  unfold Vw wOf qF
  by_cases h0:x=0
  .subst h0;simp
  .rw [if_neg h0,if_neg h0,if_neg (by omega),<-aMF]
   congr 1;omega
theorem aFn{d:Nat}{l:List Nat}(hd:d<=11)(h:∀o∈l,o<=d)(hk:eF l=2048):dQ (l.map (wOf d))=2^d:=by
 have:=aeJ hd h
 rw[hk,show(2048:Nat)=2^d*2^(11-d)from by rw[<-aMF,show d+(11-d)=11 from by omega]]at this
 exact Nat.eq_of_mul_eq_mul_right (aLZ _) this
end Go.Pu
namespace Go.Proofs.YtoecppploooloaaGreatDoor
open Go Go.En Go.Pu
set_option maxRecDepth 4000
abbrev bU(l:List UInt8):List Nat:=l.map (·.toNat)
theorem eI(l:List UInt8):(bU l).length=l.length:=by simp
theorem auF{l:List UInt8}{i:Nat}(h:i<l.length):(bU l)[i]?=some (l[i].toNat):=by rw[aLR,aLt h]<;>rfl
theorem UH{l:List UInt8}{i:Nat}(h:i<l.length):bU (l.take (i+1))=bU (l.take i)++[l[i].toNat]:=by
 unfold bU
 rw[aMG,aLt h,aL2]<;>rfl
theorem aB8 {l:List UInt8}(h:0<l.length):(bU l).getLast?=some 0↔l[l.length-1].toNat=0:=by
 rw[aNb,eI,auF (by omega)]
 simp
theorem aGp(l:List UInt8):∀w∈bU l,w<256:=λw hw=>by
 obtain⟨x,_,rfl⟩:=aL5.1 hw
 exact aM7 x
theorem awS{d:Nat}{l:List Nat}{x:Nat}:yB d (l++[x])=(yB d l&&decide (x<=d)):=by
 unfold yB;rw[List.all_append];simp
theorem awT{d:Nat}{l:List Nat}{i:Nat}(h:yB d (l.take i)=false):yB d l=false:=by
 cases hq:yB d l with
 |false=>rfl
 |true=>
  rw[zG]at hq
  have:yB d (l.take i)=true:=zG.2 λw hw=>hq w (aMx hw)
  rw[this]at h;cases h
theorem aG1 {v:aOn}{l:List UInt8}{w:aOm}(h:Bs w v l)(hl:l.length<=100000):
 aK pg Bk #[v] w (λr w'=>r= .tuple #[.int .i64 (if yB 11 (bU l)=true then dQ (bU l)else 0:Nat),.bool (yB 11 (bU l))]/\w'=w):=by
 refine XQ ?_
 obtain⟨a,n,c,rfl,hn,hc,hh⟩:=id h
 rw[aLv]at hn
 subst hn
 unfold WL LX LW FO FN O4
 simp(disch:=omega)only[SV]
 unfold Aa
 refine aX.rule (λm (t:aOn×aOn) w'=>∃i:Nat,m=l.length-i/\t=(.int .i64 (dQ (bU (l.take i)):Nat),.int .i64 i)/\i<=l.length/\yB 11 (bU (l.take i))=true/\w'=w) l.length
  ⟨0,rfl,by simp[dQ],by omega,by simp[yB],rfl⟩ ?_
 rintro m t w1 ⟨i,rfl,rfl,hi,hle,rfl⟩
 unfold FM O3
 by_cases hlt:i<l.length
 .have d1:decide ((i:Int)<(l.length:Int))=true:=by simp;omega
  obtain⟨b,off,rfl,hcell⟩:=slA h (by omega)
  have g1:=hcell i hlt
  rw[aLR,aLt hlt]at g1
  simp only[aL6,dR]at g1
  have ht:=UH hlt
  have hx:(l[i]).toNat<256:=aM7 _
  have hwl:=acY (zG.1 hle)
  rw[eI,aLD]at hwl
  have hsn:yB 11 (bU (l.take (i+1)))=(yB 11 (bU (l.take i))&&decide ((l[i]).toNat<=11)):=by rw[ht,awS]
  have hwn:dQ (bU (l.take (i+1)))=dQ (bU (l.take i))+Vw (l[i]).toNat:=by rw[ht,alY,jS]<;>rfl
  have hbad:yB 11 (bU (l.take (i+1)))=false->yB 11 (bU l)=false:=λh=>awT (i:=i+1) (by rw[<-aNg];exact h)
  generalize(l[i]).toNat=x at*
  unfold FL
  by_cases h11:11<x
  .have d2:decide ((11:Int)<(x:Int))=true:=by simp;omega
   have hf:=hbad (by rw[hsn,hle,decide_eq_false (by omega)]<;>rfl)
   simp(disch:=omega)only[SV,d1,g1,d2]
   rw[hf];simp
  .have d2:decide ((11:Int)<(x:Int))=false:=by simp;omega
   have hle1:yB 11 (bU (l.take (i+1)))=true:=by rw[hsn,hle,decide_eq_true (by omega)]<;>rfl
   have hwp:=aBi (w:=x) (by omega)
   by_cases h0:0<x
   .have d3:decide ((0:Int)<(x:Int))=true:=by simp;omega
    have e1:(x:Int)-1=((x-1:Nat):Int):=by omega
    have hsh:=agA (n:=x-1) (by omega)
    have hpw:Vw x=2^(x-1):=by unfold Vw;rw[if_neg (by omega)]
    have e2:((dQ (bU (l.take i)):Nat):Int)+((2^(x-1):Nat):Int)=((dQ (bU (l.take i))+2^(x-1):Nat):Int):=by omega
    rw[hpw]at hwp hwn
    simp(disch:=omega)only[SV,d1,g1,d2,d3,e1,hsh,e2]
    exact⟨l.length-(i+1),by omega,i+1,rfl,by rw[hwn]<;>rfl,by omega,hle1⟩
   .have d3:decide ((0:Int)<(x:Int))=false:=by simp;omega
    have hpw:Vw x=0:=by unfold Vw;rw[if_pos (by omega)]
    simp(disch:=omega)only[SV,d1,g1,d2,d3]
    exact⟨l.length-(i+1),by omega,i+1,rfl,by rw[hwn,hpw]<;>rfl,by omega,hle1⟩
 .have d1:decide ((i:Int)<(l.length:Int))=false:=by simp;omega
  obtain rfl:i=l.length:=by omega
  rw[aNv]at*
  unfold FK
  simp(disch:=omega)only[SV,d1]
  rw[hle];simp
end Go.Proofs.YtoecppploooloaaGreatDoor

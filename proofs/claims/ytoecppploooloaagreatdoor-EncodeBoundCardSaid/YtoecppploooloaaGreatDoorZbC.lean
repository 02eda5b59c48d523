/- Parts of the proof of EncodeBound: merged and given short names by a program of ours. -/
import Derived.WalkKit
import Derived.ProofKit
import Derived.OpenShut
import Derived.Test.YtoecppploooloaaGreatDoorZbB
set_option linter.unusedVariables false
set_option linter.unusedSimpArgs false
open Bool renaming false_eq_true → aLC, and_eq_true → aLM, not_false → aMF, not_true → aMv
open Int renaming toNat_natCast → aLt, fdiv_eq_ediv_of_nonneg → aMd, tdiv_eq_ediv_of_nonneg → aNi, tmod_eq_emod_of_nonneg → aNj
open List renaming mem_map → aL1, map_cons → aL3, drop_eq_getElem_cons → aL4, nil_append → aL5, mem_cons_self → aL6, length_eq_zero_iff → aL8, mem_cons → aL9, drop_zero → aLA, getElem?_eq_none → aLD, append_assoc → aLF, take_zero → aLG, mem_cons_of_mem → aLJ, take_of_length_le → aLK, length_drop → aLL, getElem?_map → aLN, length_cons → aLO, getElem_mem → aLP, getElem?_append_left → aLQ, getElem?_take_of_lt → aLT, getElem?_append_right → aLW, map_append → aLY, length_append → aLo, getElem?_eq_getElem → aLp, getElem?_cons_zero → aLq, length_map → aLr, getElem?_cons_succ → aLs, set_cons_zero → aLu, getD_eq_getElem?_getD → aLv, set_cons_succ → aLx, take_succ_cons → aLy, length_take → aLz, getElem?_replicate → aM0, map_set → aM1, count_cons → aM5, getLast?_eq_getElem? → aM7, take_add_one → aMB, drop_of_length_le → aMD, getElem_cons_succ → aME, drop_drop → aMG, count_append → aMK, ext_getElem? → aML, getElem_range → aMN, ext_getElem → aMO, take_append_of_le_length → aMQ, length_set → aMV, append_nil → aMb, length_singleton → aMc, cons_append → aMk, getElem_map → aMl, mem_append → aMm, length_replicate → aMn, mem_range → aMo, set_append_right → aMp, replicate_succ → aMs, mem_of_mem_take → aMt, take_append_drop → aMu, getElem?_drop → aMw, map_congr_left → aMz, range'_succ → aN9, getElem?_range → aNB, drop_left' → aNE, take_left' → aNG, drop_append_of_le_length → aNK, length_range → aNM, mem_append_right → aNP, mem_filter → aNW, nodup_cons → aNX, length_erase_of_mem → aNY, map_replicate → aNb, map_take → aNc, drop_eq_nil_of_le → aNf, getElem_cons_zero → aNg, mem_append_left → aNo, take_length → aNr, map_drop → aNt, set_append_left → aNv, drop_left → aNx, filter_cons → aNy, getElem_set → aNz, getElem_set_self → aOb, range_succ → aOd
open Nat renaming mul_comm → aL7, pow_le_pow_right → aLB, zero_add → aLE, lt_or_ge → aLH, mod_eq_of_lt → aLR, two_pow_pos → aLV, mul_le_mul_right → aLX, add_zero → aLZ, le_refl → aLw, mul_one → aM2, and_two_pow_sub_one_eq_mod → aM8, pow_add → aMA, add_assoc → aMI, zero_le → aMM, div_div_eq_div_mul → aMP, div_lt_iff_lt_mul → aMT, sub_zero → aMU, add_sub_cancel → aMX, pow_succ → aMa, min_eq_left → aMg, add_mul → aMh, le_trans → aMq, eq_zero_or_pos → aMy, one_le_two_pow → aN0, add_sub_cancel_left → aN3, or_lt_two_pow → aN5, mul_assoc → aN7, mul_div_cancel_left → aNC, mod_lt → aNI, le_div_iff_mul_le → aNQ, mul_add → aNS, div_mul_le_self → aNU, sub_self → aNh, testBit_eq_decide_div_mod_eq → aNk, lt_of_lt_of_le → aNn, lt_trichotomy → aNp, div_le_self → aOe, pow_dvd_pow → aOg, zero_mul → aOh
open Option renaming map_some → aL2, isNone_none → aMY, isNone_some → aMZ
open Option.some renaming inj → aLS
open UInt8 renaming toNat_lt → aM3, toNat_ofNat_of_lt' → aN2, toNat_ofNat' → aNJ
namespace Go.Proofs.YtoecppploooloaaGreatDoor
open Go Go.En
set_option maxRecDepth 4000
theorem eE{ty:TypeId}(x:Option Addr)(n c:Nat)(w:aOi):(dD .len #[22] ty [.slice x n c]).run pg w= .ok (.value (.int .i64 n)) w:=Wz Tryz.underlying22 x n c
theorem fW{k:IntKind}(a:Int)(w:aOi):(cH 5 3 (.int k a)).run pg w= .ok (.value (.int .i64 (IntKind.i64.wrap a))) w:=Aj Tryz.underlying5 Tryz.underlying3
theorem akO{k:IntKind}(a:Int)(w:aOi):(cH 29 3 (.int k a)).run pg w= .ok (.value (.int .i64 (IntKind.i64.wrap a))) w:=Aj Tryz.underlying29 Tryz.underlying3
theorem GW:(pg).info? 5=some Tryz.t5:=by kernel_rfl
theorem atT{k:IntKind}{n:Int}{w:aOi}{K:aOj->aOi->Prop}(h0:0<=n)(hn:1*n<=2^48)(hk:∀w',aZ w' w.heap.size (List.replicate n.toNat (.int .u8 0))->aN w w' bJ->w'.heap.size=w.heap.size+1->K (.slice (some ⟨w.heap.size,0,none⟩) n.toNat n.toNat) w'):aA pg (iS 22 (.int k n) (.int k n)) w K:=ajJ (i:=Tryz.t5) Tryz.underlying22 GW rfl rfl rfl h0 hn (by omega) hk
theorem mP{k:IntKind}{a:Int}(b o n c:Nat)(w:aOi)(h0:0<=a)(h1:a<n):(aO 22 (.slice (some ⟨b,o,none⟩) n c) (.int k a)).run pg w= .ok (.value (.pointer (some ⟨b,o+a.toNat,none⟩))) w:=TN rfl Tryz.underlying22 GW b o n c h0 h1
theorem YW{b off:Nat}{cs:List aOj}{w:aOi}{v:aOj}{K:aOj->aOi->Prop}(ho:aZ w b cs)(hv:one v=true)(h:off<cs.length)(hk:∀w',aZ w' b (cs.set off v)->aN w w' (λx=>x=b)->w'.heap.size=w.heap.size->K undef w'):aA pg (aM 5 (.pointer (some ⟨b,off,none⟩)) v) w K:=qY GW rfl ho hv h hk
theorem It{l:List UInt8}{v:aOj}{w:aOi}(h:Bs w v l):(cH 22 9 v).run pg w= .ok (.value (.string ⟨l.toArray⟩)) w:=aEA Tryz.underlying22 Tryz.underlying9 Tryz.underlying5 h
theorem iI{k:IntKind}(a:Int)(w:aOi):(cH 38 32 (.int k a)).run pg w= .ok (.value (.int .u64 (IntKind.u64.wrap a))) w:=Aj Tryz.underlying38 Tryz.underlying32
theorem vI{k:IntKind}(a:Int)(w:aOi):(cH 3 32 (.int k a)).run pg w= .ok (.value (.int .u64 (IntKind.u64.wrap a))) w:=Aj Tryz.underlying3 Tryz.underlying32
theorem iG{n:Nat}{ps:List (Nat×aOj)}{cells:Array aOj}{w:aOi}(h1:¬n*1>2^24)(h0:¬n*1=0)(hf:Go.Instr.fill (λj=>some (j*1,1)) ((Array.range (n*1)).map ((Tryz.t5.zero.get!).cells[·%(Tryz.t5.zero.get!).cells.size]!)) ps=some cells){K:aOj->aOi->Prop}(hk:∀w',aZ w' w.heap.size cells.toList->aN w w' bJ->w'.heap.size=w.heap.size+1->K (.slice (some ⟨w.heap.size,0,none⟩) n n) w'):aA pg (bT 22 n ps) w K:=JD (i:=Tryz.t5) Tryz.underlying22 GW rfl h1 h0 hf hk
theorem eJ{k:IntKind}{hi:Int}(a:Option Addr)(n c:Nat)(w:aOi)(h0:0<=hi)(h1:hi<=c):(bP 22 (.slice a n c) none (some (.int k hi)) none).run pg w= .ok (.value (.slice (cW a c (0) 1) (hi.toNat-0) (c-0))) w:=WA Tryz.underlying22 GW _ n c h0 h1
theorem aAJ:(pg).info? 45=some Tryz.t45:=by kernel_rfl
theorem dS{w:aOi}{K:aOj->aOi->Prop}(hk:∀w',aZ w' w.heap.size [(.int .u32 0),(.int .u32 0),(.int .u32 0)]->aN w w' bJ->w'.heap.size=w.heap.size+1->K (.pointer (some ⟨w.heap.size,0,none⟩)) w'):aA pg (bG 45) w K:=eK (i:=Tryz.t45) aAJ rfl hk
theorem cB{b off:Nat}{cs:List aOj}{w:aOi}{xs:Array aOj}{K:aOj->aOi->Prop}(ho:aZ w b cs)(hs:xs.size=3)(hv:∀x∈xs.toList,one x=true)(h:off+3<=cs.length)(hk:∀w',aZ w' b (aT cs off xs.toList)->aN w w' (λx=>x=b)->w'.heap.size=w.heap.size->K undef w'):aA pg (aM 45 (.pointer (some ⟨b,off,none⟩)) (.agg xs)) w K:=fZ (v:= .agg xs) aAJ ho hs hv h hk
theorem dJ{b off:Nat}{cs:List aOj}{w:aOi}(ho:aZ w b cs)(h:off+3<=cs.length):(aH 45 (.pointer (some ⟨b,off,none⟩))).run pg w= .ok (.value (.agg ((cs.drop off).take 3).toArray)) w:=zP Tryz.underlying45 rfl aAJ ho h
theorem dH{base n m:Nat}{ty:TypeId}{w:aOi}{v x:aOj}{l news:List aOj}(h:oF w base 1 v n l)(hx:Cl w 1 x m news)(hone:∀y∈news,one y=true)(hb:base<=w.heap.size)(hbytes:(n+m)*1<=140737488355328){K:aOj->aOi->Prop}(hk:∀v' w',oF w' base 1 v' (n+m) (l++news)->aN w w' (λy=>base<=y)->K v' w'):aA pg (dD .append #[22,22] ty [v,x]) w K:=ajI (i:=Tryz.t5) Tryz.underlying22 Tryz.underlying22 GW rfl rfl rfl h hx hone hb (by omega) hbytes (by decide) hk
theorem fS{k:IntKind}(a:Int)(w:aOi):(cH 32 5 (.int k a)).run pg w= .ok (.value (.int .u8 (IntKind.u8.wrap a))) w:=Aj Tryz.underlying32 Tryz.underlying5
theorem Yc:(pg).info? 22=some Tryz.t22:=by kernel_rfl
theorem Ui(b o:Nat)(w:aOi):(aJ 56 (.pointer (some ⟨b,o,none⟩)) 3).run pg w= .ok (.value (.pointer (some ⟨b,o+3,none⟩))) w:=dE (i:=3) Tryz.underlying56 rfl Yc (by decide) _
theorem jQ(x:Addr)(w:aOi):(aH 22 (.pointer (some x))).run pg w=ldC (w.cell? x) w (far pg 22 x w):=aaP Tryz.underlying22 rfl x w
theorem Lc{k:IntKind}(a:Int)(w:aOi):(cH 32 3 (.int k a)).run pg w= .ok (.value (.int .i64 (IntKind.i64.wrap a))) w:=Aj Tryz.underlying32 Tryz.underlying3
theorem iK{b off:Nat}{cs:List aOj}{w:aOi}(ho:aZ w b cs)(h:off+3<=cs.length){K:aOj->Prop}(hk:K (.agg ((cs.drop off).take 3).toArray)):vU pg 45 (.pointer (some ⟨b,off,none⟩)) w K:=FL Tryz.underlying45 rfl aAJ ho h hk
theorem Qn(n0:Int)(n1:Int)(n2:Int)(w:aOi):(bH 45 [(0,(.int .u32 n0)),(1,(.int .u32 n1)),(2,(.int .u32 n2))]).run pg w= .ok (.value (.agg #[(.int .u32 n0),(.int .u32 n1),(.int .u32 n2)])) w:=by kernel_rfl
theorem abG{k k':IntKind}{lo hi:Int}(a:Option Addr)(n c:Nat)(w:aOi)(h0:0<=lo)(h1:lo<=hi)(h2:hi<=c):(bP 22 (.slice a n c) (some (.int k lo)) (some (.int k' hi)) none).run pg w= .ok (.value (.slice (cW a c (lo.toNat) 1) (hi.toNat-lo.toNat) (c-lo.toNat))) w:=apZ Tryz.underlying22 GW _ n c h0 h1 h2
theorem F4 (b0:Bool)(n1:Int)(n2:Int)(w:aOi):(bH 65 [(0,(.bool b0)),(1,(.int .i64 n1)),(2,(.int .i64 n2))]).run pg w= .ok (.value (.agg #[(.bool b0),(.int .i64 n1),(.int .i64 n2)])) w:=by kernel_rfl
theorem aAK:(pg).info? 65=some Tryz.t65:=by kernel_rfl
theorem CA{w:aOi}{K:aOj->aOi->Prop}(hk:∀w',aZ w' w.heap.size [(.bool false),(.int .i64 0),(.int .i64 0)]->aN w w' bJ->w'.heap.size=w.heap.size+1->K (.pointer (some ⟨w.heap.size,0,none⟩)) w'):aA pg (bG 65) w K:=eK (i:=Tryz.t65) aAK rfl hk
theorem vD{b off:Nat}{cs:List aOj}{w:aOi}{xs:Array aOj}{K:aOj->aOi->Prop}(ho:aZ w b cs)(hs:xs.size=3)(hv:∀x∈xs.toList,one x=true)(h:off+3<=cs.length)(hk:∀w',aZ w' b (aT cs off xs.toList)->aN w w' (λx=>x=b)->w'.heap.size=w.heap.size->K undef w'):aA pg (aM 65 (.pointer (some ⟨b,off,none⟩)) (.agg xs)) w K:=fZ (v:= .agg xs) aAK ho hs hv h hk
theorem Ck:(pg).info? 3=some Tryz.t3:=by kernel_rfl
theorem Uj(b o:Nat)(w:aOi):(aJ 65 (.pointer (some ⟨b,o,none⟩)) 1).run pg w= .ok (.value (.pointer (some ⟨b,o+1,none⟩))) w:=dE (i:=1) Tryz.underlying65 rfl Ck (by decide) _
theorem qX{b off:Nat}{cs:List aOj}{w:aOi}{v:aOj}{K:aOj->aOi->Prop}(ho:aZ w b cs)(hv:one v=true)(h:off<cs.length)(hk:∀w',aZ w' b (cs.set off v)->aN w w' (λx=>x=b)->w'.heap.size=w.heap.size->K undef w'):aA pg (aM 3 (.pointer (some ⟨b,off,none⟩)) v) w K:=qY Ck rfl ho hv h hk
theorem Ul(b o:Nat)(w:aOi):(aJ 65 (.pointer (some ⟨b,o,none⟩)) 2).run pg w= .ok (.value (.pointer (some ⟨b,o+2,none⟩))) w:=dE (i:=2) Tryz.underlying65 rfl Ck (by decide) _
theorem aeN{b off:Nat}{cs:List aOj}{w:aOi}(ho:aZ w b cs)(h:off+3<=cs.length):(aH 65 (.pointer (some ⟨b,off,none⟩))).run pg w= .ok (.value (.agg ((cs.drop off).take 3).toArray)) w:=zP Tryz.underlying65 rfl aAK ho h
theorem Qm(p0:Option Addr)(n1:Int)(n2:Int)(w:aOi):(bH 56 [(0,(.pointer p0)),(1,(.int .u64 n1)),(2,(.int .i64 n2))]).run pg w= .ok (.value (.agg #[(.pointer p0),(.int .u64 n1),(.int .i64 n2),(.slice none 0 0),(.int .i64 0),(.int .i64 0)])) w:=by kernel_rfl
theorem aHd:(pg).info? 54=some Tryz.t54:=by kernel_rfl
theorem XM(b o:Nat)(w:aOi):(aJ 56 (.pointer (some ⟨b,o,none⟩)) 0).run pg w= .ok (.value (.pointer (some ⟨b,o,none⟩))) w:=dE (i:=0) Tryz.underlying56 rfl aHd (by decide) _
theorem Wm(x:Addr)(w:aOi):(aH 54 (.pointer (some x))).run pg w=ldC (w.cell? x) w (far pg 54 x w):=aaP Tryz.underlying54 rfl x w
theorem jD{ox oy:Operand}(x:Option Addr)(n c:Nat)(w:aOi):(aD .eql 22 ox oy (.slice x n c) (.slice none 0 0)).run pg w= .ok (.value (.bool x.isNone)) w:=aGE Tryz.underlying22 x n c
theorem Ov(b o:Nat)(w:aOi):(aJ 56 (.pointer (some ⟨b,o,none⟩)) 4).run pg w= .ok (.value (.pointer (some ⟨b,o+4,none⟩))) w:=dE (i:=4) Tryz.underlying56 rfl Ck (by decide) _
theorem tO(x:Addr)(w:aOi):(aH 3 (.pointer (some x))).run pg w=ldC (w.cell? x) w (far pg 3 x w):=aaP Tryz.underlying3 rfl x w
theorem Qy(b o:Nat)(w:aOi):(aJ 56 (.pointer (some ⟨b,o,none⟩)) 5).run pg w= .ok (.value (.pointer (some ⟨b,o+5,none⟩))) w:=dE (i:=5) Tryz.underlying56 rfl Ck (by decide) _
theorem Xl(w:aOi):(bH 77 []).run pg w= .ok (.value (.agg #[(.slice none 0 0)])) w:=by kernel_rfl
theorem SF{ox oy:Operand}(x:Option Addr)(w:aOi):(aD .eql 60 ox oy (.pointer x) (.pointer none)).run pg w= .ok (.value (.bool x.isNone)) w:=apY Tryz.underlying60 x
theorem Wg(b o:Nat)(w:aOi):(aJ 77 (.pointer (some ⟨b,o,none⟩)) 0).run pg w= .ok (.value (.pointer (some ⟨b,o,none⟩))) w:=dE (i:=0) Tryz.underlying77 rfl Yc (by decide) _
theorem pT{k:IntKind}(a:Int)(w:aOi):(cH 3 50 (.int k a)).run pg w= .ok (.value (.int .u64 (IntKind.u64.wrap a))) w:=Aj Tryz.underlying3 Tryz.underlying50
theorem lH{b off:Nat}{cs:List aOj}{w:aOi}{v:aOj}{K:aOj->aOi->Prop}(ho:aZ w b cs)(hv:one v=true)(h:off<cs.length)(hk:∀w',aZ w' b (cs.set off v)->aN w w' (λx=>x=b)->w'.heap.size=w.heap.size->K undef w'):aA pg (aM 22 (.pointer (some ⟨b,off,none⟩)) v) w K:=qY Yc rfl ho hv h hk
theorem tS{ty:TypeId}(x:Option Addr)(n c:Nat)(w:aOi):(dD .len #[80] ty [.slice x n c]).run pg w= .ok (.value (.int .i64 n)) w:=Wz Tryz.underlying80 x n c
theorem ahU:(pg).info? 84=some Tryz.t84:=by kernel_rfl
theorem Wj{k:IntKind}{a:Int}(b o n c:Nat)(w:aOi)(h0:0<=a)(h1:a<n):(aO 80 (.slice (some ⟨b,o,none⟩) n c) (.int k a)).run pg w= .ok (.value (.pointer (some ⟨b,o+a.toNat*3,none⟩))) w:=aaO rfl Tryz.underlying80 ahU b o n c h0 h1
theorem aaA{b off:Nat}{l:List aOj}{w:aOi}(hl:l.length=3)(h:∀j,j<l.length->w.cell? ⟨b,off+j,none⟩=l[j]?):(aH 84 (.pointer (some ⟨b,off,none⟩))).run pg w= .ok (.value (.agg l.toArray)) w:=OV Tryz.underlying84 rfl ahU hl.symm h
theorem Ez{b off:Nat}{cs:List aOj}{w:aOi}(ho:aZ w b cs)(h:off+3<=cs.length):(aH 84 (.pointer (some ⟨b,off,none⟩))).run pg w= .ok (.value (.agg ((cs.drop off).take 3).toArray)) w:=zP Tryz.underlying84 rfl ahU ho h
theorem GF{w:aOi}{K:aOj->aOi->Prop}(hk:∀w',aZ w' w.heap.size [(.int .u32 0),(.int .u32 0),(.int .u32 0)]->aN w w' bJ->w'.heap.size=w.heap.size+1->K (.pointer (some ⟨w.heap.size,0,none⟩)) w'):aA pg (bG 84) w K:=eK (i:=Tryz.t84) ahU rfl hk
theorem EP{b off:Nat}{cs:List aOj}{w:aOi}{xs:Array aOj}{K:aOj->aOi->Prop}(ho:aZ w b cs)(hs:xs.size=3)(hv:∀x∈xs.toList,one x=true)(h:off+3<=cs.length)(hk:∀w',aZ w' b (aT cs off xs.toList)->aN w w' (λx=>x=b)->w'.heap.size=w.heap.size->K undef w'):aA pg (aM 84 (.pointer (some ⟨b,off,none⟩)) (.agg xs)) w K:=fZ (v:= .agg xs) ahU ho hs hv h hk
theorem IZ:(pg).info? 38=some Tryz.t38:=by kernel_rfl
theorem Ll(b o:Nat)(w:aOi):(aJ 84 (.pointer (some ⟨b,o,none⟩)) 0).run pg w= .ok (.value (.pointer (some ⟨b,o,none⟩))) w:=dE (i:=0) Tryz.underlying84 rfl IZ (by decide) _
theorem jK(x:Addr)(w:aOi):(aH 38 (.pointer (some x))).run pg w=ldC (w.cell? x) w (far pg 38 x w):=aaP Tryz.underlying38 rfl x w
theorem akP{k:IntKind}(a:Int)(w:aOi):(cH 38 3 (.int k a)).run pg w= .ok (.value (.int .i64 (IntKind.i64.wrap a))) w:=Aj Tryz.underlying38 Tryz.underlying3
theorem Qx(b o:Nat)(w:aOi):(aJ 84 (.pointer (some ⟨b,o,none⟩)) 1).run pg w= .ok (.value (.pointer (some ⟨b,o+1,none⟩))) w:=dE (i:=1) Tryz.underlying84 rfl IZ (by decide) _
theorem Ou(b o:Nat)(w:aOi):(aJ 84 (.pointer (some ⟨b,o,none⟩)) 2).run pg w= .ok (.value (.pointer (some ⟨b,o+2,none⟩))) w:=dE (i:=2) Tryz.underlying84 rfl IZ (by decide) _
theorem EO{b off:Nat}{cs:List aOj}{w:aOi}{v:aOj}{K:aOj->aOi->Prop}(ho:aZ w b cs)(hv:one v=true)(h:off<cs.length)(hk:∀w',aZ w' b (cs.set off v)->aN w w' (λx=>x=b)->w'.heap.size=w.heap.size->K undef w'):aA pg (aM 38 (.pointer (some ⟨b,off,none⟩)) v) w K:=qY IZ rfl ho hv h hk
theorem Rh{n:Nat}{ps:List (Nat×aOj)}{cells:Array aOj}{w:aOi}(h1:¬n*1>2^24)(h0:¬n*1=0)(hf:Go.Instr.fill (λj=>some (j*1,1)) ((Array.range (n*1)).map ((Tryz.t22.zero.get!).cells[·%(Tryz.t22.zero.get!).cells.size]!)) ps=some cells){K:aOj->aOi->Prop}(hk:∀w',aZ w' w.heap.size cells.toList->aN w w' bJ->w'.heap.size=w.heap.size+1->K (.slice (some ⟨w.heap.size,0,none⟩) n n) w'):aA pg (bT 137 n ps) w K:=JD (i:=Tryz.t22) Tryz.underlying137 Yc rfl h1 h0 hf hk
theorem aGf:(pg).info? 4=some Tryz.t4:=by kernel_rfl
theorem Uk(b o:Nat)(w:aOi):(aJ 65 (.pointer (some ⟨b,o,none⟩)) 0).run pg w= .ok (.value (.pointer (some ⟨b,o,none⟩))) w:=dE (i:=0) Tryz.underlying65 rfl aGf (by decide) _
theorem aGg(x:Addr)(w:aOi):(aH 4 (.pointer (some x))).run pg w=ldC (w.cell? x) w (far pg 4 x w):=aaP Tryz.underlying4 rfl x w
theorem Ql(n0:Int)(n1:Int)(n2:Int)(n3:Int)(w:aOi):(bH 90 [(0,(.int .u64 n0)),(1,(.int .u64 n1)),(2,(.int .u64 n2)),(3,(.int .u64 n3))]).run pg w= .ok (.value (.agg #[(.int .u64 n0),(.int .u64 n1),(.int .u64 n2),(.int .u64 n3)])) w:=by kernel_rfl
theorem akI(aFn aFo aFp aKa:aOj)(w:aOi):(bH 93 [(0,(.agg #[aFn,aFo,aFp,aKa]))]).run pg w= .ok (.value (.agg #[aFn,aFo,aFp,aKa,(.int .u8 0),(.int .u8 0),(.int .u8 0),(.int .u8 0),(.int .u8 0),(.int .u8 0),(.int .u8 0),(.int .u8 0),(.int .u8 0),(.int .u8 0),(.int .u8 0),(.int .u8 0),(.int .u8 0),(.int .u8 0),(.int .u8 0),(.int .u8 0),(.int .u8 0),(.int .u8 0),(.int .u8 0),(.int .u8 0),(.int .u8 0),(.int .u8 0),(.int .u8 0),(.int .u8 0),(.int .u8 0),(.int .u8 0),(.int .u8 0),(.int .u8 0),(.int .u8 0),(.int .u8 0),(.int .u8 0),(.int .u8 0),(.int .i64 0),(.int .u64 0)])) w:=by kernel_rfl
theorem aeV{ox oy:Operand}(x:Option Addr)(w:aOi):(aD .eql 68 ox oy (.pointer x) (.pointer none)).run pg w= .ok (.value (.bool x.isNone)) w:=apY Tryz.underlying68 x
theorem ahT:(pg).info? 32=some Tryz.t32:=by kernel_rfl
theorem adY(b o:Nat)(w:aOi):(aJ 93 (.pointer (some ⟨b,o,none⟩)) 3).run pg w= .ok (.value (.pointer (some ⟨b,o+37,none⟩))) w:=dE (i:=3) Tryz.underlying93 rfl ahT (by decide) _
theorem aBU(x:Addr)(w:aOi):(aH 32 (.pointer (some x))).run pg w=ldC (w.cell? x) w (far pg 32 x w):=aaP Tryz.underlying32 rfl x w
theorem H6 {b off:Nat}{cs:List aOj}{w:aOi}{v:aOj}{K:aOj->aOi->Prop}(ho:aZ w b cs)(hv:one v=true)(h:off<cs.length)(hk:∀w',aZ w' b (cs.set off v)->aN w w' (λx=>x=b)->w'.heap.size=w.heap.size->K undef w'):aA pg (aM 32 (.pointer (some ⟨b,off,none⟩)) v) w K:=qY ahT rfl ho hv h hk
theorem aJE:(pg).info? 91=some Tryz.t91:=by kernel_rfl
theorem ZR(b o:Nat)(w:aOi):(aJ 93 (.pointer (some ⟨b,o,none⟩)) 1).run pg w= .ok (.value (.pointer (some ⟨b,o+4,none⟩))) w:=dE (i:=1) Tryz.underlying93 rfl aJE (by decide) _
theorem akR(b o:Nat)(w:aOi):(aJ 93 (.pointer (some ⟨b,o,none⟩)) 2).run pg w= .ok (.value (.pointer (some ⟨b,o+36,none⟩))) w:=dE (i:=2) Tryz.underlying93 rfl Ck (by decide) _
theorem abF{k:IntKind}{lo:Int}(b o:Nat)(w:aOi)(h0:0<=lo)(h1:lo<=32):(bP 91 (.pointer (some ⟨b,o,none⟩)) (some (.int k lo)) none none).run pg w= .ok (.value (.slice (some (hJ ⟨b,o,none⟩ 32 (lo.toNat) 1)) (32-lo.toNat) (32-lo.toNat))) w:=auR Tryz.underlying91 GW _ h0 (by simpa using h1)
theorem Rx{ty:TypeId}{w:aOi}{b off dl c:Nat}{cs:List aOj}(ho:aZ w b cs)(hl:off+dl<=cs.length){v:aOj}{l:List aOj}(h:Sl w v l)(hv:∀x∈l,one x=true){K:aOj->aOi->Prop}(hk:∀w',aZ w' b (aT cs off (l.take (min l.length dl)))->aN w w' (λx=>x=b)->w'.heap.size=w.heap.size->K (.int .i64 (min l.length dl:Nat)) w'):aA pg (dD .copy #[22,22] ty [.slice (some ⟨b,off,none⟩) dl c,v]) w K:=avN Tryz.underlying22 GW rfl ho hl h hv hk
theorem gP{k:IntKind}{lo:Int}(a:Option Addr)(n c:Nat)(w:aOi)(h0:0<=lo)(h1:lo<=n):(bP 22 (.slice a n c) (some (.int k lo)) none none).run pg w= .ok (.value (.slice (cW a c (lo.toNat) 1) (n-lo.toNat) (c-lo.toNat))) w:=ayX Tryz.underlying22 GW _ n c h0 h1
theorem aHe:(pg).info? 90=some Tryz.t90:=by kernel_rfl
theorem akS(b o:Nat)(w:aOi):(aJ 93 (.pointer (some ⟨b,o,none⟩)) 0).run pg w= .ok (.value (.pointer (some ⟨b,o,none⟩))) w:=dE (i:=0) Tryz.underlying93 rfl aHe (by decide) _
theorem akZ{k:IntKind}{a:Int}(b o:Nat)(w:aOi)(h0:0<=a)(h1:a<4):(aO 90 (.pointer (some ⟨b,o,none⟩)) (.int k a)).run pg w= .ok (.value (.pointer (some ⟨b,o+a.toNat,none⟩))) w:=H5 rfl Tryz.underlying90 ahT b o h0 (by simpa using h1)
theorem WO{k k':IntKind}{lo hi:Int}(b o:Nat)(w:aOi)(h0:0<=lo)(h1:lo<=hi)(h2:hi<=32):(bP 91 (.pointer (some ⟨b,o,none⟩)) (some (.int k lo)) (some (.int k' hi)) none).run pg w= .ok (.value (.slice (some (hJ ⟨b,o,none⟩ 32 (lo.toNat) 1)) (hi.toNat-lo.toNat) (32-lo.toNat))) w:=VB Tryz.underlying91 GW _ h0 h1 (by simpa using h2)
theorem abE{k:IntKind}{hi:Int}(b o:Nat)(w:aOi)(h0:0<=hi)(h1:hi<=32):(bP 91 (.pointer (some ⟨b,o,none⟩)) none (some (.int k hi)) none).run pg w= .ok (.value (.slice (some (hJ ⟨b,o,none⟩ 32 (0) 1)) (hi.toNat-0) (32-0))) w:=SI Tryz.underlying91 GW _ h0 (by simpa using h1)
theorem AW(x:Addr)(w:aOi):(aH 5 (.pointer (some x))).run pg w=ldC (w.cell? x) w (far pg 5 x w):=aaP Tryz.underlying5 rfl x w
theorem adV{k:IntKind}(a:Int)(w:aOi):(cH 5 32 (.int k a)).run pg w= .ok (.value (.int .u64 (IntKind.u64.wrap a))) w:=Aj Tryz.underlying5 Tryz.underlying32
theorem VV(a0:Option Addr)(l0 c0:Nat)(w:aOi):(bH 97 [(0,(.slice a0 l0 c0))]).run pg w= .ok (.value (.agg #[(.slice a0 l0 c0),(.int .i64 0)])) w:=by kernel_rfl
theorem SE{ox oy:Operand}(x:Option Addr)(w:aOi):(aD .eql 54 ox oy (.pointer x) (.pointer none)).run pg w= .ok (.value (.bool x.isNone)) w:=apY Tryz.underlying54 x
theorem We(b o:Nat)(w:aOi):(aJ 97 (.pointer (some ⟨b,o,none⟩)) 0).run pg w= .ok (.value (.pointer (some ⟨b,o,none⟩))) w:=dE (i:=0) Tryz.underlying97 rfl Yc (by decide) _
theorem aD3:(pg).info? 24=some Tryz.t24:=by kernel_rfl
theorem Wf(b o:Nat)(w:aOi):(aJ 97 (.pointer (some ⟨b,o,none⟩)) 1).run pg w= .ok (.value (.pointer (some ⟨b,o+1,none⟩))) w:=dE (i:=1) Tryz.underlying97 rfl aD3 (by decide) _
theorem apF(x:Addr)(w:aOi):(aH 24 (.pointer (some x))).run pg w=ldC (w.cell? x) w (far pg 24 x w):=aaP Tryz.underlying24 rfl x w
theorem aoY:(pg).info? 101=some Tryz.t101:=by kernel_rfl
theorem Be{w:aOi}{K:aOj->aOi->Prop}(hk:∀w',aZ w' w.heap.size [(.int .u64 0),(.int .u64 0),(.bool false),(.bool false)]->aN w w' bJ->w'.heap.size=w.heap.size+1->K (.pointer (some ⟨w.heap.size,0,none⟩)) w'):aA pg (bG 101) w K:=eK (i:=Tryz.t101) aoY rfl hk
theorem iV{b off:Nat}{cs:List aOj}{w:aOi}{xs:Array aOj}{K:aOj->aOi->Prop}(ho:aZ w b cs)(hs:xs.size=4)(hv:∀x∈xs.toList,one x=true)(h:off+4<=cs.length)(hk:∀w',aZ w' b (aT cs off xs.toList)->aN w w' (λx=>x=b)->w'.heap.size=w.heap.size->K undef w'):aA pg (aM 101 (.pointer (some ⟨b,off,none⟩)) (.agg xs)) w K:=fZ (v:= .agg xs) aoY ho hs hv h hk
theorem WR{b off:Nat}{cs:List aOj}{w:aOi}{v:aOj}{K:aOj->aOi->Prop}(ho:aZ w b cs)(hv:one v=true)(h:off<cs.length)(hk:∀w',aZ w' b (cs.set off v)->aN w w' (λx=>x=b)->w'.heap.size=w.heap.size->K undef w'):aA pg (aM 54 (.pointer (some ⟨b,off,none⟩)) v) w K:=qY aHd rfl ho hv h hk
theorem tM(b o:Nat)(w:aOi):(aJ 101 (.pointer (some ⟨b,o,none⟩)) 0).run pg w= .ok (.value (.pointer (some ⟨b,o,none⟩))) w:=dE (i:=0) Tryz.underlying101 rfl ahT (by decide) _
theorem Ow(b o:Nat)(w:aOi):(aJ 56 (.pointer (some ⟨b,o,none⟩)) 1).run pg w= .ok (.value (.pointer (some ⟨b,o+1,none⟩))) w:=dE (i:=1) Tryz.underlying56 rfl ahT (by decide) _
theorem Qz(b o:Nat)(w:aOi):(aJ 101 (.pointer (some ⟨b,o,none⟩)) 2).run pg w= .ok (.value (.pointer (some ⟨b,o+2,none⟩))) w:=dE (i:=2) Tryz.underlying101 rfl aGf (by decide) _
theorem RL(b o:Nat)(w:aOi):(aJ 101 (.pointer (some ⟨b,o,none⟩)) 1).run pg w= .ok (.value (.pointer (some ⟨b,o+1,none⟩))) w:=dE (i:=1) Tryz.underlying101 rfl ahT (by decide) _
theorem RK(b o:Nat)(w:aOi):(aJ 56 (.pointer (some ⟨b,o,none⟩)) 2).run pg w= .ok (.value (.pointer (some ⟨b,o+2,none⟩))) w:=dE (i:=2) Tryz.underlying56 rfl Ck (by decide) _
theorem Xm(aFn aFo aFp:aOj)(w:aOi):(bH 110 [(2,(.agg #[aFn,aFo,aFp]))]).run pg w= .ok (.value (.agg #[(.slice none 0 0),(.int .i64 0),(.slice none 0 0),(.int .i64 0),(.slice none 0 0),(.int .i64 0),(.slice none 0 0),aFn,aFo,aFp])) w:=by kernel_rfl
theorem aoZ:(pg).info? 110=some Tryz.t110:=by kernel_rfl
theorem Pl{w:aOi}{K:aOj->aOi->Prop}(hk:∀w',aZ w' w.heap.size [(.slice none 0 0),(.int .i64 0),(.slice none 0 0),(.int .i64 0),(.slice none 0 0),(.int .i64 0),(.slice none 0 0),(.int .u32 0),(.int .u32 0),(.int .u32 0)]->aN w w' bJ->w'.heap.size=w.heap.size+1->K (.pointer (some ⟨w.heap.size,0,none⟩)) w'):aA pg (bG 110) w K:=eK (i:=Tryz.t110) aoZ rfl hk
theorem fY{b off:Nat}{cs:List aOj}{w:aOi}{xs:Array aOj}{K:aOj->aOi->Prop}(ho:aZ w b cs)(hs:xs.size=10)(hv:∀x∈xs.toList,one x=true)(h:off+10<=cs.length)(hk:∀w',aZ w' b (aT cs off xs.toList)->aN w w' (λx=>x=b)->w'.heap.size=w.heap.size->K undef w'):aA pg (aM 110 (.pointer (some ⟨b,off,none⟩)) (.agg xs)) w K:=fZ (v:= .agg xs) aoZ ho hs hv h hk
theorem EA{b off:Nat}{cs:List aOj}{w:aOi}(ho:aZ w b cs)(h:off+10<=cs.length):(aH 110 (.pointer (some ⟨b,off,none⟩))).run pg w= .ok (.value (.agg ((cs.drop off).take 10).toArray)) w:=zP Tryz.underlying110 rfl aoZ ho h
theorem Um(b o:Nat)(w:aOi):(aJ 101 (.pointer (some ⟨b,o,none⟩)) 3).run pg w= .ok (.value (.pointer (some ⟨b,o+3,none⟩))) w:=dE (i:=3) Tryz.underlying101 rfl aGf (by decide) _
theorem Gl{w:aOi}{K:aOj->aOi->Prop}(hk:∀w',Mp w' w.heap.size (XD (n:=4)) ([]:List (Qb 4×aOj))->aN w w' bJ->w'.heap.size=w.heap.size+1->K (.map (some w.heap.size)) w'):aA pg (abC 116 none) w K:=aCE _ hk
theorem M6 {k:IntKind}{n:Int}{w:aOi}{K:aOj->aOi->Prop}(h0:0<=n)(hn:8*n<=2^48)(hk:∀w',aZ w' w.heap.size (List.replicate n.toNat (.int .i64 0))->aN w w' bJ->w'.heap.size=w.heap.size+1->K (.slice (some ⟨w.heap.size,0,none⟩) n.toNat n.toNat) w'):aA pg (iS 117 (.int k n) (.int k n)) w K:=ajJ (i:=Tryz.t3) Tryz.underlying117 Ck rfl rfl rfl h0 hn (by omega) hk
theorem JY(a0:Option Addr)(l0 c0:Nat)(n1:Int)(m2:Option Nat)(a3:Option Addr)(l3 c3:Nat)(n4:Int)(w:aOi):(bH 119 [(0,(.slice a0 l0 c0)),(1,(.int .i64 n1)),(2,(.map m2)),(3,(.slice a3 l3 c3)),(4,(.int .i64 n4))]).run pg w= .ok (.value (.agg #[(.slice a0 l0 c0),(.int .i64 n1),(.map m2),(.slice a3 l3 c3),(.int .i64 n4)])) w:=by kernel_rfl
theorem Fy{k:IntKind}(a:Int)(w:aOi):(cH 3 38 (.int k a)).run pg w= .ok (.value (.int .u32 (IntKind.u32.wrap a))) w:=Aj Tryz.underlying3 Tryz.underlying38
theorem Qk(n0:Int)(n1:Int)(n2:Int)(w:aOi):(bH 84 [(0,(.int .u32 n0)),(1,(.int .u32 n1)),(2,(.int .u32 n2))]).run pg w= .ok (.value (.agg #[(.int .u32 n0),(.int .u32 n1),(.int .u32 n2)])) w:=by kernel_rfl
theorem VW{n:Nat}{ps:List (Nat×aOj)}{cells:Array aOj}{w:aOi}(h1:¬n*3>2^24)(h0:¬n*3=0)(hf:Go.Instr.fill (λj=>some (j*3,3)) ((Array.range (n*3)).map ((Tryz.t84.zero.get!).cells[·%(Tryz.t84.zero.get!).cells.size]!)) ps=some cells){K:aOj->aOi->Prop}(hk:∀w',aZ w' w.heap.size cells.toList->aN w w' bJ->w'.heap.size=w.heap.size+1->K (.slice (some ⟨w.heap.size,0,none⟩) n n) w'):aA pg (bT 80 n ps) w K:=JD (i:=Tryz.t84) Tryz.underlying80 ahU rfl h1 h0 hf hk
theorem Bx{base n m:Nat}{ty:TypeId}{w:aOi}{v x:aOj}{l news:List aOj}(h:oF w base 3 v n l)(hx:Cl w 3 x m news)(hone:∀y∈news,one y=true)(hb:base<=w.heap.size)(hbytes:(n+m)*12<=140737488355328){K:aOj->aOi->Prop}(hk:∀v' w',oF w' base 3 v' (n+m) (l++news)->aN w w' (λy=>base<=y)->K v' w'):aA pg (dD .append #[80,80] ty [v,x]) w K:=ajI (i:=Tryz.t84) Tryz.underlying80 Tryz.underlying80 ahU rfl rfl rfl h hx hone hb (by omega) hbytes (by decide) hk
theorem Xk(n0:Int)(w:aOi):(bH 84 [(0,(.int .u32 n0))]).run pg w= .ok (.value (.agg #[(.int .u32 n0),(.int .u32 0),(.int .u32 0)])) w:=by kernel_rfl
theorem abV{w:aOi}{K:aOj->aOi->Prop}(hk:∀w',aZ w' w.heap.size [(.slice none 0 0)]->aN w w' bJ->w'.heap.size=w.heap.size+1->K (.pointer (some ⟨w.heap.size,0,none⟩)) w'):aA pg (bG 22) w K:=eK (i:=Tryz.t22) Yc rfl hk
theorem apM{k:IntKind}{n:Int}{w:aOi}{K:aOj->aOi->Prop}(h0:0<=n)(hn:4*n<=2^48)(hk:∀w',aZ w' w.heap.size (List.replicate n.toNat (.int .u32 0))->aN w w' bJ->w'.heap.size=w.heap.size+1->K (.slice (some ⟨w.heap.size,0,none⟩) n.toNat n.toNat) w'):aA pg (iS 128 (.int k n) (.int k n)) w K:=ajJ (i:=Tryz.t38) Tryz.underlying128 IZ rfl rfl rfl h0 hn (by omega) hk
theorem eI{k:IntKind}{a:Int}(b o n c:Nat)(w:aOi)(h0:0<=a)(h1:a<n):(aO 128 (.slice (some ⟨b,o,none⟩) n c) (.int k a)).run pg w= .ok (.value (.pointer (some ⟨b,o+a.toNat,none⟩))) w:=TN rfl Tryz.underlying128 IZ b o n c h0 h1
theorem apC:(pg).info? 131=some Tryz.t131:=by kernel_rfl
theorem Fw{w:aOi}{K:aOj->aOi->Prop}(hk:∀w',aZ w' w.heap.size [(.slice none 0 0),(.slice none 0 0),(.slice none 0 0)]->aN w w' bJ->w'.heap.size=w.heap.size+1->K (.pointer (some ⟨w.heap.size,0,none⟩)) w'):aA pg (bG 131) w K:=eK (i:=Tryz.t131) apC rfl hk
theorem JC{b off:Nat}{cs:List aOj}{w:aOi}{xs:Array aOj}{K:aOj->aOi->Prop}(ho:aZ w b cs)(hs:xs.size=3)(hv:∀x∈xs.toList,one x=true)(h:off+3<=cs.length)(hk:∀w',aZ w' b (aT cs off xs.toList)->aN w w' (λx=>x=b)->w'.heap.size=w.heap.size->K undef w'):aA pg (aM 131 (.pointer (some ⟨b,off,none⟩)) (.agg xs)) w K:=fZ (v:= .agg xs) apC ho hs hv h hk
theorem aD1:(pg).info? 108=some Tryz.t108:=by kernel_rfl
theorem TV{w:aOi}{K:aOj->aOi->Prop}(hk:∀w',aZ w' w.heap.size [(.int .i64 0),(.slice none 0 0),(.int .i64 0),(.slice none 0 0),(.int .i64 0),(.slice none 0 0)]->aN w w' bJ->w'.heap.size=w.heap.size+1->K (.pointer (some ⟨w.heap.size,0,none⟩)) w'):aA pg (bG 108) w K:=eK (i:=Tryz.t108) aD1 rfl hk
theorem apA:(pg).info? 117=some Tryz.t117:=by kernel_rfl
theorem akX{k:IntKind}{a:Int}(b o:Nat)(w:aOi)(h0:0<=a)(h1:a<3):(aO 131 (.pointer (some ⟨b,o,none⟩)) (.int k a)).run pg w= .ok (.value (.pointer (some ⟨b,o+a.toNat,none⟩))) w:=H5 rfl Tryz.underlying131 apA b o h0 (by simpa using h1)
theorem aBT(x:Addr)(w:aOi):(aH 117 (.pointer (some x))).run pg w=ldC (w.cell? x) w (far pg 117 x w):=aaP Tryz.underlying117 rfl x w
theorem ahR:(pg).info? 106=some Tryz.t106:=by kernel_rfl
theorem pJ{w:aOi}{K:aOj->aOi->Prop}(hk:∀w',aZ w' w.heap.size [(.int .i64 0),(.slice none 0 0)]->aN w w' bJ->w'.heap.size=w.heap.size+1->K (.pointer (some ⟨w.heap.size,0,none⟩)) w'):aA pg (bG 106) w K:=eK (i:=Tryz.t106) ahR rfl hk
theorem fT{b off:Nat}{cs:List aOj}{w:aOi}{xs:Array aOj}{K:aOj->aOi->Prop}(ho:aZ w b cs)(hs:xs.size=2)(hv:∀x∈xs.toList,one x=true)(h:off+2<=cs.length)(hk:∀w',aZ w' b (aT cs off xs.toList)->aN w w' (λx=>x=b)->w'.heap.size=w.heap.size->K undef w'):aA pg (aM 106 (.pointer (some ⟨b,off,none⟩)) (.agg xs)) w K:=fZ (v:= .agg xs) ahR ho hs hv h hk
theorem vM{b off:Nat}{cs:List aOj}{w:aOi}(ho:aZ w b cs)(h:off+2<=cs.length):(aH 106 (.pointer (some ⟨b,off,none⟩))).run pg w= .ok (.value (.agg ((cs.drop off).take 2).toArray)) w:=zP Tryz.underlying106 rfl ahR ho h
theorem Uq{k:IntKind}{a:Int}(b o:Nat)(w:aOi)(h0:0<=a)(h1:a<3):(aO 108 (.pointer (some ⟨b,o,none⟩)) (.int k a)).run pg w= .ok (.value (.pointer (some ⟨b,o+a.toNat*2,none⟩))) w:=aCj rfl Tryz.underlying108 ahR b o h0 (by simpa using h1)
theorem I0 {b off:Nat}{cs:List aOj}{w:aOi}(ho:aZ w b cs)(h:off+3<=cs.length):(aH 131 (.pointer (some ⟨b,off,none⟩))).run pg w= .ok (.value (.agg ((cs.drop off).take 3).toArray)) w:=zP Tryz.underlying131 rfl apC ho h
theorem Si{b off:Nat}{cs:List aOj}{w:aOi}(ho:aZ w b cs)(h:off+6<=cs.length):(aH 108 (.pointer (some ⟨b,off,none⟩))).run pg w= .ok (.value (.agg ((cs.drop off).take 6).toArray)) w:=zP Tryz.underlying108 rfl aD1 ho h
theorem sN{ty:TypeId}(x:Option Addr)(n c:Nat)(w:aOi):(dD .len #[137] ty [.slice x n c]).run pg w= .ok (.value (.int .i64 n)) w:=Wz Tryz.underlying137 x n c
theorem nH{k:IntKind}{a:Int}(b o n c:Nat)(w:aOi)(h0:0<=a)(h1:a<n):(aO 137 (.slice (some ⟨b,o,none⟩) n c) (.int k a)).run pg w= .ok (.value (.pointer (some ⟨b,o+a.toNat,none⟩))) w:=TN rfl Tryz.underlying137 Yc b o n c h0 h1
theorem dY(n0:Int)(n1:Int)(n2:Int)(n3:Int)(w:aOi):(bH 139 [(0,(.int .i64 n0)),(1,(.int .i64 n1)),(2,(.int .i64 n2)),(3,(.int .i64 n3))]).run pg w= .ok (.value (.agg #[(.int .i64 n0),(.int .i64 n1),(.int .i64 n2),(.int .i64 n3)])) w:=by kernel_rfl
theorem qQ{k:IntKind}{a:Int}(cs:Array aOj)(w:aOi)(h0:0<=a)(h1:a<4):(HX 139 (.agg cs) (.int k a)).run pg w=ldC cs[a.toNat]? w (aDT pg 139 cs k a w):=apX Tryz.underlying139 Tryz.underlying3 rfl Ck rfl cs h0 (by simpa using h1)
theorem ahV{b off:Nat}{cs:List aOj}{w:aOi}(ho:aZ w b cs)(h:off+4<=cs.length):(aH 90 (.pointer (some ⟨b,off,none⟩))).run pg w= .ok (.value (.agg ((cs.drop off).take 4).toArray)) w:=zP Tryz.underlying90 rfl aHe ho h
theorem alB{k:IntKind}{a:Int}(cs:Array aOj)(w:aOi)(h0:0<=a)(h1:a<4):(HX 90 (.agg cs) (.int k a)).run pg w=ldC cs[a.toNat]? w (aDT pg 90 cs k a w):=apX Tryz.underlying90 Tryz.underlying32 rfl ahT rfl cs h0 (by simpa using h1)
theorem H0 {b off:Nat}{cs:List aOj}{w:aOi}{v:aOj}{K:aOj->aOi->Prop}(ho:aZ w b cs)(hv:one v=true)(h:off<cs.length)(hk:∀w',aZ w' b (cs.set off v)->aN w w' (λx=>x=b)->w'.heap.size=w.heap.size->K undef w'):aA pg (aM 24 (.pointer (some ⟨b,off,none⟩)) v) w K:=qY aD3 rfl ho hv h hk
theorem ajF{k k':IntKind}{hi mx:Int}(a:Option Addr)(n c:Nat)(w:aOi)(h0:0<=hi)(h1:hi<=mx)(h2:mx<=c):(bP 22 (.slice a n c) none (some (.int k hi)) (some (.int k' mx))).run pg w= .ok (.value (.slice (cW a mx.toNat 0 1) (hi.toNat-0) (mx.toNat-0))) w:=ayW Tryz.underlying22 GW a n c h0 h1 h2
theorem sM{b off:Nat}{cs:List aOj}{w:aOi}(ho:aZ w b cs)(h:off+4<=cs.length){K:aOj->Prop}(hk:K (.agg ((cs.drop off).take 4).toArray)):vU pg 101 (.pointer (some ⟨b,off,none⟩)) w K:=FL Tryz.underlying101 rfl aoY ho h hk
theorem Mj(w:aOi):(bH 101 []).run pg w= .ok (.value (.agg #[(.int .u64 0),(.int .u64 0),(.bool false),(.bool false)])) w:=by kernel_rfl
theorem Kg(b0:Bool)(w:aOi):(bH 101 [(3,(.bool b0))]).run pg w= .ok (.value (.agg #[(.int .u64 0),(.int .u64 0),(.bool false),(.bool b0)])) w:=by kernel_rfl
theorem aGR{b off:Nat}{cs:List aOj}{w:aOi}{v:aOj}{K:aOj->aOi->Prop}(ho:aZ w b cs)(hv:one v=true)(h:off<cs.length)(hk:∀w',aZ w' b (cs.set off v)->aN w w' (λx=>x=b)->w'.heap.size=w.heap.size->K undef w'):aA pg (aM 4 (.pointer (some ⟨b,off,none⟩)) v) w K:=qY aGf rfl ho hv h hk
theorem Z9 {b off:Nat}{cs:List aOj}{w:aOi}(ho:aZ w b cs)(h:off+4<=cs.length):(aH 101 (.pointer (some ⟨b,off,none⟩))).run pg w= .ok (.value (.agg ((cs.drop off).take 4).toArray)) w:=zP Tryz.underlying101 rfl aoY ho h
theorem mU{b off:Nat}{cs:List aOj}{w:aOi}(ho:aZ w b cs)(h:off+10<=cs.length){K:aOj->Prop}(hk:K (.agg ((cs.drop off).take 10).toArray)):vU pg 110 (.pointer (some ⟨b,off,none⟩)) w K:=FL Tryz.underlying110 rfl aoZ ho h hk
theorem Zv(w:aOi):(bH 110 []).run pg w= .ok (.value (.agg #[(.slice none 0 0),(.int .i64 0),(.slice none 0 0),(.int .i64 0),(.slice none 0 0),(.int .i64 0),(.slice none 0 0),(.int .u32 0),(.int .u32 0),(.int .u32 0)])) w:=by kernel_rfl
theorem ahS:(pg).info? 146=some Tryz.t146:=by kernel_rfl
theorem NS{w:aOi}{K:aOj->aOi->Prop}(hk:∀w',aZ w' w.heap.size [(.int .u8 0),(.int .u8 0),(.int .u8 0),(.int .u8 0)]->aN w w' bJ->w'.heap.size=w.heap.size+1->K (.pointer (some ⟨w.heap.size,0,none⟩)) w'):aA pg (bG 146) w K:=eK (i:=Tryz.t146) ahS rfl hk
theorem FV{b off:Nat}{cs:List aOj}{w:aOi}{xs:Array aOj}{K:aOj->aOi->Prop}(ho:aZ w b cs)(hs:xs.size=4)(hv:∀x∈xs.toList,one x=true)(h:off+4<=cs.length)(hk:∀w',aZ w' b (aT cs off xs.toList)->aN w w' (λx=>x=b)->w'.heap.size=w.heap.size->K undef w'):aA pg (aM 146 (.pointer (some ⟨b,off,none⟩)) (.agg xs)) w K:=fZ (v:= .agg xs) ahS ho hs hv h hk
theorem aH6:(pg).info? 116=some Tryz.t116:=by kernel_rfl
theorem RN(b o:Nat)(w:aOi):(aJ 119 (.pointer (some ⟨b,o,none⟩)) 2).run pg w= .ok (.value (.pointer (some ⟨b,o+2,none⟩))) w:=dE (i:=2) Tryz.underlying119 rfl aH6 (by decide) _
theorem Sh(x:Addr)(w:aOi):(aH 116 (.pointer (some x))).run pg w=ldC (w.cell? x) w (far pg 116 x w):=aaP Tryz.underlying116 rfl x w
theorem alD{b off:Nat}{l:List aOj}{w:aOi}(hl:l.length=4)(h:∀j,j<l.length->w.cell? ⟨b,off+j,none⟩=l[j]?):(aH 146 (.pointer (some ⟨b,off,none⟩))).run pg w= .ok (.value (.agg l.toArray)) w:=OV Tryz.underlying146 rfl ahS hl.symm h
theorem Lz{b off:Nat}{cs:List aOj}{w:aOi}(ho:aZ w b cs)(h:off+4<=cs.length):(aH 146 (.pointer (some ⟨b,off,none⟩))).run pg w= .ok (.value (.agg ((cs.drop off).take 4).toArray)) w:=zP Tryz.underlying146 rfl ahS ho h
theorem Gh{w:aOi}{m:Nat}{l:List (Qb 4×aOj)}(hm:Mp w m (XD (n:=4)) l)(k:Qb 4):(avD 116 (.map (some m)) ((XD (n:=4)) k) true).run pg w= .ok (.value (.tuple #[(assoc k l).getD (.int .i64 0),.bool (assoc k l).isSome])) w:=aIw Tryz.underlying116 Ck rfl (amR (n:=4) Tryz.underlying146 Tryz.underlying5 GW rfl) hm k
theorem QB(b o:Nat)(w:aOi):(aJ 119 (.pointer (some ⟨b,o,none⟩)) 3).run pg w= .ok (.value (.pointer (some ⟨b,o+3,none⟩))) w:=dE (i:=3) Tryz.underlying119 rfl apA (by decide) _
theorem iJ{k:IntKind}{a:Int}(b o n c:Nat)(w:aOi)(h0:0<=a)(h1:a<n):(aO 117 (.slice (some ⟨b,o,none⟩) n c) (.int k a)).run pg w= .ok (.value (.pointer (some ⟨b,o+a.toNat,none⟩))) w:=TN rfl Tryz.underlying117 Ck b o n c h0 h1
theorem SB{w:aOi}{m:Nat}{l:List (Qb 4×aOj)}(hm:Mp w m (XD (n:=4)) l)(k:Qb 4)(v:aOj){K:aOj->aOi->Prop}(hk:∀w',Mp w' m (XD (n:=4)) (upd k v l)->aN w w' (λy=>y=m)->w'.heap.size=w.heap.size->K undef w'):aA pg (ajA 116 (.map (some m)) ((XD (n:=4)) k) v) w K:=aCD Tryz.underlying116 (amR (n:=4) Tryz.underlying146 Tryz.underlying5 GW rfl) hm k v hk
theorem QC(b o:Nat)(w:aOi):(aJ 119 (.pointer (some ⟨b,o,none⟩)) 4).run pg w= .ok (.value (.pointer (some ⟨b,o+4,none⟩))) w:=dE (i:=4) Tryz.underlying119 rfl Ck (by decide) _
theorem Zw(w:aOi):(bH 45 []).run pg w= .ok (.value (.agg #[(.int .u32 0),(.int .u32 0),(.int .u32 0)])) w:=by kernel_rfl
theorem aeK{k:IntKind}{a:Int}(b o:Nat)(w:aOi)(h0:0<=a)(h1:a<3):(aO 45 (.pointer (some ⟨b,o,none⟩)) (.int k a)).run pg w= .ok (.value (.pointer (some ⟨b,o+a.toNat,none⟩))) w:=H5 rfl Tryz.underlying45 IZ b o h0 (by simpa using h1)
theorem S8 {k k':IntKind}{lo hi:Int}(b o:Nat)(w:aOi)(h0:0<=lo)(h1:lo<=hi)(h2:hi<=3):(bP 45 (.pointer (some ⟨b,o,none⟩)) (some (.int k lo)) (some (.int k' hi)) none).run pg w= .ok (.value (.slice (some (hJ ⟨b,o,none⟩ 3 (lo.toNat) 1)) (hi.toNat-lo.toNat) (3-lo.toNat))) w:=VB Tryz.underlying45 IZ _ h0 h1 (by simpa using h2)
theorem WQ{k:IntKind}{hi:Int}(b o:Nat)(w:aOi)(h0:0<=hi)(h1:hi<=3):(bP 45 (.pointer (some ⟨b,o,none⟩)) none (some (.int k hi)) none).run pg w= .ok (.value (.slice (some (hJ ⟨b,o,none⟩ 3 (0) 1)) (hi.toNat-0) (3-0))) w:=SI Tryz.underlying45 IZ _ h0 (by simpa using h1)
theorem aoI{ty:TypeId}{w:aOi}{b off dl c:Nat}{cs:List aOj}(ho:aZ w b cs)(hl:off+dl<=cs.length){v:aOj}{l:List aOj}(h:Sl w v l)(hv:∀x∈l,one x=true){K:aOj->aOi->Prop}(hk:∀w',aZ w' b (aT cs off (l.take (min l.length dl)))->aN w w' (λx=>x=b)->w'.heap.size=w.heap.size->K (.int .i64 (min l.length dl:Nat)) w'):aA pg (dD .copy #[128,128] ty [.slice (some ⟨b,off,none⟩) dl c,v]) w K:=avN Tryz.underlying128 IZ rfl ho hl h hv hk
theorem jI{ty:TypeId}(x:Option Addr)(n c:Nat)(w:aOi):(dD .len #[128] ty [.slice x n c]).run pg w= .ok (.value (.int .i64 n)) w:=Wz Tryz.underlying128 x n c
theorem jR{k:IntKind}{hi:Int}(a:Option Addr)(n c:Nat)(w:aOi)(h0:0<=hi)(h1:hi<=c):(bP 128 (.slice a n c) none (some (.int k hi)) none).run pg w= .ok (.value (.slice (cW a c (0) 1) (hi.toNat-0) (c-0))) w:=WA Tryz.underlying128 IZ _ n c h0 h1
theorem vN{ty:TypeId}(x:Option Addr)(n c:Nat)(w:aOi):(dD .len #[117] ty [.slice x n c]).run pg w= .ok (.value (.int .i64 n)) w:=Wz Tryz.underlying117 x n c
theorem pU{k:IntKind}(a:Int)(w:aOi):(cH 3 5 (.int k a)).run pg w= .ok (.value (.int .u8 (IntKind.u8.wrap a))) w:=Aj Tryz.underlying3 Tryz.underlying5
theorem ahW{b off:Nat}{cs:List aOj}{w:aOi}(ho:aZ w b cs)(h:off+3<=cs.length){K:aOj->Prop}(hk:K (.agg ((cs.drop off).take 3).toArray)):vU pg 131 (.pointer (some ⟨b,off,none⟩)) w K:=FL Tryz.underlying131 rfl apC ho h hk
theorem alA{k:IntKind}{a:Int}(cs:Array aOj)(w:aOi)(h0:0<=a)(h1:a<3):(HX 44 (.agg cs) (.int k a)).run pg w=ldC cs[a.toNat]? w (aDT pg 44 cs k a w):=apX Tryz.underlying44 Tryz.underlying38 rfl IZ rfl cs h0 (by simpa using h1)
theorem aBp{n:Nat}{ps:List (Nat×aOj)}{cells:Array aOj}{w:aOi}(h1:¬n*1>2^24)(h0:¬n*1=0)(hf:Go.Instr.fill (λj=>some (j*1,1)) ((Array.range (n*1)).map ((Tryz.t3.zero.get!).cells[·%(Tryz.t3.zero.get!).cells.size]!)) ps=some cells){K:aOj->aOi->Prop}(hk:∀w',aZ w' w.heap.size cells.toList->aN w w' bJ->w'.heap.size=w.heap.size+1->K (.slice (some ⟨w.heap.size,0,none⟩) n n) w'):aA pg (bT 117 n ps) w K:=JD (i:=Tryz.t3) Tryz.underlying117 Ck rfl h1 h0 hf hk
theorem aCB{b off:Nat}{cs:List aOj}{w:aOi}{v:aOj}{K:aOj->aOi->Prop}(ho:aZ w b cs)(hv:one v=true)(h:off<cs.length)(hk:∀w',aZ w' b (cs.set off v)->aN w w' (λx=>x=b)->w'.heap.size=w.heap.size->K undef w'):aA pg (aM 117 (.pointer (some ⟨b,off,none⟩)) v) w K:=qY apA rfl ho hv h hk
theorem FM{b off:Nat}{cs:List aOj}{w:aOi}(ho:aZ w b cs)(h:off+2<=cs.length){K:aOj->Prop}(hk:K (.agg ((cs.drop off).take 2).toArray)):vU pg 106 (.pointer (some ⟨b,off,none⟩)) w K:=FL Tryz.underlying106 rfl ahR ho h hk
theorem akH(w:aOi):(bH 106 []).run pg w= .ok (.value (.agg #[(.int .i64 0),(.slice none 0 0)])) w:=by kernel_rfl
theorem aH7:(pg).info? 160=some Tryz.t160:=by kernel_rfl
theorem adK{w:aOi}{K:aOj->aOi->Prop}(hk:∀w',aZ w' w.heap.size [(.int .u32 0),(.int .u32 0),(.int .u32 0),(.int .u32 0),(.int .u32 0),(.int .u32 0),(.int .u32 0),(.int .u32 0),(.int .u32 0),(.int .u32 0),(.int .u32 0),(.int .u32 0),(.int .u32 0),(.int .u32 0),(.int .u32 0),(.int .u32 0),(.int .u32 0),(.int .u32 0),(.int .u32 0),(.int .u32 0),(.int .u32 0),(.int .u32 0),(.int .u32 0),(.int .u32 0),(.int .u32 0),(.int .u32 0),(.int .u32 0),(.int .u32 0),(.int .u32 0),(.int .u32 0),(.int .u32 0),(.int .u32 0),(.int .u32 0),(.int .u32 0),(.int .u32 0),(.int .u32 0),(.int .u32 0),(.int .u32 0),(.int .u32 0),(.int .u32 0),(.int .u32 0),(.int .u32 0),(.int .u32 0),(.int .u32 0),(.int .u32 0),(.int .u32 0),(.int .u32 0),(.int .u32 0),(.int .u32 0),(.int .u32 0),(.int .u32 0),(.int .u32 0),(.int .u32 0),(.int .u32 0),(.int .u32 0),(.int .u32 0),(.int .u32 0),(.int .u32 0),(.int .u32 0),(.int .u32 0),(.int .u32 0),(.int .u32 0),(.int .u32 0),(.int .u32 0),(.int .u32 0),(.int .u32 0),(.int .u32 0),(.int .u32 0),(.int .u32 0),(.int .u32 0),(.int .u32 0),(.int .u32 0),(.int .u32 0),(.int .u32 0),(.int .u32 0),(.int .u32 0),(.int .u32 0),(.int .u32 0),(.int .u32 0),(.int .u32 0),(.int .u32 0),(.int .u32 0),(.int .u32 0),(.int .u32 0),(.int .u32 0),(.int .u32 0),(.int .u32 0),(.int .u32 0),(.int .u32 0),(.int .u32 0),(.int .u32 0),(.int .u32 0),(.int .u32 0),(.int .u32 0),(.int .u32 0),(.int .u32 0),(.int .u32 0),(.int .u32 0),(.int .u32 0),(.int .u32 0),(.int .u32 0),(.int .u32 0),(.int .u32 0),(.int .u32 0),(.int .u32 0),(.int .u32 0),(.int .u32 0),(.int .u32 0),(.int .u32 0),(.int .u32 0),(.int .u32 0),(.int .u32 0),(.int .u32 0),(.int .u32 0),(.int .u32 0),(.int .u32 0),(.int .u32 0),(.int .u32 0),(.int .u32 0),(.int .u32 0),(.int .u32 0),(.int .u32 0),(.int .u32 0),(.int .u32 0),(.int .u32 0),(.int .u32 0),(.int .u32 0),(.int .u32 0),(.int .u32 0),(.int .u32 0),(.int .u32 0),(.int .u32 0),(.int .u32 0),(.int .u32 0),(.int .u32 0),(.int .u32 0),(.int .u32 0),(.int .u32 0),(.int .u32 0),(.int .u32 0),(.int .u32 0),(.int .u32 0),(.int .u32 0),(.int .u32 0),(.int .u32 0),(.int .u32 0),(.int .u32 0),(.int .u32 0),(.int .u32 0),(.int .u32 0),(.int .u32 0),(.int .u32 0),(.int .u32 0),(.int .u32 0),(.int .u32 0),(.int .u32 0),(.int .u32 0),(.int .u32 0),(.int .u32 0),(.int .u32 0),(.int .u32 0),(.int .u32 0),(.int .u32 0),(.int .u32 0),(.int .u32 0),(.int .u32 0),(.int .u32 0),(.int .u32 0),(.int .u32 0),(.int .u32 0),(.int .u32 0),(.int .u32 0),(.int .u32 0),(.int .u32 0),(.int .u32 0),(.int .u32 0),(.int .u32 0),(.int .u32 0),(.int .u32 0),(.int .u32 0),(.int .u32 0),(.int .u32 0),(.int .u32 0),(.int .u32 0),(.int .u32 0),(.int .u32 0),(.int .u32 0),(.int .u32 0),(.int .u32 0),(.int .u32 0),(.int .u32 0),(.int .u32 0),(.int .u32 0),(.int .u32 0),(.int .u32 0),(.int .u32 0),(.int .u32 0),(.int .u32 0),(.int .u32 0),(.int .u32 0),(.int .u32 0),(.int .u32 0),(.int .u32 0),(.int .u32 0),(.int .u32 0),(.int .u32 0),(.int .u32 0),(.int .u32 0),(.int .u32 0),(.int .u32 0),(.int .u32 0),(.int .u32 0),(.int .u32 0),(.int .u32 0),(.int .u32 0),(.int .u32 0),(.int .u32 0),(.int .u32 0),(.int .u32 0),(.int .u32 0),(.int .u32 0),(.int .u32 0),(.int .u32 0),(.int .u32 0),(.int .u32 0),(.int .u32 0),(.int .u32 0),(.int .u32 0),(.int .u32 0),(.int .u32 0),(.int .u32 0),(.int .u32 0),(.int .u32 0),(.int .u32 0),(.int .u32 0),(.int .u32 0),(.int .u32 0),(.int .u32 0),(.int .u32 0),(.int .u32 0),(.int .u32 0),(.int .u32 0),(.int .u32 0),(.int .u32 0),(.int .u32 0),(.int .u32 0),(.int .u32 0),(.int .u32 0),(.int .u32 0),(.int .u32 0),(.int .u32 0),(.int .u32 0),(.int .u32 0),(.int .u32 0),(.int .u32 0),(.int .u32 0)]->aN w w' bJ->w'.heap.size=w.heap.size+1->K (.pointer (some ⟨w.heap.size,0,none⟩)) w'):aA pg (bG 160) w K:=eK (i:=Tryz.t160) aH7 rfl hk
theorem aeJ{k:IntKind}{a:Int}(b o:Nat)(w:aOi)(h0:0<=a)(h1:a<256):(aO 160 (.pointer (some ⟨b,o,none⟩)) (.int k a)).run pg w= .ok (.value (.pointer (some ⟨b,o+a.toNat,none⟩))) w:=H5 rfl Tryz.underlying160 IZ b o h0 (by simpa using h1)
theorem apE:(pg).info? 162=some Tryz.t162:=by kernel_rfl
theorem kJ{w:aOi}{K:aOj->aOi->Prop}(hk:∀w',aZ w' w.heap.size [(.int .i64 0),(.slice none 0 0)]->aN w w' bJ->w'.heap.size=w.heap.size+1->K (.pointer (some ⟨w.heap.size,0,none⟩)) w'):aA pg (bG 162) w K:=eK (i:=Tryz.t162) apE rfl hk
theorem dW{b off:Nat}{cs:List aOj}{w:aOi}{xs:Array aOj}{K:aOj->aOi->Prop}(ho:aZ w b cs)(hs:xs.size=2)(hv:∀x∈xs.toList,one x=true)(h:off+2<=cs.length)(hk:∀w',aZ w' b (aT cs off xs.toList)->aN w w' (λx=>x=b)->w'.heap.size=w.heap.size->K undef w'):aA pg (aM 162 (.pointer (some ⟨b,off,none⟩)) (.agg xs)) w K:=fZ (v:= .agg xs) apE ho hs hv h hk
theorem QD(b o:Nat)(w:aOi):(aJ 162 (.pointer (some ⟨b,o,none⟩)) 1).run pg w= .ok (.value (.pointer (some ⟨b,o+1,none⟩))) w:=dE (i:=1) Tryz.underlying162 rfl apA (by decide) _
theorem fJ{b off:Nat}{cs:List aOj}{w:aOi}(ho:aZ w b cs)(h:off+2<=cs.length):(aH 162 (.pointer (some ⟨b,off,none⟩))).run pg w= .ok (.value (.agg ((cs.drop off).take 2).toArray)) w:=zP Tryz.underlying162 rfl apE ho h
theorem WN{k:IntKind}{hi:Int}(b o:Nat)(w:aOi)(h0:0<=hi)(h1:hi<=256):(bP 160 (.pointer (some ⟨b,o,none⟩)) none (some (.int k hi)) none).run pg w= .ok (.value (.slice (some (hJ ⟨b,o,none⟩ 256 (0) 1)) (hi.toNat-0) (256-0))) w:=SI Tryz.underlying160 IZ _ h0 (by simpa using h1)
theorem aH8:(pg).info? 172=some Tryz.t172:=by kernel_rfl
theorem awJ{w:aOi}{K:aOj->aOi->Prop}(hk:∀w',aZ w' w.heap.size [(.int .i64 0),(.int .i64 0),(.int .i64 0)]->aN w w' bJ->w'.heap.size=w.heap.size+1->K (.pointer (some ⟨w.heap.size,0,none⟩)) w'):aA pg (bG 172) w K:=eK (i:=Tryz.t172) aH8 rfl hk
theorem Zu(n0:Int)(n1:Int)(n2:Int)(w:aOi):(bH 172 [(0,(.int .i64 n0)),(1,(.int .i64 n1)),(2,(.int .i64 n2))]).run pg w= .ok (.value (.agg #[(.int .i64 n0),(.int .i64 n1),(.int .i64 n2)])) w:=by kernel_rfl
theorem axX{k:IntKind}{a:Int}(cs:Array aOj)(w:aOi)(h0:0<=a)(h1:a<3):(HX 172 (.agg cs) (.int k a)).run pg w=ldC cs[a.toNat]? w (aDT pg 172 cs k a w):=apX Tryz.underlying172 Tryz.underlying3 rfl Ck rfl cs h0 (by simpa using h1)
theorem axP{k:IntKind}{a:Int}(b o:Nat)(w:aOi)(h0:0<=a)(h1:a<3):(aO 172 (.pointer (some ⟨b,o,none⟩)) (.int k a)).run pg w= .ok (.value (.pointer (some ⟨b,o+a.toNat,none⟩))) w:=H5 rfl Tryz.underlying172 Ck b o h0 (by simpa using h1)
theorem aD4:(pg).info? 44=some Tryz.t44:=by kernel_rfl
theorem UQ{w:aOi}{K:aOj->aOi->Prop}(hk:∀w',aZ w' w.heap.size [(.int .u32 0),(.int .u32 0),(.int .u32 0)]->aN w w' bJ->w'.heap.size=w.heap.size+1->K (.pointer (some ⟨w.heap.size,0,none⟩)) w'):aA pg (bG 44) w K:=eK (i:=Tryz.t44) aD4 rfl hk
theorem Ta{b off:Nat}{cs:List aOj}{w:aOi}{xs:Array aOj}{K:aOj->aOi->Prop}(ho:aZ w b cs)(hs:xs.size=3)(hv:∀x∈xs.toList,one x=true)(h:off+3<=cs.length)(hk:∀w',aZ w' b (aT cs off xs.toList)->aN w w' (λx=>x=b)->w'.heap.size=w.heap.size->K undef w'):aA pg (aM 44 (.pointer (some ⟨b,off,none⟩)) (.agg xs)) w K:=fZ (v:= .agg xs) aD4 ho hs hv h hk
theorem akY{k:IntKind}{a:Int}(b o:Nat)(w:aOi)(h0:0<=a)(h1:a<3):(aO 44 (.pointer (some ⟨b,o,none⟩)) (.int k a)).run pg w= .ok (.value (.pointer (some ⟨b,o+a.toNat,none⟩))) w:=H5 rfl Tryz.underlying44 IZ b o h0 (by simpa using h1)
theorem ZQ(b o:Nat)(w:aOi):(aJ 106 (.pointer (some ⟨b,o,none⟩)) 0).run pg w= .ok (.value (.pointer (some ⟨b,o,none⟩))) w:=dE (i:=0) Tryz.underlying106 rfl Ck (by decide) _
theorem SH{ox oy:Operand}(x:Option Addr)(w:aOi):(aD .neq 60 ox oy (.pointer x) (.pointer none)).run pg w= .ok (.value (.bool (!x.isNone))) w:=aIx Tryz.underlying60 x
theorem PK{b off:Nat}{cs:List aOj}{w:aOi}(ho:aZ w b cs)(h:off+3<=cs.length){K:aOj->Prop}(hk:K (.agg ((cs.drop off).take 3).toArray)):vU pg 65 (.pointer (some ⟨b,off,none⟩)) w K:=FL Tryz.underlying65 rfl aAK ho h hk
theorem Pn(w:aOi):(bH 65 []).run pg w= .ok (.value (.agg #[(.bool false),(.int .i64 0),(.int .i64 0)])) w:=by kernel_rfl
theorem acA{k:IntKind}(a:Int)(w:aOi):(cH 50 3 (.int k a)).run pg w= .ok (.value (.int .i64 (IntKind.i64.wrap a))) w:=Aj Tryz.underlying50 Tryz.underlying3
theorem Vj{b off:Nat}{cs:List aOj}{w:aOi}(ho:aZ w b cs)(h:off+4<=cs.length){K:aOj->Prop}(hk:K (.agg ((cs.drop off).take 4).toArray)):vU pg 146 (.pointer (some ⟨b,off,none⟩)) w K:=FL Tryz.underlying146 rfl ahS ho h hk
theorem XQ(b o:Nat)(w:aOi):(aJ 119 (.pointer (some ⟨b,o,none⟩)) 0).run pg w= .ok (.value (.pointer (some ⟨b,o,none⟩))) w:=dE (i:=0) Tryz.underlying119 rfl Yc (by decide) _
theorem akG(w:aOi):(bH 146 []).run pg w= .ok (.value (.agg #[(.int .u8 0),(.int .u8 0),(.int .u8 0),(.int .u8 0)])) w:=by kernel_rfl
theorem aqH{w:aOi}(x:Option Addr)(n c:Nat)(h:4<=n):(aGJ 146 (.slice x n c)).run pg w= .ok (.value (.pointer x)) w:=aJQ Tryz.underlying146 x n c h
theorem Wh(b o:Nat)(w:aOi):(aJ 119 (.pointer (some ⟨b,o,none⟩)) 1).run pg w= .ok (.value (.pointer (some ⟨b,o+1,none⟩))) w:=dE (i:=1) Tryz.underlying119 rfl Ck (by decide) _
theorem ahX{b off:Nat}{cs:List aOj}{w:aOi}(ho:aZ w b cs)(h:off+3<=cs.length){K:aOj->Prop}(hk:K (.agg ((cs.drop off).take 3).toArray)):vU pg 44 (.pointer (some ⟨b,off,none⟩)) w K:=FL Tryz.underlying44 rfl aD4 ho h hk
theorem T4 (n0:Int)(n1:Int)(n2:Int)(w:aOi):(bH 44 [(0,(.int .u32 n0)),(1,(.int .u32 n1)),(2,(.int .u32 n2))]).run pg w= .ok (.value (.agg #[(.int .u32 n0),(.int .u32 n1),(.int .u32 n2)])) w:=by kernel_rfl
theorem lK{b off:Nat}{cs:List aOj}{w:aOi}(ho:aZ w b cs)(h:off+2<=cs.length){K:aOj->Prop}(hk:K (.agg ((cs.drop off).take 2).toArray)):vU pg 162 (.pointer (some ⟨b,off,none⟩)) w K:=FL Tryz.underlying162 rfl apE ho h hk
theorem axR:(pg).info? 190=some Tryz.t190:=by kernel_rfl
theorem apJ{b off:Nat}{l:List aOj}{w:aOi}(hl:l.length=36)(h:∀j,j<l.length->w.cell? ⟨b,off+j,none⟩=l[j]?):(aH 190 (.pointer (some ⟨b,off,none⟩))).run pg w= .ok (.value (.agg l.toArray)) w:=OV Tryz.underlying190 rfl axR hl.symm h
theorem arS{w:aOi}{K:aOj->aOi->Prop}(hk:∀w',aZ w' w.heap.size [(.int .i64 0),(.int .i64 0),(.int .i64 0),(.int .i64 0),(.int .i64 0),(.int .i64 0),(.int .i64 0),(.int .i64 0),(.int .i64 0),(.int .i64 0),(.int .i64 0),(.int .i64 0),(.int .i64 0),(.int .i64 0),(.int .i64 0),(.int .i64 0),(.int .i64 0),(.int .i64 0),(.int .i64 0),(.int .i64 0),(.int .i64 0),(.int .i64 0),(.int .i64 0),(.int .i64 0),(.int .i64 0),(.int .i64 0),(.int .i64 0),(.int .i64 0),(.int .i64 0),(.int .i64 0),(.int .i64 0),(.int .i64 0),(.int .i64 0),(.int .i64 0),(.int .i64 0),(.int .i64 0)]->aN w w' bJ->w'.heap.size=w.heap.size+1->K (.pointer (some ⟨w.heap.size,0,none⟩)) w'):aA pg (bG 190) w K:=eK (i:=Tryz.t190) axR rfl hk
theorem aqL{b off:Nat}{cs:List aOj}{w:aOi}{xs:Array aOj}{K:aOj->aOi->Prop}(ho:aZ w b cs)(hs:xs.size=36)(hv:∀x∈xs.toList,one x=true)(h:off+36<=cs.length)(hk:∀w',aZ w' b (aT cs off xs.toList)->aN w w' (λx=>x=b)->w'.heap.size=w.heap.size->K undef w'):aA pg (aM 190 (.pointer (some ⟨b,off,none⟩)) (.agg xs)) w K:=fZ (v:= .agg xs) axR ho hs hv h hk
theorem PZ(b o:Nat)(w:aOi):(bP 190 (.pointer (some ⟨b,o,none⟩)) none none none).run pg w= .ok (.value (.slice (some (hJ ⟨b,o,none⟩ 36 (0) 1)) (36-0) (36-0))) w:=De Tryz.underlying190 Ck _
theorem pM(n0:Int)(a1:Option Addr)(l1 c1:Nat)(w:aOi):(bH 162 [(0,(.int .i64 n0)),(1,(.slice a1 l1 c1))]).run pg w= .ok (.value (.agg #[(.int .i64 n0),(.slice a1 l1 c1)])) w:=by kernel_rfl
theorem axS:(pg).info? 191=some Tryz.t191:=by kernel_rfl
theorem apI{b off:Nat}{l:List aOj}{w:aOi}(hl:l.length=29)(h:∀j,j<l.length->w.cell? ⟨b,off+j,none⟩=l[j]?):(aH 191 (.pointer (some ⟨b,off,none⟩))).run pg w= .ok (.value (.agg l.toArray)) w:=OV Tryz.underlying191 rfl axS hl.symm h
theorem arR{w:aOi}{K:aOj->aOi->Prop}(hk:∀w',aZ w' w.heap.size [(.int .i64 0),(.int .i64 0),(.int .i64 0),(.int .i64 0),(.int .i64 0),(.int .i64 0),(.int .i64 0),(.int .i64 0),(.int .i64 0),(.int .i64 0),(.int .i64 0),(.int .i64 0),(.int .i64 0),(.int .i64 0),(.int .i64 0),(.int .i64 0),(.int .i64 0),(.int .i64 0),(.int .i64 0),(.int .i64 0),(.int .i64 0),(.int .i64 0),(.int .i64 0),(.int .i64 0),(.int .i64 0),(.int .i64 0),(.int .i64 0),(.int .i64 0),(.int .i64 0)]->aN w w' bJ->w'.heap.size=w.heap.size+1->K (.pointer (some ⟨w.heap.size,0,none⟩)) w'):aA pg (bG 191) w K:=eK (i:=Tryz.t191) axS rfl hk
theorem aqK{b off:Nat}{cs:List aOj}{w:aOi}{xs:Array aOj}{K:aOj->aOi->Prop}(ho:aZ w b cs)(hs:xs.size=29)(hv:∀x∈xs.toList,one x=true)(h:off+29<=cs.length)(hk:∀w',aZ w' b (aT cs off xs.toList)->aN w w' (λx=>x=b)->w'.heap.size=w.heap.size->K undef w'):aA pg (aM 191 (.pointer (some ⟨b,off,none⟩)) (.agg xs)) w K:=fZ (v:= .agg xs) axS ho hs hv h hk
theorem PY(b o:Nat)(w:aOi):(bP 191 (.pointer (some ⟨b,o,none⟩)) none none none).run pg w= .ok (.value (.slice (some (hJ ⟨b,o,none⟩ 29 (0) 1)) (29-0) (29-0))) w:=De Tryz.underlying191 Ck _
theorem axT:(pg).info? 192=some Tryz.t192:=by kernel_rfl
theorem apK{b off:Nat}{l:List aOj}{w:aOi}(hl:l.length=53)(h:∀j,j<l.length->w.cell? ⟨b,off+j,none⟩=l[j]?):(aH 192 (.pointer (some ⟨b,off,none⟩))).run pg w= .ok (.value (.agg l.toArray)) w:=OV Tryz.underlying192 rfl axT hl.symm h
theorem arT{w:aOi}{K:aOj->aOi->Prop}(hk:∀w',aZ w' w.heap.size [(.int .i64 0),(.int .i64 0),(.int .i64 0),(.int .i64 0),(.int .i64 0),(.int .i64 0),(.int .i64 0),(.int .i64 0),(.int .i64 0),(.int .i64 0),(.int .i64 0),(.int .i64 0),(.int .i64 0),(.int .i64 0),(.int .i64 0),(.int .i64 0),(.int .i64 0),(.int .i64 0),(.int .i64 0),(.int .i64 0),(.int .i64 0),(.int .i64 0),(.int .i64 0),(.int .i64 0),(.int .i64 0),(.int .i64 0),(.int .i64 0),(.int .i64 0),(.int .i64 0),(.int .i64 0),(.int .i64 0),(.int .i64 0),(.int .i64 0),(.int .i64 0),(.int .i64 0),(.int .i64 0),(.int .i64 0),(.int .i64 0),(.int .i64 0),(.int .i64 0),(.int .i64 0),(.int .i64 0),(.int .i64 0),(.int .i64 0),(.int .i64 0),(.int .i64 0),(.int .i64 0),(.int .i64 0),(.int .i64 0),(.int .i64 0),(.int .i64 0),(.int .i64 0),(.int .i64 0)]->aN w w' bJ->w'.heap.size=w.heap.size+1->K (.pointer (some ⟨w.heap.size,0,none⟩)) w'):aA pg (bG 192) w K:=eK (i:=Tryz.t192) axT rfl hk
theorem aqM{b off:Nat}{cs:List aOj}{w:aOi}{xs:Array aOj}{K:aOj->aOi->Prop}(ho:aZ w b cs)(hs:xs.size=53)(hv:∀x∈xs.toList,one x=true)(h:off+53<=cs.length)(hk:∀w',aZ w' b (aT cs off xs.toList)->aN w w' (λx=>x=b)->w'.heap.size=w.heap.size->K undef w'):aA pg (aM 192 (.pointer (some ⟨b,off,none⟩)) (.agg xs)) w K:=fZ (v:= .agg xs) axT ho hs hv h hk
theorem P0 (b o:Nat)(w:aOi):(bP 192 (.pointer (some ⟨b,o,none⟩)) none none none).run pg w= .ok (.value (.slice (some (hJ ⟨b,o,none⟩ 53 (0) 1)) (53-0) (53-0))) w:=De Tryz.underlying192 Ck _
theorem pL(w:aOi):(bH 162 []).run pg w= .ok (.value (.agg #[(.int .i64 0),(.slice none 0 0)])) w:=by kernel_rfl
theorem agI(n0:Int)(w:aOi):(bH 194 [(0,(.int .u8 n0))]).run pg w= .ok (.value (.agg #[(.int .u8 n0),(.int .i64 0),(.int .i64 0)])) w:=by kernel_rfl
theorem Z5:(pg).info? 194=some Tryz.t194:=by kernel_rfl
theorem adP{n:Nat}{ps:List (Nat×aOj)}{cells:Array aOj}{w:aOi}(h1:¬n*3>2^24)(h0:¬n*3=0)(hf:Go.Instr.fill (λj=>some (j*3,3)) ((Array.range (n*3)).map ((Tryz.t194.zero.get!).cells[·%(Tryz.t194.zero.get!).cells.size]!)) ps=some cells){K:aOj->aOi->Prop}(hk:∀w',aZ w' w.heap.size cells.toList->aN w w' bJ->w'.heap.size=w.heap.size+1->K (.slice (some ⟨w.heap.size,0,none⟩) n n) w'):aA pg (bT 104 n ps) w K:=JD (i:=Tryz.t194) Tryz.underlying104 Z5 rfl h1 h0 hf hk
theorem agJ(a0:Option Addr)(l0 c0:Nat)(w:aOi):(bH 106 [(1,(.slice a0 l0 c0))]).run pg w= .ok (.value (.agg #[(.int .i64 0),(.slice a0 l0 c0)])) w:=by kernel_rfl
theorem RO(b o:Nat)(w:aOi):(aJ 162 (.pointer (some ⟨b,o,none⟩)) 0).run pg w= .ok (.value (.pointer (some ⟨b,o,none⟩))) w:=dE (i:=0) Tryz.underlying162 rfl Ck (by decide) _
theorem Zx(n0:Int)(a1:Option Addr)(l1 c1:Nat)(w:aOi):(bH 106 [(0,(.int .i64 n0)),(1,(.slice a1 l1 c1))]).run pg w= .ok (.value (.agg #[(.int .i64 n0),(.slice a1 l1 c1)])) w:=by kernel_rfl
theorem aH5:(pg).info? 104=some Tryz.t104:=by kernel_rfl
theorem RM(b o:Nat)(w:aOi):(aJ 106 (.pointer (some ⟨b,o,none⟩)) 1).run pg w= .ok (.value (.pointer (some ⟨b,o+1,none⟩))) w:=dE (i:=1) Tryz.underlying106 rfl aH5 (by decide) _
theorem aeM(x:Addr)(w:aOi):(aH 104 (.pointer (some x))).run pg w=ldC (w.cell? x) w (far pg 104 x w):=aaP Tryz.underlying104 rfl x w
theorem aeO{ty:TypeId}(x:Option Addr)(n c:Nat)(w:aOi):(dD .len #[104] ty [.slice x n c]).run pg w= .ok (.value (.int .i64 n)) w:=Wz Tryz.underlying104 x n c
theorem aeL{k:IntKind}{a:Int}(b o n c:Nat)(w:aOi)(h0:0<=a)(h1:a<n):(aO 104 (.slice (some ⟨b,o,none⟩) n c) (.int k a)).run pg w= .ok (.value (.pointer (some ⟨b,o+a.toNat*3,none⟩))) w:=aaO rfl Tryz.underlying104 Z5 b o n c h0 h1
theorem Un(b o:Nat)(w:aOi):(aJ 194 (.pointer (some ⟨b,o,none⟩)) 0).run pg w= .ok (.value (.pointer (some ⟨b,o,none⟩))) w:=dE (i:=0) Tryz.underlying194 rfl GW (by decide) _
theorem XP(b o:Nat)(w:aOi):(aJ 194 (.pointer (some ⟨b,o,none⟩)) 1).run pg w= .ok (.value (.pointer (some ⟨b,o+1,none⟩))) w:=dE (i:=1) Tryz.underlying194 rfl Ck (by decide) _
theorem XO(b o:Nat)(w:aOi):(aJ 194 (.pointer (some ⟨b,o,none⟩)) 2).run pg w= .ok (.value (.pointer (some ⟨b,o+2,none⟩))) w:=dE (i:=2) Tryz.underlying194 rfl Ck (by decide) _
theorem adO(w:aOi):(bH 201 []).run pg w= .ok (.value (.agg #[(.slice none 0 0),(.int .i64 0)])) w:=by kernel_rfl
theorem Vh{b off:Nat}{cs:List aOj}{w:aOi}(ho:aZ w b cs)(h:off+3<=cs.length):(aH 194 (.pointer (some ⟨b,off,none⟩))).run pg w= .ok (.value (.agg ((cs.drop off).take 3).toArray)) w:=zP Tryz.underlying194 rfl Z5 ho h
theorem Xd{w:aOi}{K:aOj->aOi->Prop}(hk:∀w',aZ w' w.heap.size [(.int .u8 0),(.int .i64 0),(.int .i64 0)]->aN w w' bJ->w'.heap.size=w.heap.size+1->K (.pointer (some ⟨w.heap.size,0,none⟩)) w'):aA pg (bG 194) w K:=eK (i:=Tryz.t194) Z5 rfl hk
theorem VD{b off:Nat}{cs:List aOj}{w:aOi}{xs:Array aOj}{K:aOj->aOi->Prop}(ho:aZ w b cs)(hs:xs.size=3)(hv:∀x∈xs.toList,one x=true)(h:off+3<=cs.length)(hk:∀w',aZ w' b (aT cs off xs.toList)->aN w w' (λx=>x=b)->w'.heap.size=w.heap.size->K undef w'):aA pg (aM 194 (.pointer (some ⟨b,off,none⟩)) (.agg xs)) w K:=fZ (v:= .agg xs) Z5 ho hs hv h hk
theorem Wy{ox oy:Operand}(x:Option Addr)(w:aOi):(aD .eql 170 ox oy (.pointer x) (.pointer none)).run pg w= .ok (.value (.bool x.isNone)) w:=apY Tryz.underlying170 x
theorem ZP(b o:Nat)(w:aOi):(aJ 201 (.pointer (some ⟨b,o,none⟩)) 1).run pg w= .ok (.value (.pointer (some ⟨b,o+1,none⟩))) w:=dE (i:=1) Tryz.underlying201 rfl Ck (by decide) _
theorem ZO(b o:Nat)(w:aOi):(aJ 201 (.pointer (some ⟨b,o,none⟩)) 0).run pg w= .ok (.value (.pointer (some ⟨b,o,none⟩))) w:=dE (i:=0) Tryz.underlying201 rfl Yc (by decide) _
theorem YV{k:IntKind}{hi:Int}(a:Option Addr)(n c:Nat)(w:aOi)(h0:0<=hi)(h1:hi<=c):(bP 117 (.slice a n c) none (some (.int k hi)) none).run pg w= .ok (.value (.slice (cW a c (0) 1) (hi.toNat-0) (c-0))) w:=WA Tryz.underlying117 Ck _ n c h0 h1
theorem VU(a0:Option Addr)(l0 c0:Nat)(n1:Int)(w:aOi):(bH 201 [(0,(.slice a0 l0 c0)),(1,(.int .i64 n1))]).run pg w= .ok (.value (.agg #[(.slice a0 l0 c0),(.int .i64 n1)])) w:=by kernel_rfl
theorem gN{k:IntKind}(a:Int)(w:aOi):(cH 50 38 (.int k a)).run pg w= .ok (.value (.int .u32 (IntKind.u32.wrap a))) w:=Aj Tryz.underlying50 Tryz.underlying38
theorem agW{k:IntKind}(a:Int)(w:aOi):(cH 38 50 (.int k a)).run pg w= .ok (.value (.int .u64 (IntKind.u64.wrap a))) w:=Aj Tryz.underlying38 Tryz.underlying50
theorem vK{k:IntKind}{a:Int}(x:ByteArray)(w:aOi)(h0:0<=a)(h1:a.toNat<x.size):(HX 9 (.string x) (.int k a)).run pg w= .ok (.value (.int .u8 (x[a.toNat]'h1).toNat)) w:=aIv Tryz.underlying9 x h0 h1
theorem apD:(pg).info? 139=some Tryz.t139:=by kernel_rfl
theorem agA{w:aOi}{K:aOj->aOi->Prop}(hk:∀w',aZ w' w.heap.size [(.int .i64 0),(.int .i64 0),(.int .i64 0),(.int .i64 0)]->aN w w' bJ->w'.heap.size=w.heap.size+1->K (.pointer (some ⟨w.heap.size,0,none⟩)) w'):aA pg (bG 139) w K:=eK (i:=Tryz.t139) apD rfl hk
theorem acZ{b off:Nat}{cs:List aOj}{w:aOi}{xs:Array aOj}{K:aOj->aOi->Prop}(ho:aZ w b cs)(hs:xs.size=4)(hv:∀x∈xs.toList,one x=true)(h:off+4<=cs.length)(hk:∀w',aZ w' b (aT cs off xs.toList)->aN w w' (λx=>x=b)->w'.heap.size=w.heap.size->K undef w'):aA pg (aM 139 (.pointer (some ⟨b,off,none⟩)) (.agg xs)) w K:=fZ (v:= .agg xs) apD ho hs hv h hk
theorem atJ{b off:Nat}{cs:List aOj}{w:aOi}(ho:aZ w b cs)(h:off+4<=cs.length):(aH 139 (.pointer (some ⟨b,off,none⟩))).run pg w= .ok (.value (.agg ((cs.drop off).take 4).toArray)) w:=zP Tryz.underlying139 rfl apD ho h
theorem axU:(pg).info? 231=some Tryz.t231:=by kernel_rfl
theorem apG{b off:Nat}{l:List aOj}{w:aOi}(hl:l.length=20)(h:∀j,j<l.length->w.cell? ⟨b,off+j,none⟩=l[j]?):(aH 231 (.pointer (some ⟨b,off,none⟩))).run pg w= .ok (.value (.agg l.toArray)) w:=OV Tryz.underlying231 rfl axU hl.symm h
theorem arP{w:aOi}{K:aOj->aOi->Prop}(hk:∀w',aZ w' w.heap.size [(.int .i64 0),(.int .i64 0),(.int .i64 0),(.int .i64 0),(.int .i64 0),(.int .i64 0),(.int .i64 0),(.int .i64 0),(.int .i64 0),(.int .i64 0),(.int .i64 0),(.int .i64 0),(.int .i64 0),(.int .i64 0),(.int .i64 0),(.int .i64 0),(.int .i64 0),(.int .i64 0),(.int .i64 0),(.int .i64 0)]->aN w w' bJ->w'.heap.size=w.heap.size+1->K (.pointer (some ⟨w.heap.size,0,none⟩)) w'):aA pg (bG 231) w K:=eK (i:=Tryz.t231) axU rfl hk
theorem aqI{b off:Nat}{cs:List aOj}{w:aOi}{xs:Array aOj}{K:aOj->aOi->Prop}(ho:aZ w b cs)(hs:xs.size=20)(hv:∀x∈xs.toList,one x=true)(h:off+20<=cs.length)(hk:∀w',aZ w' b (aT cs off xs.toList)->aN w w' (λx=>x=b)->w'.heap.size=w.heap.size->K undef w'):aA pg (aM 231 (.pointer (some ⟨b,off,none⟩)) (.agg xs)) w K:=fZ (v:= .agg xs) axU ho hs hv h hk
theorem PW(b o:Nat)(w:aOi):(bP 231 (.pointer (some ⟨b,o,none⟩)) none none none).run pg w= .ok (.value (.slice (some (hJ ⟨b,o,none⟩ 20 (0) 1)) (20-0) (20-0))) w:=De Tryz.underlying231 Ck _
theorem axV:(pg).info? 232=some Tryz.t232:=by kernel_rfl
theorem apH{b off:Nat}{l:List aOj}{w:aOi}(hl:l.length=21)(h:∀j,j<l.length->w.cell? ⟨b,off+j,none⟩=l[j]?):(aH 232 (.pointer (some ⟨b,off,none⟩))).run pg w= .ok (.value (.agg l.toArray)) w:=OV Tryz.underlying232 rfl axV hl.symm h
theorem arQ{w:aOi}{K:aOj->aOi->Prop}(hk:∀w',aZ w' w.heap.size [(.int .i64 0),(.int .i64 0),(.int .i64 0),(.int .i64 0),(.int .i64 0),(.int .i64 0),(.int .i64 0),(.int .i64 0),(.int .i64 0),(.int .i64 0),(.int .i64 0),(.int .i64 0),(.int .i64 0),(.int .i64 0),(.int .i64 0),(.int .i64 0),(.int .i64 0),(.int .i64 0),(.int .i64 0),(.int .i64 0),(.int .i64 0)]->aN w w' bJ->w'.heap.size=w.heap.size+1->K (.pointer (some ⟨w.heap.size,0,none⟩)) w'):aA pg (bG 232) w K:=eK (i:=Tryz.t232) axV rfl hk
theorem aqJ{b off:Nat}{cs:List aOj}{w:aOi}{xs:Array aOj}{K:aOj->aOi->Prop}(ho:aZ w b cs)(hs:xs.size=21)(hv:∀x∈xs.toList,one x=true)(h:off+21<=cs.length)(hk:∀w',aZ w' b (aT cs off xs.toList)->aN w w' (λx=>x=b)->w'.heap.size=w.heap.size->K undef w'):aA pg (aM 232 (.pointer (some ⟨b,off,none⟩)) (.agg xs)) w K:=fZ (v:= .agg xs) axV ho hs hv h hk
theorem PX(b o:Nat)(w:aOi):(bP 232 (.pointer (some ⟨b,o,none⟩)) none none none).run pg w= .ok (.value (.slice (some (hJ ⟨b,o,none⟩ 21 (0) 1)) (21-0) (21-0))) w:=De Tryz.underlying232 Ck _
theorem gU{k:IntKind}(a:Int)(w:aOi):(cH 38 5 (.int k a)).run pg w= .ok (.value (.int .u8 (IntKind.u8.wrap a))) w:=Aj Tryz.underlying38 Tryz.underlying5
theorem aaE{k:IntKind}{n:Int}{w:aOi}{K:aOj->aOi->Prop}(h0:0<=n)(hn:24*n<=2^48)(hk:∀w',aZ w' w.heap.size (Hg n.toNat [(.int .u8 0),(.int .i64 0),(.int .i64 0)])->aN w w' bJ->w'.heap.size=w.heap.size+1->K (.slice (some ⟨w.heap.size,0,none⟩) n.toNat n.toNat) w'):aA pg (iS 104 (.int k n) (.int k n)) w K:=anM (i:=Tryz.t194) Tryz.underlying104 Z5 rfl (by decide) rfl rfl h0 hn (by omega) hk
theorem ZI{k:IntKind}(a:Int)(w:aOi):(cH 32 38 (.int k a)).run pg w= .ok (.value (.int .u32 (IntKind.u32.wrap a))) w:=Aj Tryz.underlying32 Tryz.underlying38
theorem axW:(pg).info? 241=some Tryz.t241:=by kernel_rfl
theorem Us{k:IntKind}{n:Int}{w:aOi}{K:aOj->aOi->Prop}(h0:0<=n)(hn:16*n<=2^48)(hk:∀w',aZ w' w.heap.size (Hg n.toNat [(.int .i64 0),(.int .i64 0)])->aN w w' bJ->w'.heap.size=w.heap.size+1->K (.slice (some ⟨w.heap.size,0,none⟩) n.toNat n.toNat) w'):aA pg (iS 225 (.int k n) (.int k n)) w K:=anM (i:=Tryz.t241) Tryz.underlying225 axW rfl (by decide) rfl rfl h0 hn (by omega) hk
theorem fC(n0:Int)(n1:Int)(w:aOi):(bH 241 [(0,(.int .i64 n0)),(1,(.int .i64 n1))]).run pg w= .ok (.value (.agg #[(.int .i64 n0),(.int .i64 n1)])) w:=by kernel_rfl
theorem dZ{k:IntKind}{a:Int}(b o n c:Nat)(w:aOi)(h0:0<=a)(h1:a<n):(aO 225 (.slice (some ⟨b,o,none⟩) n c) (.int k a)).run pg w= .ok (.value (.pointer (some ⟨b,o+a.toNat*2,none⟩))) w:=aaO rfl Tryz.underlying225 axW b o n c h0 h1
theorem abI{b off:Nat}{cs:List aOj}{w:aOi}{xs:Array aOj}{K:aOj->aOi->Prop}(ho:aZ w b cs)(hs:xs.size=2)(hv:∀x∈xs.toList,one x=true)(h:off+2<=cs.length)(hk:∀w',aZ w' b (aT cs off xs.toList)->aN w w' (λx=>x=b)->w'.heap.size=w.heap.size->K undef w'):aA pg (aM 241 (.pointer (some ⟨b,off,none⟩)) (.agg xs)) w K:=fZ (v:= .agg xs) axW ho hs hv h hk
theorem Yf{b off:Nat}{cs:List aOj}{w:aOi}(ho:aZ w b cs){v:aOj}(h:cs[off]?=some v){K:aOj->Prop}(hk:K v):vU pg 22 (.pointer (some ⟨b,off,none⟩)) w K:=aAN Tryz.underlying22 rfl ho h hk
theorem Vi{b off:Nat}{cs:List aOj}{w:aOi}(ho:aZ w b cs){v:aOj}(h:cs[off]?=some v){K:aOj->Prop}(hk:K v):vU pg 24 (.pointer (some ⟨b,off,none⟩)) w K:=aAN Tryz.underlying24 rfl ho h hk
theorem anW{w:aOi}{K:aOj->aOi->Prop}(hk:∀w',aZ w' w.heap.size [(.int .i64 0)]->aN w w' bJ->w'.heap.size=w.heap.size+1->K (.pointer (some ⟨w.heap.size,0,none⟩)) w'):aA pg (bG 24) w K:=eK (i:=Tryz.t24) aD3 rfl hk
theorem aD2:(pg).info? 170=some Tryz.t170:=by kernel_rfl
theorem Zk{w:aOi}{K:aOj->aOi->Prop}(hk:∀w',aZ w' w.heap.size [(.pointer none)]->aN w w' bJ->w'.heap.size=w.heap.size+1->K (.pointer (some ⟨w.heap.size,0,none⟩)) w'):aA pg (bG 170) w K:=eK (i:=Tryz.t170) aD2 rfl hk
theorem abH{b off:Nat}{cs:List aOj}{w:aOi}{v:aOj}{K:aOj->aOi->Prop}(ho:aZ w b cs)(hv:one v=true)(h:off<cs.length)(hk:∀w',aZ w' b (cs.set off v)->aN w w' (λx=>x=b)->w'.heap.size=w.heap.size->K undef w'):aA pg (aM 170 (.pointer (some ⟨b,off,none⟩)) v) w K:=qY aD2 rfl ho hv h hk
theorem tP(x:Addr)(w:aOi):(aH 225 (.pointer (some x))).run pg w=ldC (w.cell? x) w (far pg 225 x w):=aaP Tryz.underlying225 rfl x w
theorem tT{ty:TypeId}(x:Option Addr)(n c:Nat)(w:aOi):(dD .len #[225] ty [.slice x n c]).run pg w= .ok (.value (.int .i64 n)) w:=Wz Tryz.underlying225 x n c
theorem yG(b o:Nat)(w:aOi):(aJ 241 (.pointer (some ⟨b,o,none⟩)) 0).run pg w= .ok (.value (.pointer (some ⟨b,o,none⟩))) w:=dE (i:=0) Tryz.underlying241 rfl Ck (by decide) _
theorem sL(x:Addr)(w:aOi):(aH 170 (.pointer (some x))).run pg w=ldC (w.cell? x) w (far pg 170 x w):=aaP Tryz.underlying170 rfl x w
theorem Ge(b o:Nat)(w:aOi):(aJ 241 (.pointer (some ⟨b,o,none⟩)) 1).run pg w= .ok (.value (.pointer (some ⟨b,o+1,none⟩))) w:=dE (i:=1) Tryz.underlying241 rfl Ck (by decide) _
theorem atK{b off:Nat}{cs:List aOj}{w:aOi}(ho:aZ w b cs)(h:off+4<=cs.length){K:aOj->Prop}(hk:K (.agg ((cs.drop off).take 4).toArray)):vU pg 139 (.pointer (some ⟨b,off,none⟩)) w K:=FL Tryz.underlying139 rfl apD ho h hk
end Go.Proofs.YtoecppploooloaaGreatDoor
namespace Go.En
open Go Go.ChangeShapes Go.WideShapes Go.ChangeAt Go.RowKit
theorem alR{H:Type}{enc:TypeId×aOj->H}{P:Program}(hl:laidOutB P=true){W W':aOi}(hb:Below W.heap.size W W'):∀(ts:List TypeId) (vs:List aOj) (ds:List (DataW H)) (ps:List MemPlace),
 (ts.all λt=>P.readableRec t&&decide (t<P.types.size))=true->DataW.TrodAll enc P W 0 (λ_=>true) true ts vs ds ps->(∀x∈ps,x.block<W.heap.size)→
 DataW.TrodAll enc P W' 0 (λb=>decide (b<W.heap.size)) true ts vs ds ps:=by
 intro ts
 induction ts with
 |nil=>
  intro vs ds ps _ h _
  cases vs<;>cases ds<;>simp[DataW.TrodAll]at h⊢
  exact h
 |cons t ts ih=>
  intro vs ds ps hr h hlt
  cases vs with
  |nil=>simp[DataW.TrodAll]at h
  |cons v vs=>
   cases ds with
   |nil=>simp[DataW.TrodAll]at h
   |cons d ds=>
    obtain⟨p,q,h1,h2,rfl⟩:=h
    rw[List.all_cons,aLM,aLM,decide_eq_true_eq]at hr
    exact⟨p,q,Below.trod hl hr.1.1 hr.1.2 h1 hb (λx hx=>hlt x (aNo _ hx)),ih _ _ _ hr.2 h2 (λx hx=>hlt x (aNP _ hx)),rfl⟩
theorem aD9 {H:Type}{enc:TypeId×aOj->H}{P:Program}{f:Func}{s:ChangeSpec}{apart fresh handsOn:Bool}{tb:TypeId}{W W':aOi}{args:Array aOj}{ds gs:List (DataW H)}{before:List MemPlace}
 (hl:laidOutB P=true) (hr:(f.params.toList.all λt=>P.readableRec t&&decide (t<P.types.size))=true) (hres:f.resultTypes= #[tb]) (hbool:P.underlying tb=some .bool)
 (hW:DataW.Whole enc P f.params.toList s.vars apart W args.toList ds gs before) (hvars:s.vars=[]) (h1:(s.fn H (ds++gs)).results=[.lit (.bool true)]) (h2:(s.fn H (ds++gs)).args=ds) (h3:(s.fn H (ds++gs)).vars=[])
 (hx:aN W W' bJ):s.post enc P f apart fresh handsOn false W args (.bool true) W':=by
 have hb:=hx.below
 have hlt:∀x∈before,x.block<W.heap.size:=λx hx=>hW.lt x hx
 have hW':=hW
 obtain⟨p,q,hA,hV,rfl,_,_⟩:=hW
 rw[hvars]at hV
 obtain⟨_,rfl⟩:=trodVars_none hV
 rw[aMb]at hW' hlt
 refine⟨ds,gs,p,[],p,[],hW', ?_, ?_, ?_,hb.frame _,λh=>by cases h⟩
 .rw [h1,hres]
  exact trodAll_cons_mk (shut_bool hbool _) trodAll_mk0
 .rw [h2];exact alR hl hb _ _ _ _ hr hA hlt
 .rw [h3,hvars]<;>rfl
theorem aGv{H:Type}{enc:TypeId×aOj->H}{P:Program}{W:aOi}{base b0:Nat}{r:Reach}{sp:Nat->Bool}{hd:Bool}{t e:TypeId}{k:IntKind}{v:aOj}{d:DataW H}{ps:List MemPlace}(ht:P.underlying t=some (.slice e))(he:P.underlying e=some (.int k))(hc:P.cellsOf e=1)
 (hval:Value.okWide P W r b0 t v) (h:DataW.Trod enc P W base sp hd t v d ps):
 ∃zs:List Int,Sl W v (zs.map (Value.int k))/\zs.length<=9223372036854775807/\∀z∈zs,(Lit.int k z).wf=true:=by
 obtain⟨a0,len,cap,rfl⟩:=okWide_slice ht hval
 obtain⟨fuel,hf⟩:=h
 rcases open_ints ht he hc hf with⟨hcs,-⟩|⟨a,len',cap',zs,hcs,_,hl,hm,hz,-,hcell,hwz⟩
 .have:Value.slice a0 len cap= .slice none 0 0:=by simpa[Value.cells]using hcs
  cases this
  exact⟨[],⟨none,0,0,rfl,rfl,aLw _,λh=>absurd h (by simp)⟩,by simp,by simp⟩
 .have:Value.slice a0 len cap= .slice (some a) len' cap':=by simpa[Value.cells]using hcs
  cases this
  unfold maxLen at hm
  have hle:len<=zs.length:=by rw[hz];split<;>omega
  refine⟨zs.take len,⟨some a,len,cap,rfl,by rw[aLr,aLz];omega,hl,λh0=> ?_⟩,by rw[aLz];omega,λz hz=>hwz z (aMt hz)⟩
  obtain⟨b,off,spot⟩:=a
  have hs:spot=none:=by
   have h0:=hcell 0 (by omega)
   unfold World.cell? at h0
   split at h0
   .cases spot
    .rfl
    .simp [Addr.add]at h0
   .cases h0
  subst hs
  refine⟨b,off,rfl,λi hi=> ?_⟩
  rw[<-Cz,hcell i (by omega),aLN,aLT hi,aLv,aLp (by omega)]
  rfl
theorem aE3 (zs:List Int)(h:∀z∈zs,(Lit.int .u8 z).wf=true):∃l:List UInt8,zs.map (Value.int .u8)=l.map dP/\l.length=zs.length:=by
 refine⟨zs.map λz=>UInt8.ofNat z.toNat, ?_,by simp⟩
 rw[List.map_map]
 refine aMz λz hz=> ?_
 have:=h z hz
 have hx:0<=z/\z<=255:=by simpa[Lit.wf,IntKind.min,IntKind.max,IntKind.signed,IntKind.bits]using this
 show _=dP (UInt8.ofNat z.toNat)
 unfold dP
 rw[aNJ]
 congr 1
 omega
end Go.En
namespace Go.Proofs.YtoecppploooloaaGreatDoor
open Go Go.En
attribute[seval] aA dR aF stepR_skip gO Ca VA YK acU Dd auQ acV Gn Jm oI mR Eb fK Vz sX AY YI acQ YJ kK acS acR acT x20 x21 x30 x31 x32 x40 x41 x42 x43 cR Result.ok.injEq Next.value.injEq true_and and_true dA gR adF ND adG Q0 aLt yH Ey Ai BD jE gK Kd F1 bE aS if_true if_false aLC aLE aMZ aMY aMv aMF aLs aLq eE fW akO mP iI vI eJ fS Ui jQ Lc Qn abG F4 Uj Ul Qm XM Wm jD Ov tO Qy Xl SF Wg pT tS Wj Ll jK akP Qx Ou Uk aGg Ql akI aeV adY aBU ZR akR abF gP akS akZ WO abE AW adV VV SE We Wf apF tM Ow Qz RL RK Xm Um JY Fy Qk Xk eI akX aBT Uq sN nH dY qQ alB ajF Mj Kg Zv RN Sh QB iJ QC Zw aeK S8 WQ jI jR vN pU alA akH aeJ QD WN Zu axX axP akY ZQ SH Pn acA XQ akG aqH Wh T4 PZ pM PY P0 pL agI agJ RO Zx RM aeM aeO aeL Un XP XO adO Wy ZP ZO YV VU gN agW vK PW PX gU ZI fC dZ tP tT yG sL Ge
end Go.Proofs.YtoecppploooloaaGreatDoor
namespace Go.Pu
def bW(p:Int):Int:=if p<0 then 1 else p
def fits:Int->List Int->Bool
 |left,[]=>left==0
 |left,p::r=>if p< -1∨left<bW p then false else fits (left-bW p) r
def xT(ps:List Int):Int:=(ps.map bW).sum
def aAG(log:Int)(ps:List Int):Bool:=decide (5<=log/\log<=15/\1<=ps.length/\ps.length<=256/\ps.getLast?≠some 0)
def apL(log:Int)(ps:List Int):Bool:=aAG log ps&&fits (2^log.toNat) ps
theorem vP(p:Int)(ps:List Int):xT (p::ps)=bW p+xT ps:=by simp[xT]
theorem KI(a b:List Int):xT (a++b)=xT a+xT b:=by simp[xT]
theorem mQ{p:Int}(h: -1<=p):0<=bW p:=by unfold bW;split<;>omega
theorem GC{ps:List Int}(h:∀p∈ps,-1<=p):0<=xT ps:=by
 induction ps with
 |nil=>simp[xT]
 |cons p r ih=>
  rw[vP]
  have:=mQ (h p (by simp))
  have:=ih λq hq=>h q (aLJ _ hq)
  omega
theorem asR:∀{ps:List Int} {left:Int},fits left ps=true↔(∀p∈ps,-1<=p)/\xT ps=left
 |[],left=>by simp[fits,xT];constructor<;>intro h<;>omega
 |p::r,left=>by
  rw[fits,vP]
  by_cases h:p< -1∨left<bW p
  .rw [if_pos h]
   constructor
   .intro h;cases h
   .rintro ⟨h1,h2⟩
    have hp:=h1 p (by simp)
    have:=GC (ps:=r) λq hq=>h1 q (aLJ _ hq)
    omega
  .rw [if_neg h,asR]
   constructor
   .rintro ⟨h1,h2⟩
    exact⟨λq hq=>by rcases aL9.1 hq with rfl|hq;·omega
                    .exact h1 q hq,by omega⟩
   .rintro ⟨h1,h2⟩
    exact⟨λq hq=>h1 q (aLJ _ hq),by omega⟩
structure VO(log:Nat)(ps:List Int):Prop where
 log5:5<=log
 log15:log<=15
 len1:1<=ps.length
 len256:ps.length<=256
 last:ps.getLast?≠some 0
 low:∀p∈ps,-1<=p
 sum:xT ps=2^log
theorem VO.b {log:Nat}{ps:List Int}(h:VO log ps):apL log ps=true:=by
 unfold apL aAG
 simp only[aLM,decide_eq_true_eq]
 have h1:=h.log5
 have h2:=h.log15
 refine⟨⟨by omega,by omega,h.len1,h.len256,h.last⟩, ?_⟩
 rw[asR,aLt]
 exact⟨h.low,h.sum⟩
theorem aEx{log:Nat}(h:log<=15):(2:Int)^log<=32768:=by
 have:2^log<=2^15:=aLB (by omega) h
 have e:((2^log:Nat):Int)=(2:Int)^log:=by simp
 omega
theorem aEy(log:Nat):(1:Int)<=2^log:=by
 have:1<=2^log:=aN0
 have e:((2^log:Nat):Int)=(2:Int)^log:=by simp
 omega
theorem apV{ps:List Int}(h:∀p∈ps,-1<=p){p:Int}(hp:p∈ps):bW p<=xT ps:=by
 induction ps with
 |nil=>cases hp
 |cons q r ih=>
  rw[vP]
  have h0:=mQ (h q (by simp))
  have h1:=GC (ps:=r) λq hq=>h q (aLJ _ hq)
  rcases aL9.1 hp with rfl|hp
  .omega
  .have:=ih (λq hq=>h q (aLJ _ hq)) hp
   omega
def adv(n a:Nat):Nat:=(a+n/2+n/8+3)%n
def abD(n high:Nat):Nat->Nat->Nat
 |0,a=>a
 |f+1,a=>if a<high then a else abD n high f (adv n a)
def ajN:List Int->Nat->Nat->List Int->Nat×List Int
 |[],_,high,arr=>(high,arr)
 |p::r,s,high,arr=>if p= -1 then ajN r (s+1) (high-1) (arr.set (high-1) s)else ajN r (s+1) high arr
def qZ:List Int->Nat->List Nat
 |[],_=>[]
 |p::r,s=>List.replicate p.toNat s++qZ r (s+1)
def place(n high:Nat):List Nat->Nat->List Int->List Int
 |[],_,arr=>arr
 |s::r,a,arr=>place n high r (abD n high n (adv n a)) (arr.set a s)
def dF(x0:Int)(log:Nat)(ps:List Int):List Int:=
 place (2^log) (ajN ps 0 (2^log) (List.replicate (2^log) x0)).1 (qZ ps 0) 0 (ajN ps 0 (2^log) (List.replicate (2^log) x0)).2
def pos(n j:Nat):Nat:=(j*(n/2+n/8+3))%n
theorem TF(n j:Nat):adv n (pos n j)=pos n (j+1):=by
 unfold adv pos
 rw[aMI,aMI,Nat.mod_add_mod,aMh,Nat.one_mul,aMI]
theorem aGs{s:Nat}(hs:s%2=1):∀(k x:Nat),2^k∣s*x->2^k∣x:=by
 intro k
 induction k with
 |zero=>intro x _;simp
 |succ k ih=>
  intro x h
  have h2:2∣s*x:=Nat.dvd_trans ⟨2^k,by rw[aMa,aL7]⟩ h
  have hx:x%2=0:=by
   have:(s*x)%2=0:=Nat.mod_eq_zero_of_dvd h2
   rw[Nat.mul_mod,hs,Nat.one_mul,Nat.mod_mod]at this
   exact this
  obtain⟨y,rfl⟩:∃y,x=2*y:=⟨x/2,by omega⟩
  rw[aMa,aL7 (2^k) 2,show s*(2*y)=2*(s*y)by rw[Nat.mul_left_comm]]at h
  rw[aMa,aL7 (2^k) 2]
  exact Nat.mul_dvd_mul_left 2 (ih y (Nat.dvd_of_mul_dvd_mul_left (by omega) h))
theorem aER{log:Nat}(h:5<=log):(2^log/2+2^log/8+3)%2=1:=by
 obtain⟨k,rfl⟩:∃k,log=k+5:=⟨log-5,by omega⟩
 have:2^(k+5)=32*2^k:=by rw[aMA,aL7]
 omega
theorem aGD{log:Nat}(h:5<=log){i j:Nat}(hij:i<j)(hj:j<2^log):pos (2^log) i≠pos (2^log) j:=by
 unfold pos
 generalize hst:2^log/2+2^log/8+3=st
 have hodd:st%2=1:=by rw[<-hst];exact aER h
 intro e
 have hle:i*st<=j*st:=aLX _ (by omega)
 have hd:2^log∣st*(j-i):=by
  rw[aL7,Nat.sub_mul]
  exact Nat.dvd_of_mod_eq_zero (Nat.sub_mod_eq_zero_of_mod_eq e.symm)
 have:=Nat.le_of_dvd (by omega) (aGs hodd _ _ hd)
 omega
theorem aEg:∀(n:Nat) (l:List Nat),l.Nodup->(∀a∈l,a<n)->l.length<=n:=by
 intro n
 induction n with
 |zero=>intro l _ h;cases l with
  |nil=>simp
  |cons a r=>exact absurd (h a (by simp)) (by omega)
 |succ n ih=>
  intro l hd h
  by_cases hn:n∈l
  .have:=ih (l.erase n) (hd.erase n) (λa ha=>by
    have h1:=h a (List.mem_of_mem_erase ha)
    have h2:a≠n:=λe=>by subst e;exact hd.not_mem_erase ha
    omega)
   rw[aNY hn]at this
   omega
  .have:=ih l hd (λa ha=>by
    have h1:=h a ha
    have h2:a≠n:=λe=>by subst e;exact hn ha
    omega)
   omega
theorem aB4 {n:Nat}{l:List Nat}(hd:l.Nodup)(h:∀a∈l,a<n)(hl:l.length=n){a:Nat}(ha:a<n):a∈l:=by
 refine Classical.byContradiction λhn=> ?_
 have:=aEg n (a::l) (aNX.2 ⟨hn,hd⟩) (λb hb=>(aL9.1 hb).elim (λe=>e▸ha) (h b))
 simp at this;omega
def gQ(n high j:Nat):List Nat:=((List.range' j (n-j)).map (pos n)).filter (·<high)
theorem Tg{n high j:Nat}(h:j<n):gQ n high j=if pos n j<high then pos n j::gQ n high (j+1)else gQ n high (j+1):=by
 unfold gQ
 rw[show n-j=(n-(j+1))+1 from by omega,aN9,aL3,aNy]
 simp
theorem Y3 (n high:Nat):gQ n high n=[]:=by unfold gQ;simp
theorem ayT{n:Nat}(h:0<n)(j:Nat):pos n j<n:=aNI _ h
theorem aiR(n:Nat):pos n 0=0:=by simp[pos]
theorem aJP(n:Nat):pos n n=0:=by simp[pos,Nat.mul_mod_right]
theorem aCw{n high:Nat}(hh:0<high):∀(d j f:Nat),j+d=n->d<=f->abD n high f (pos n j)=(gQ n high j).headD 0:=by
 intro d
 induction d with
 |zero=>
  intro j f hj _
  obtain rfl:j=n:=by omega
  rw[Y3,aJP]
  cases f with
  |zero=>rfl
  |succ f=>unfold abD;rw[if_pos hh]<;>rfl
 |succ d ih=>
  intro j f hj hf
  obtain⟨f,rfl⟩:∃g,f=g+1:=⟨f-1,by omega⟩
  rw[Tg (by omega)]
  unfold abD
  split
  .rfl
  .rw [TF];exact ih (j+1) f (by omega) (by omega)
def setAt:List (Nat×Nat)->List Int->List Int
 |[],arr=>arr
 |(q,s)::r,arr=>setAt r (arr.set q s)
theorem ayR{n high:Nat}(hh:0<high):∀(syms:List Nat) (j a:Nat) (arr:List Int),j<=n->syms.length<=(gQ n high j).length->(syms≠[]->(gQ n high j).headD 0=a)→
 place n high syms a arr=setAt ((gQ n high j).zip syms) arr:=by
 intro syms
 induction syms with
 |nil=>intro j a arr _ _ _;simp[place,setAt]
 |cons s r ih=>
  intro j a arr hj hlen ha
  have ha:=ha (by simp)
  have key:∀(d j:Nat),j+d=n->(s::r).length<=(gQ n high j).length->(gQ n high j).headD 0=a->∃i,i<n/\j<=i/\pos n i=a/\gQ n high j=a::gQ n high (i+1):=by
   intro d
   induction d with
   |zero=>
    intro j hj hl _
    obtain rfl:j=n:=by omega
    rw[Y3]at hl;simp at hl
   |succ d ihd=>
    intro j hj hl hd
    have e:=Tg (high:=high) (show j<n by omega)
    by_cases hp:pos n j<high
    .rw [if_pos hp]at e
     rw[e]at hd
     have:pos n j=a:=hd
     exact⟨j,by omega,aLw _,this,by rw[e,this]⟩
    .rw [if_neg hp]at e
     rw[e]at hl hd⊢
     obtain⟨i,h1,h2,h3,h4⟩:=ihd (j+1) (by omega) hl hd
     exact⟨i,h1,by omega,h3,h4⟩
  obtain⟨i,h1,h2,h3,h4⟩:=key (n-j) j (by omega) hlen ha
  rw[h4]at hlen⊢
  simp only[aLO]at hlen
  rw[place,List.zip_cons_cons,setAt]
  refine ih (i+1) _ _ (by omega) (by omega) (λhr=> ?_)
  rw[<-h3,TF]
  exact(aCw hh (n-(i+1)) (i+1) n (by omega) (by omega)).symm
def sQ:List Int->Nat->List Nat
 |[],_=>[]
 |p::r,s=>if p= -1 then s::sQ r (s+1)else sQ r (s+1)
def toI(l:List Nat):List Int:=l.map Int.ofNat
theorem anQ:∀(ps:List Int) (s high:Nat) (arr:List Int),(sQ ps s).length<=high->high<=arr.length→
 ajN ps s high arr=(high-(sQ ps s).length,arr.take (high-(sQ ps s).length)++toI (sQ ps s).reverse++arr.drop high):=by
 intro ps
 induction ps with
 |nil=>intro s high arr h1 h2;simp[ajN,sQ,toI]
 |cons p r ih=>
  intro s high arr h1 h2
  unfold ajN sQ
  unfold sQ at h1
  by_cases hp:p= -1
  .rw [if_pos hp,if_pos hp]
   rw[if_pos hp]at h1
   simp only[aLO]at h1⊢
   rw[ih (s+1) (high-1) _ (by omega) (by simp;omega)]
   congr 1
   .omega
   .have hlt:high-1<arr.length:=by omega
    rw[List.take_set_of_le (by omega),show high-1-(sQ r (s+1)).length=high-((sQ r (s+1)).length+1)from by omega]
    have:(arr.set (high-1) (s:Int)).drop (high-1)=(s:Int)::arr.drop high:=by
     rw[aL4 (by simp;omega)]
     simp only[aOb]
     rw[show high-1+1=high from by omega,List.drop_set_of_lt (by omega)]
    rw[this]
    simp[toI]
  .rw [if_neg hp,if_neg hp]
   rw[if_neg hp]at h1
   exact ih (s+1) high arr h1 h2
theorem YU:∀(l:List (Nat×Nat)) (arr:List Int),(setAt l arr).length=arr.length
 |[],_=>rfl
 |(q,s)::r,arr=>by rw[setAt,YU];simp
theorem S5 {q:Nat}:∀(l:List (Nat×Nat)) (arr:List Int),(∀x∈l,x.1≠q)->(setAt l arr)[q]?=arr[q]?
 |[],_,_=>rfl
 |(a,s)::r,arr,h=>by
  rw[setAt,S5 r _ λx hx=>h x (aLJ _ hx),List.getElem?_set_ne (h (a,s) (by simp))]
theorem aCx:∀(us:List Nat) (ss:List Nat) (arr:List Int) (t:Nat),us.Nodup->us.length=ss.length->(∀q∈us,q<arr.length)->(ht:t<us.length)->(ht':t<ss.length)→
 (setAt (us.zip ss) arr)[us[t]]?=some (ss[t]:Int):=by
 intro us
 induction us with
 |nil=>intro ss arr t _ _ _ ht;simp at ht
 |cons u us ih=>
  intro ss arr t hd hl hb ht ht'
  cases ss with
  |nil=>simp at hl
  |cons x ss=>
   obtain⟨h1,h2⟩:=aNX.1 hd
   rw[List.zip_cons_cons,setAt]
   cases t with
   |zero=>
    simp only[aNg]
    rw[S5 _ _ (λy hy=>λe=>h1 (by have:=(List.of_mem_zip (a:=y.1) (b:=y.2) hy).1;rw[e]at this;exact this))]
    have:u<arr.length:=hb u (by simp)
    simp[this]
   |succ t=>
    simp only[aME]
    exact ih ss _ t h2 (by simpa using hl) (λq hq=>by simpa using hb q (aLJ _ hq)) (by simpa using ht) (by simpa using ht')
theorem aiO:∀(n:Nat) (l:List Nat),l.Nodup->(∀a∈l,a<n)->l.length=n->l.Perm (List.range n):=by
 intro n
 induction n with
 |zero=>intro l _ _ h;rw[aL8.1 h];exact List.Perm.refl _
 |succ n ih=>
  intro l hd h hl
  have hn:n∈l:=aB4 hd h hl (by omega)
  have p1:=List.perm_cons_erase hn
  have p2:=ih (l.erase n) (hd.erase n) (λa ha=>by
   have h1:=h a (List.mem_of_mem_erase ha)
   have h2:a≠n:=λe=>by subst e;exact hd.not_mem_erase ha
   omega) (by rw[aNY hn];omega)
  rw[aOd]
  exact p1.trans ((p2.cons n).trans (List.perm_append_singleton n _).symm)
theorem auU:∀(ps:List Int) (s:Nat),(∀p∈ps,-1<=p)->((qZ ps s).length:Int)+(sQ ps s).length=xT ps:=by
 intro ps
 induction ps with
 |nil=>intro s _;simp[qZ,sQ,xT]
 |cons p r ih=>
  intro s h
  have:=ih (s+1) λq hq=>h q (aLJ _ hq)
  have hp:=h p (by simp)
  rw[vP]
  unfold qZ sQ bW
  by_cases h1:p= -1
  .rw [if_pos h1,if_pos (by omega)];subst h1;simp;omega
  .rw [if_neg h1,if_neg (by omega)];simp;omega
theorem azA:∀(ps:List Int) (s i:Nat),(qZ ps s).count (s+i)=if h:i<ps.length then ps[i].toNat else 0:=by
 intro ps
 induction ps with
 |nil=>intro s i;simp[qZ]
 |cons p r ih=>
  intro s i
  have low:∀(ps:List Int) (s a:Nat),a<s->(qZ ps s).count a=0:=by
   intro ps
   induction ps with
   |nil=>intro s a _;simp[qZ]
   |cons p r ih=>
    intro s a h
    unfold qZ
    rw[aMK,ih (s+1) a (by omega),List.count_replicate]
    simp;omega
  unfold qZ
  rw[aMK,List.count_replicate]
  cases i with
  |zero=>rw[aLZ,low r (s+1) s (by omega)];simp
  |succ i=>
   rw[show s+(i+1)=s+1+i from by omega,ih (s+1) i]
   have:(s==s+1+i)=false:=by simp;omega
   rw[this];simp
theorem ayC:∀(ps:List Int) (s i:Nat),(sQ ps s).count (s+i)=if h:i<ps.length then(if ps[i]= -1 then 1 else 0)else 0:=by
 intro ps
 induction ps with
 |nil=>intro s i;simp[sQ]
 |cons p r ih=>
  intro s i
  have low:∀(ps:List Int) (s a:Nat),a<s->(sQ ps s).count a=0:=by
   intro ps
   induction ps with
   |nil=>intro s a _;simp[sQ]
   |cons p r ih=>
    intro s a h
    unfold sQ
    split
    .rw [aM5,ih (s+1) a (by omega)];simp;omega
    .exact ih (s+1) a (by omega)
  unfold sQ
  cases i with
  |zero=>
   rw[aLZ]
   by_cases h:p= -1
   .rw [if_pos h,aM5,low r (s+1) s (by omega)];simp[h]
   .rw [if_neg h,low r (s+1) s (by omega)];simp[h]
  |succ i=>
   have e:s+(i+1)=s+1+i:=by omega
   by_cases h:p= -1
   .rw [if_pos h,aM5,e,ih (s+1) i]
    have:(s==s+1+i)=false:=by simp;omega
    rw[this];simp
   .rw [if_neg h,e,ih (s+1) i];simp
theorem aGm:∀(ps:List Int) (s i:Nat) (h:i<ps.length),ps[i]= -1->(sQ ps s)[(ps.take i).count (-1)]?=some (s+i):=by
 intro ps
 induction ps with
 |nil=>intro s i h;simp at h
 |cons p r ih=>
  intro s i h hp
  unfold sQ
  cases i with
  |zero=>simp only[aNg]at hp;rw[if_pos hp];simp
  |succ i=>
   simp only[aME]at hp
   have:=ih (s+1) i (by simpa using h) hp
   rw[aLy,aM5]
   by_cases h1:p= -1
   .rw [if_pos h1];simp only[h1,beq_self_eq_true,if_true,aLs];rw[this];congr 1;omega
   .rw [if_neg h1]
    have:(p== -1)=false:=by simpa using h1
    rw[this];simp only[aLC,if_false,aLZ]
    rw[‹(sQ r (s+1))[_]?=_›];congr 1;omega
theorem alS{log high:Nat}(hl:5<=log)(hh:high<=2^log):(gQ (2^log) high 0).Nodup/\(∀a∈gQ (2^log) high 0,a<high)/\(gQ (2^log) high 0).length=high:=by
 have hn:0<2^log:=aLV log
 have hnd:((List.range (2^log)).map (pos (2^log))).Nodup:=by
  rw[List.nodup_iff_pairwise_ne,List.pairwise_map]
  refine List.pairwise_iff_getElem.2 λi j hi hj hij=> ?_
  simp only[aNM]at hi hj
  simp only[aMN]
  exact aGD hl hij hj
 have hp:=aiO (2^log) _ hnd (λa ha=>by
  obtain⟨j,_,rfl⟩:=aL1.1 ha
  exact ayT hn j) (by simp)
 unfold gQ
 rw[aMU,<-List.range_eq_range']
 refine⟨hnd.filter _,λa ha=>by simpa using(aNW.1 ha).2, ?_⟩
 rw[(hp.filter _).length_eq]
 have:∀m:Nat,high<=m->((List.range m).filter (·<high)).length=high:=by
  intro m
  induction m with
  |zero=>intro h;simp;omega
  |succ m ih=>
   intro h
   rw[aOd,List.filter_append,aLo]
   by_cases hm:high<=m
   .rw [ih hm];simp;omega
   .have:high=m+1:=by omega
    subst this
    have:(List.range m).filter (λx=>decide (x<m+1))=List.range m:=List.filter_eq_self.2 λa ha=>by have:=aMo.1 ha;simp;omega
    rw[this];simp
 exact this _ hh
structure Lay(log:Nat)(ps:List Int)(S:List Int):Prop where
 len:S.length=2^log
 cnt:∀s (h:s<ps.length),S.count (s:Int)=(bW ps[s]).toNat
 rng:∀x∈S,∃s:Nat,s<ps.length/\x=s
 top:∀s (h:s<ps.length),ps[s]= -1->S[2^log-1-(ps.take s).count (-1)]?=some (s:Int)
theorem anO(l:List Nat)(s:Nat):(toI l).count (s:Int)=l.count s:=by
 induction l with
 |nil=>rfl
 |cons a r ih=>
  show List.count _ (Int.ofNat a::toI r)=_
  rw[aM5,aM5,ih]
  congr 1
  by_cases h:a=s
  .subst h;simp
  .simp [h];omega
theorem aEF:∀(ps:List Int) (s:Nat),∀x∈qZ ps s,s<=x/\x<s+ps.length:=by
 intro ps
 induction ps with
 |nil=>intro s x h;simp[qZ]at h
 |cons p r ih=>
  intro s x h
  unfold qZ at h
  rcases aMm.1 h with h|h
  .have:=(List.mem_replicate.1 h).2;simp;omega
  .have:=ih (s+1) x h;simp;omega
theorem aEf:∀(ps:List Int) (s:Nat),∀x∈sQ ps s,s<=x/\x<s+ps.length:=by
 intro ps
 induction ps with
 |nil=>intro s x h;simp[sQ]at h
 |cons p r ih=>
  intro s x h
  unfold sQ at h
  split at h
  .rcases aL9.1 h with rfl|h
   .simp
   .have:=ih (s+1) x h;simp;omega
  .have:=ih (s+1) x h;simp;omega
theorem avG{log:Nat}{ps:List Int}(h:VO log ps)(x0:Int):
 ∃low:List Int,dF x0 log ps=low++toI (sQ ps 0).reverse/\low.Perm (toI (qZ ps 0))/\((sQ ps 0).length+low.length=2^log)/\
  (∀t (h1:t<(gQ (2^log) (qZ ps 0).length 0).length) (h2:t<(qZ ps 0).length),low[(gQ (2^log) (qZ ps 0).length 0)[t]]?=some ((qZ ps 0)[t]:Int)):=by
 have hrl:=auU ps 0 h.low
 rw[h.sum]at hrl
 have hpow:((2^log:Nat):Int)=(2:Int)^log:=by simp
 obtain⟨m,hm⟩:∃m,m=(sQ ps 0).length:=⟨_,rfl⟩
 obtain⟨hi,hhi⟩:∃x,x=(qZ ps 0).length:=⟨_,rfl⟩
 rw[<-hm,<-hhi]at hrl
 have hsum:hi+m=2^log:=by omega
 have ht:=anQ ps 0 (2^log) (List.replicate (2^log) x0) (by omega) (by simp)
 rw[<-hm,show 2^log-m=hi from by omega]at ht
 have e2:(List.replicate (2^log) x0).take hi=List.replicate hi x0:=by rw[List.take_replicate];congr 1;omega
 have e3:(List.replicate (2^log) x0).drop (2^log)=[]:=by simp
 rw[e2,e3,aMb]at ht
 unfold dF
 rw[ht]
 simp only
 obtain⟨u1,u2,u3⟩:=alS (high:=hi) h.log5 (by omega)
 by_cases h0:hi=0
 .have hr:qZ ps 0=[]:=aL8.1 (by omega)
  rw[hr,h0]
  refine⟨[],by simp[place],by simp[toI],by simp;omega,λt _ h2=>by simp at h2⟩
 .have hp:=ayR (n:=2^log) (high:=hi) (by omega) (qZ ps 0) 0 0 (List.replicate hi x0++toI (sQ ps 0).reverse) (by omega) (by rw[u3];omega) (λ_=>by
   rw[Tg (aLV log),aiR,if_pos (by omega)]<;>rfl)
  rw[hp]
  generalize hU:gQ (2^log) hi 0=U at*
  have hb:∀q∈U,q<(List.replicate hi x0++toI (sQ ps 0).reverse).length:=λq hq=>by have:=u2 q hq;simp;omega
  obtain⟨R,hR⟩:∃R,R=setAt (U.zip (qZ ps 0)) (List.replicate hi x0++toI (sQ ps 0).reverse):=⟨_,rfl⟩
  have hRl:R.length=hi+m:=by rw[hR,YU];simp[toI,hm]
  have hRd:R.drop hi=toI (sQ ps 0).reverse:=by
   apply aML
   intro i
   rw[aMw,hR,S5 _ _ (λx hx=>by
     have:=u2 _ (List.of_mem_zip (a:=x.1) (b:=x.2) hx).1
     omega),aLW (by simp)]
   simp
  have hget:∀t (h1:t<U.length) (h2:t<(qZ ps 0).length),R[U[t]]?=some ((qZ ps 0)[t]:Int):=λt h1 h2=>by
   rw[hR];exact aCx U _ _ t u1 (by omega) hb h1 h2
  rw[<-hR]
  refine⟨R.take hi,by rw[<-hRd,aMu], ?_,by rw[aLz];omega,λt h1 h2=> ?_⟩
  .have p1:(U.map λq=>R.getD q 0).Perm ((List.range hi).map λq=>R.getD q 0):=(aiO hi U u1 u2 u3).map _
   have p2:(U.map λq=>R.getD q 0)=toI (qZ ps 0):=by
    apply aMO
    .simp [toI];omega
    .intro t h1 h2
     simp only[aLr]at h1
     have:=hget t h1 (by omega)
     simp only[aMl,toI,aLv,this]
     rfl
   have p3:((List.range hi).map λq=>R.getD q 0)=R.take hi:=by
    apply aMO
    .simp;omega
    .intro q h1 h2
     simp only[aLr,aNM]at h1
     simp only[aMl,aMN,List.getElem_take,aLv]
     rw[aLp (by omega)]<;>rfl
   rw[p2,p3]at p1
   exact p1.symm
  .subst hhi
   simp only[hU]at h1⊢
   have:=hget t h1 h2
   rw[aLT (u2 _ (aLP h1))]
   exact this
theorem yW{log:Nat}{ps:List Int}(h:VO log ps)(x0:Int):Lay log ps (dF x0 log ps):=by
 obtain⟨low,e,hp,hl,_⟩:=avG h x0
 rw[e]
 refine⟨by simp[toI];omega,λs hs=> ?_,λx hx=> ?_,λs hs hps=> ?_⟩
 .rw [aMK,hp.count_eq,anO,anO,List.count_reverse]
  have h1:=azA ps 0 s
  have h2:=ayC ps 0 s
  rw[aLE]at h1 h2
  rw[h1,h2,dif_pos hs,dif_pos hs]
  have:=h.low _ (aLP hs)
  unfold bW
  split<;>split<;>omega
 .rcases aMm.1 hx with hx|hx
  .have hx:=hp.mem_iff.1 hx
   obtain⟨s,hs,rfl⟩:=aL1.1 hx
   exact⟨s,by have:=aEF ps 0 s hs;omega,rfl⟩
  .obtain ⟨s,hs,rfl⟩:=aL1.1 hx
   exact⟨s,by have:=aEf ps 0 s (List.mem_reverse.1 hs);omega,rfl⟩
 .have h1:=aGm ps 0 s hs hps
  rw[aLE]at h1
  have hlt:(ps.take s).count (-1)<(sQ ps 0).length:=by
   rcases aLH ((ps.take s).count (-1)) (sQ ps 0).length with h|h
   .exact h
   .rw [aLD h]at h1;cases h1
  rw[aLW (by omega)]
  unfold toI
  rw[aLN,List.getElem?_reverse (by omega),show(sQ ps 0).length-1-(2^log-1-List.count (-1) (List.take s ps)-low.length)=(ps.take s).count (-1)from by omega,h1]
  rfl
def bl(k:Nat):Nat:=if k=0 then 0 else k.log2+1
theorem abW(k:Nat):k<2^bl k:=by
 unfold bl
 split
 .subst_vars;simp
 .exact Nat.lt_log2_self
theorem Xo{k:Nat}(h:k≠0):2^(bl k-1)<=k:=by
 unfold bl
 rw[if_neg h,aMX]
 exact Nat.log2_self_le h
theorem Od{k:Nat}(h:k≠0):1<=bl k:=by unfold bl;rw[if_neg h];omega
theorem uY{k n:Nat}(h:k<2^n):bl k<=n:=by
 by_cases h0:k=0
 .subst h0;simp[bl]
 .rcases aLH n (bl k)with hh|hh
  .have h1:=Xo h0
   have:=aLB (n:=2) (by omega) (show n<=bl k-1 by omega)
   omega
  .exact hh
theorem aG6 {k n:Nat}(h1:2^n<=k)(h2:k<2^(n+1)):bl k=n+1:=by
 have h0:k≠0:=by have:=aLV n;omega
 have a:=uY h2
 have b:=abW k
 rcases aLH (bl k) (n+1)with h|h
 .have:=aLB (n:=2) (by omega) (show bl k<=n by omega)
  omega
 .omega
def kAt(ps S:List Int)(i:Nat):Nat:=(bW (ps.getD (S.getD i 0).toNat 0)).toNat+(S.take i).count (S.getD i 0)
def Px(log:Nat)(x:Int)(k:Nat):Int×Int×Int:=(x,((log+1-bl k:Nat):Int),((k*2^(log+1-bl k):Nat):Int)-2^log)
def IC(log:Nat)(ps S:List Int)(i:Nat):Int×Int×Int:=Px log (S.getD i 0) (kAt ps S i)
def mE(log:Nat)(ps:List Int):List (Int×Int×Int):=(List.range (2^log)).map (IC log ps (dF 0 log ps))
theorem gM(log:Nat)(ps:List Int):(mE log ps).length=2^log:=by simp[mE]
theorem UW{S:List Int}{i:Nat}(h:i<S.length):(S.take i).count S[i]+1<=S.count S[i]:=by
 have e:S=S.take i++S[i]::S.drop (i+1):=by rw[<-aL4 h,aMu]
 have:S.count S[i]=(S.take i++S[i]::S.drop (i+1)).count S[i]:=by rw[<-e]
 rw[this,aMK,aM5];simp
theorem Wx{log:Nat}{ps:List Int}(h:VO log ps){s:Nat}(hs:s<ps.length):(bW ps[s]).toNat<=2^log:=by
 have:=apV h.low (aLP hs)
 rw[h.sum]at this
 have hpow:((2^log:Nat):Int)=(2:Int)^log:=by simp
 rw[<-hpow]at this
 exact Int.toNat_le.2 this
theorem Z6 {log:Nat}{ps S:List Int}(h:VO log ps)(L:Lay log ps S){i:Nat}(hi:i<2^log):
 ∃s:Nat,∃hs:s<ps.length,S.getD i 0=(s:Int)/\1<=(bW ps[s]).toNat/\(bW ps[s]).toNat<=2^log/\kAt ps S i=(bW ps[s]).toNat+(S.take i).count (s:Int)/\(S.take i).count (s:Int)<(bW ps[s]).toNat:=by
 have hil:i<S.length:=by rw[L.len];exact hi
 have hg:S.getD i 0=S[i]:=by rw[aLv,aLp hil]<;>rfl
 obtain⟨s,hs,e⟩:=L.rng _ (aLP hil)
 have hc:=UW hil
 rw[e,L.cnt s hs]at hc
 refine⟨s,hs,by rw[hg,e],by omega,Wx h hs, ?_,by omega⟩
 unfold kAt
 rw[hg,e,aLt,aLv,aLp hs]<;>rfl
theorem aoO{log k:Nat}(h1:1<=k)(h2:k<2^(log+1)):2^log<=k*2^(log+1-bl k)/\(k+1)*2^(log+1-bl k)<=2^(log+1)/\bl k<=log+1/\1<=bl k:=by
 have a:=uY h2
 have b:=Od (k:=k) (by omega)
 have c:=Xo (k:=k) (by omega)
 have d:=abW k
 refine⟨?_, ?_,a,b⟩
 .calc 2^log=2^(bl k-1)*2^(log+1-bl k):=by rw[<-aMA];congr 1;omega
   _<=k*2^(log+1-bl k):=aLX _ c
 .calc (k+1)*2^(log+1-bl k)<=2^bl k*2^(log+1-bl k):=aLX _ d
   _=2^(log+1):=by rw[<-aMA];congr 1;omega
theorem aGC(n j:Nat)(hn:0<n):∃d,d<n/\pos n (j+d)=0:=by
 refine⟨(n-j%n)%n,aNI _ hn, ?_⟩
 unfold pos
 have:(j+(n-j%n)%n)%n=0:=by
  rw[Nat.add_mod_mod]
  have h1:=aNI j hn
  have h2:=Nat.div_add_mod j n
  have:j+(n-j%n)=n*(j/n+1):=by
   rw[aNS,aM2]
   generalize n*(j/n)=y at*
   generalize j%n=r at*
   omega
  rw[this,Nat.mul_mod_right]
 rw[Nat.mul_mod,this,aOh,Nat.zero_mod]
theorem anJ{n high:Nat}(hn:0<n)(hh:0<high)(j:Nat):∃d,(∀e,e<d->high<=pos n (j+e))/\pos n (j+d)<high/\abD n high n (pos n j)=pos n (j+d):=by
 obtain⟨D,hD,h0⟩:=aGC n j hn
 have key:∀(D f j:Nat),D<=f->pos n (j+D)<high->∃d,(∀e,e<d->high<=pos n (j+e))/\pos n (j+d)<high/\abD n high f (pos n j)=pos n (j+d):=by
  intro D
  induction D with
  |zero=>
   intro f j _ h
   refine⟨0,λe he=>by omega,h, ?_⟩
   rw[aLZ]at h⊢
   cases f with
   |zero=>rfl
   |succ f=>unfold abD;rw[if_pos h]
  |succ D ih=>
   intro f j hf h
   obtain⟨f,rfl⟩:∃g,f=g+1:=⟨f-1,by omega⟩
   by_cases hj:pos n j<high
   .exact ⟨0,λe he=>by omega,hj,by unfold abD;rw[if_pos hj]<;>rfl⟩
   .obtain ⟨d,h1,h2,h3⟩:=ih f (j+1) (by omega) (by rw[show j+1+D=j+(D+1)from by omega];exact h)
    refine⟨d+1,λe he=> ?_,by rw[show j+(d+1)=j+1+d from by omega];exact h2, ?_⟩
    .cases e with
     |zero=>rw[aLZ];omega
     |succ e=>rw[show j+(e+1)=j+1+e from by omega];exact h1 e (by omega)
    .unfold abD;rw[if_neg hj,TF,h3];congr 1;omega
 exact key D n j (by omega) (by rw[h0];exact hh)
theorem avH{log:Nat}{ps:List Int}(h:VO log ps)(x0:Int):∃arr,ajN ps 0 (2^log) (List.replicate (2^log) x0)=((qZ ps 0).length,arr)/\arr.length=2^log/\(sQ ps 0).length+(qZ ps 0).length=2^log/\dF x0 log ps=place (2^log) (qZ ps 0).length (qZ ps 0) 0 arr:=by
 have hrl:=auU ps 0 h.low
 rw[h.sum]at hrl
 have hpow:((2^log:Nat):Int)=(2:Int)^log:=by simp
 have hsum:(sQ ps 0).length+(qZ ps 0).length=2^log:=by omega
 have ht:=anQ ps 0 (2^log) (List.replicate (2^log) x0) (by omega) (by simp)
 rw[show 2^log-(sQ ps 0).length=(qZ ps 0).length from by omega]at ht
 refine⟨_,ht, ?_,hsum, ?_⟩
 .simp [toI];omega
 .unfold dF;rw[ht]
end Go.Pu
namespace Go.En
open Go
section
variable{P:Program}{w:aOi}{t e:TypeId}
theorem avM{i:TypeInfo}(hu:P.underlying t=some (.slice e))(hi:P.info? e=some i)
 {K:aOj->aOi->Prop} (hk:∀w',aZ w' w.heap.size []->aN w w' bJ->w'.heap.size=w.heap.size+1->K (.slice (some ⟨w.heap.size,0,none⟩) 0 0) w'):
 aA P (bT t 0 []) w K:=by
 have:(bT t 0 []).run P w= .ok (.value (.slice (some ⟨w.heap.size,0,none⟩) 0 0)) (w.alloc (.cells ([]:List aOj).toArray e)):=by
  unfold bT;rw[lZ]
  have h1:¬(0>2^24):=by omega
  have e:∀f:Nat->aOj,Array.map f (Array.range 0)= #[]:=λf=>by simp
  simp only[Instr.buildSlice,underlying,pure_bind,Sem.run_bind,run_program,Result.andThen_ok,hu,Sem.run_pure,cG hi,aOh,h1,if_false,if_true,newRow,run_newObj,Instr.fill,e]
  rfl
 unfold aA
 rw[this]
 exact hk _ (aZ.alloc _ _ _) (aN.alloc _ _ _) (by simp)
def At(v:aOj)(b:Nat):Prop:=∀M:Nat->Prop,¬M b->¬IY v M
theorem At.nil (c b:Nat)(a:Option Addr):At (.slice a 0 c) b:=λM h=>by unfold IY;split<;>simp_all
theorem At.at (b o n c:Nat):At (.slice (some ⟨b,o,none⟩) n c) b:=λM h=>by
 unfold IY;split
 .rename_i x m _ e
  obtain⟨rfl,_⟩:(⟨b,o,none⟩:Addr)=x/\_:=by simpa using e
  exact h
 .simp
theorem oF.at' {w:aOi}{base sz n:Nat}{v:aOj}{l:List aOj}(h:oF w base sz v n l)(hb:base<w.heap.size):∃b,base<=b/\b<w.heap.size/\At v b:=by
 rcases h.2 with⟨rfl,rfl⟩|⟨b,c,rest,rfl,h2,h3,h4,h5⟩
 .exact ⟨base,aLw _,hb,At.nil _ _ _⟩
 .exact ⟨b,h2,h3.lt,At.at _ _ _ _⟩
end
end Go.En
namespace Go.Proofs.YtoecppploooloaaGreatDoor
open Go Go.En Go.Pu
set_option maxRecDepth 4000
def atN:ByteArray:=⟨#[0,1,2,2,3,3,3,3,4,4,4,4,4,4,4,4,5,5,5,5,5,5,5,5,5,5,5,5,5,5,5,5,6,6,6,6,6,6,6,6,6,6,6,6,6,6,6,6,6,6,6,6,6,6,6,6,6,6,6,6,6,6,6,6,7,7,7,7,7,7,7,7,7,7,7,7,7,7,7,7,7,7,7,7,7,7,7,7,7,7,7,7,7,7,7,7,7,7,7,7,7,7,7,7,7,7,7,7,7,7,7,7,7,7,7,7,7,7,7,7,7,7,7,7,7,7,7,7,8,8,8,8,8,8,8,8,8,8,8,8,8,8,8,8,8,8,8,8,8,8,8,8,8,8,8,8,8,8,8,8,8,8,8,8,8,8,8,8,8,8,8,8,8,8,8,8,8,8,8,8,8,8,8,8,8,8,8,8,8,8,8,8,8,8,8,8,8,8,8,8,8,8,8,8,8,8,8,8,8,8,8,8,8,8,8,8,8,8,8,8,8,8,8,8,8,8,8,8,8,8,8,8,8,8,8,8,8,8,8,8,8,8,8,8,8,8,8,8,8,8,8,8,8,8,8,8]⟩
theorem TI:atN.size=256:=by decide
set_option maxRecDepth 100000 in
theorem atO(x:Nat)(h:x<256):(atN[x]'(by rw[TI];exact h)).toNat=bl x:=by
 have:∀k:Fin 256,(atN.data[k.val]!).toNat=bl k.val:=by decide+kernel
 have h2:=this ⟨x,h⟩
 simp only at h2
 rw[<-h2]
 have hs:x<atN.data.size:=by have:=TI;exact(show atN.data.size=256 from this)▸h
 rw[getElem!_pos atN.data x hs]
 rfl
theorem Rg{x j:Nat}(h:2^j<=x):bl x=bl (x/2^j)+j:=by
 have hp:=aLV j
 have h0:x/2^j≠0:=by
  have:=Nat.div_pos h hp
  omega
 have a:=Xo h0
 have b:=abW (x/2^j)
 have c:=Od h0
 obtain⟨m,hm⟩:∃m,bl (x/2^j)=m+1:=⟨bl (x/2^j)-1,by omega⟩
 rw[hm,aMX]at a
 rw[hm]at b⊢
 have h1:2^(m+j)<=x:=by
  rw[aMA]
  exact aMq (aLX _ a) (aNU _ _)
 have h2:x<2^(m+j+1):=by
  rw[show m+j+1=(m+1)+j from by omega,aMA]
  exact(aMT hp).1 b
 rw[aG6 h1 h2];omega
theorem atP{x n:Nat}(hx:x<256)(hn:n<=1000)(R:aOj->aOi->Prop)(w:aOi)(h:R (.int .i64 ((n+bl x:Nat):Int)) w):
 tW R (.int .u64 x) (.int .i64 n) w:=by
 have hg:=atO x hx
 have hs:=TI
 have hb:bl x<=8:=uY (n:=8) (by omega)
 unfold tW
 change aA pg _ w λt21 w=>aA pg (HX 9 (.string atN) t21) w _
 simp(disch:=omega)only[aA,fS,Q0,aF,vK,aLt,hg,fW,dA,gO]
 rw[Int.natCast_add]at h
 exact h
theorem RP(a b:Nat):((a:Int)).fdiv (b:Int)=((a/b:Nat):Int):=by rw[aMd _ (by omega)]<;>rfl
theorem TP(x j:Nat)(hj:j<=64):((x:Int)).fdiv (2^(min (j:Nat) IntKind.u64.bits))=((x/2^j:Nat):Int):=by
 have e:min j IntKind.u64.bits=j:=by simp only[IntKind.bits];omega
 rw[e,<-RP];simp
theorem aAO(x:Nat)(hx:x<18446744073709551616)(w:aOi):aK pg pG #[.int .u64 x] w (λr w'=>r= .int .i64 (bl x:Nat)/\w'=w):=by
 refine Sx ?_
 unfold PO Jh Jg
 have ajG:∀(y n:Nat),y<65536->n<=64->n+bl y=bl x->tX (λr w'=>r= .int .i64 (bl x:Nat)/\w'=w) (.int .u64 y) (.int .i64 n) w:=by
  intro y n hy hn e
  unfold tX Je
  by_cases h:256<=y
  .have d:decide ((256:Int)<=(y:Int))=true:=by simp;omega
   have sh:=TP y 8 (by omega)
   have hq:y/2^8<256:=by omega
   have:=Rg (x:=y) (j:=8) (by omega)
   have e2:(n:Int)+8=((n+8:Nat):Int):=by omega
   simp(disch:=omega)only[aA,AY,d,oI,gO,e2,dA,aF,bE]
   rw[show(8:Int).toNat=8 from rfl,sh]
   exact atP hq (by omega) _ _ ⟨by rw[<-e,this];congr 2;omega,rfl⟩
  .have d:decide ((256:Int)<=(y:Int))=false:=by simp;omega
   simp(disch:=omega)only[aA,AY,d,oI,gO,dA,aF,aS]
   exact atP (by omega) (by omega) _ _ ⟨by rw[e],rfl⟩
 have step16:∀(y n:Nat),y<4294967296->n<=32->n+bl y=bl x->tY (λr w'=>r= .int .i64 (bl x:Nat)/\w'=w) (.int .u64 y) (.int .i64 n) w:=by
  intro y n hy hn e
  unfold tY Jf
  by_cases h:65536<=y
  .have d:decide ((65536:Int)<=(y:Int))=true:=by simp;omega
   have sh:=TP y 16 (by omega)
   have hq:y/2^16<65536:=by omega
   have:=Rg (x:=y) (j:=16) (by omega)
   have e2:(n:Int)+16=((n+16:Nat):Int):=by omega
   simp(disch:=omega)only[aA,AY,d,oI,gO,e2,dA,aF,bE]
   rw[show(16:Int).toNat=16 from rfl,sh]
   exact ajG _ _ hq (by omega) (by rw[<-e,this];omega)
  .have d:decide ((65536:Int)<=(y:Int))=false:=by simp;omega
   simp(disch:=omega)only[aA,AY,d,oI,gO,dA,aF,aS]
   exact ajG _ _ (by omega) (by omega) e
 by_cases h:4294967296<=x
 .have d:decide ((4294967296:Int)<=(x:Int))=true:=by simp;omega
  have sh:=TP x 32 (by omega)
  have hq:x/2^32<4294967296:=by omega
  have:=Rg (x:=x) (j:=32) (by omega)
  simp(disch:=omega)only[aA,AY,d,oI,aF,bE]
  rw[show(32:Int).toNat=32 from rfl,sh]
  exact step16 _ 32 hq (by omega) (by rw[this];omega)
 .have d:decide ((4294967296:Int)<=(x:Int))=false:=by simp;omega
  simp(disch:=omega)only[aA,AY,d,oI,aF,aS]
  exact step16 _ 0 (by omega) (by omega) (by omega)
theorem aEa(x:Nat)(hx:x<18446744073709551616)(w:aOi):aK pg oZ #[.int .u64 x] w (λr w'=>r= .int .i64 (bl x:Nat)/\w'=w):=by
 refine Wq ?_
 simp(disch:=omega)only[Vo,M4,aA,gN,aF,aS]
 exact aAO x hx w
theorem afH{n:Nat}(h:n<=20):IntKind.i64.wrap (1*2^(min n IntKind.i64.bits))=((2^n:Nat):Int):=by
 have:∀k:Fin 21,IntKind.i64.wrap (1*2^(min k.val IntKind.i64.bits))=((2^k.val:Nat):Int):=by decide
 exact this ⟨n,by omega⟩
theorem Zz{w:aOi}{v:aOj}{l:List UInt8}(h:Bs w v l)(h0:0<l.length):∃b off c,v= .slice (some ⟨b,off,none⟩) l.length c/\l.length<=c/\∀i,(h:i<l.length)->w.cell? ⟨b,off+i,none⟩=some (.int .u8 (l[i].toNat:Nat)):=by
 obtain⟨b,off,c,rfl,hc,hcell⟩:=h.openV (by simpa using h0)
 refine⟨b,off,c,by rw[aLr],by simpa using hc,λi hi=> ?_⟩
 have:=hcell i (by simpa using hi)
 simpa[dP]using this
theorem afO{v:aOj}{l:List UInt8}{w:aOi}(h:Bs w v l)(hl:l.length<=1000000000):
 aK pg gB #[v] w (λr w'=>oF w' w.heap.size 1 r l.length (l.map dP)/\aN w w' bJ):=by
 refine O6 ?_
 have h1:=h
 obtain⟨a,n,c,rfl,hn,hc,hh⟩:=h
 rw[aLr]at hn
 unfold KH Gz
 cases a with
 |none=>
  have h0:l=[]:=by
   cases l with
   |nil=>rfl
   |cons x l=>obtain⟨b,off,h,_⟩:=hh (by simp at hn;omega);cases h
  subst h0
  simp(disch:=omega)only[aA,jD,aMY,aF,bE]
  exact⟨oF.nil _ _ _,aN.refl _ _⟩
 |some x=>
  simp(disch:=omega)only[aA,jD,aMZ,aF,aS]
  refine avM Tryz.underlying22 GW λw1 o1 x1 s1=> ?_
  have hcl1:=(h1.ext x1 (aU _)).cl
  rw[aLr]at hcl1
  have hos:oF w1 w.heap.size 1 (.slice (some ⟨w.heap.size,0,none⟩) 0 0) 0 []:=⟨rfl,.inr ⟨_,0,[],rfl,aLw _,o1,rfl,aLw _⟩⟩
  refine dH hos hcl1 (By _) x1.size (by omega) λv3 w3 o3 x3=> ?_
  rw[aLE,aL5]at o3
  exact⟨o3,x1.trans x3 λb hb h=>Nat.not_le_of_lt hb h⟩
def AtI(v:aOj)(lo hi:Nat):Prop:=∀M:Nat->Prop,(∀b,lo<=b->b<hi->¬M b)->¬IY v M
theorem oF.atI {w:aOi}{base sz n:Nat}{v:aOj}{l:List aOj}(h:oF w base sz v n l):AtI v base w.heap.size:=by
 intro M hM
 rcases h.2 with⟨rfl,rfl⟩|⟨b,c,rest,rfl,h2,h3,h4,h5⟩
 .exact λh=>h
 .exact At.at b 0 n c M (hM b h2 h3.lt)
theorem aEP{w:aOi}{a:Option Addr}{n c:Nat}{l:List aOj}(h:Sl w (.slice a n c) l){k:Nat}(hk:k<=n):Sl w (.slice a k c) (l.take k):=by
 obtain⟨a',n',c',e,hn,hc,hh⟩:=h
 cases e
 refine⟨a,k,c,rfl,by rw[aLz];omega,by omega,λh0=> ?_⟩
 obtain⟨b,off,ha,hcell⟩:=hh (by omega)
 refine⟨b,off,ha,λi hi=> ?_⟩
 rw[hcell i (by omega),aLT (by omega)]
theorem slA{w:aOi}{a:Option Addr}{n c:Nat}{l:List aOj}(h:Sl w (.slice a n c) l)(h0:0<n):∃b off,a=some ⟨b,off,none⟩/\∀i,i<n->w.cell? ⟨b,off+i,none⟩=l[i]?:=by
 obtain⟨a',n',c',e,hn,hc,hh⟩:=h
 cases e
 exact hh h0
end Go.Proofs.YtoecppploooloaaGreatDoor
namespace Go.Pu
open Go Go.En
def Po(c:UInt8):List Bool:=(List.range 8).map c.toNat.testBit
def kO:List UInt8->List Bool
 |[]=>[]
 |c::l=>Po c++kO l
def QG:List Bool->Nat
 |[]=>0
 |b::l=>b.toNat+2*QG l
theorem tG(c:UInt8):(Po c).length=8:=by simp[Po]
theorem Xn:∀l:List UInt8,(kO l).length=8*l.length
 |[]=>rfl
 |c::l=>by rw[kO,aLo,tG,Xn l,aLO];omega
theorem Ob:∀a b:List UInt8,kO (a++b)=kO a++kO b
 |[],b=>rfl
 |c::a,b=>by rw[aMk,kO,kO,Ob a b,aLF]
theorem aBl(c:UInt8){k:Nat}(h:k<8):(Po c)[k]?=some (c.toNat.testBit k):=by
 unfold Po
 rw[aLN,aNB h]<;>rfl
theorem Mk:∀(l:List UInt8) (i:Nat) (h:i<8*l.length),(kO l)[i]?=some ((l[i/8]'(by omega)).toNat.testBit (i%8))
 |[],i,h=>by simp at h
 |c::l,i,h=>by
  rw[kO]
  rcases aLH i 8 with h8|h8
  .rw [aLQ (by rw[tG];exact h8),aBl c h8]
   have e:i/8=0:=by omega
   have e2:i%8=i:=by omega
   simp[e,e2]
  .rw [aLW (by rw[tG];exact h8),tG,Mk l (i-8) (by simp at h;omega)]
   have e:i/8=(i-8)/8+1:=by omega
   have e2:(i-8)%8=i%8:=by omega
   simp[e,e2]
theorem apP:∀l:List Bool,QG l<2^l.length
 |[]=>by simp[QG]
 |b::l=>by
  have:=apP l
  rw[QG,aLO,aMa]
  have:b.toNat<=1:=Bool.toNat_le b
  omega
theorem acO:∀a b:List Bool,QG (a++b)=QG a+2^a.length*QG b
 |[],b=>by simp[QG]
 |x::a,b=>by
  rw[aMk,QG,QG,acO a b,aLO,aMa,aNS,<-aN7,<-aMI,aL7 2 (2^a.length)]
def cY(x:Nat)(n:Nat):List Bool:=(List.range n).map x.testBit
theorem bM(x n:Nat):(cY x n).length=n:=by simp[cY]
theorem Ii(x:Nat):cY x 0=[]:=rfl
theorem Oc(x n:Nat):cY x (n+1)=cY x n++[x.testBit n]:=by
 unfold cY;rw[aOd,aLY]<;>rfl
theorem awV(x n:Nat):cY x (n+1)=x.testBit 0::cY (x/2) n:=by
 unfold cY
 rw[List.range_succ_eq_map,aL3,List.map_map]
 congr 1
 apply aMz
 intro k _
 simp[Nat.testBit_succ]
theorem aiH:∀(n x:Nat),QG (cY x n)=x%2^n
 |0,x=>by simp[cY,QG,Nat.mod_one]
 |n+1,x=>by
  rw[awV,QG,aiH n (x/2),aMa,aL7 (2^n) 2,Nat.mod_mul]
  congr 1
  rw[Nat.testBit_zero]
  have:x%2=0∨x%2=1:=by omega
  rcases this with h|h<;>simp[h]
theorem ayL{x i:Nat}(h:x<2^i)(b:Nat):x|||(b*2^i)=x+2^i*b:=by
 rw[Nat.or_comm,aL7 b,<-Nat.two_pow_add_eq_or_of_lt h b,Nat.add_comm]
theorem aAS{a b:Nat}(ha:a<2^64)(hb:b<2^64):orI .u64 (a:Int) (b:Int)=((a|||b:Nat):Int):=by
 have h:=aN5 ha hb
 unfold orI
 have e:IntKind.u64.bits=64:=rfl
 rw[e,BitVec.ofInt_natCast,BitVec.ofInt_natCast,BitVec.toNat_or,BitVec.toNat_ofNat,BitVec.toNat_ofNat,aLR ha,aLR hb]
 exact gR (by omega) (by have:((a|||b:Nat):Int)<((2^64:Nat):Int):=by exact_mod_cast h
                         omega)
theorem aiM{a b:Nat}(ha:a<2^8)(hb:b<2^8):orI .u8 (a:Int) (b:Int)=((a|||b:Nat):Int):=by
 have h:=aN5 ha hb
 unfold orI
 have e:IntKind.u8.bits=8:=rfl
 rw[e,BitVec.ofInt_natCast,BitVec.ofInt_natCast,BitVec.toNat_or,BitVec.toNat_ofNat,BitVec.toNat_ofNat,aLR ha,aLR hb]
 exact Q0 (by omega) (by have:((a|||b:Nat):Int)<((2^8:Nat):Int):=by exact_mod_cast h
                         omega)
theorem arV{a:Nat}(h:a<2^64):Cj .u64 (a:Int) 1=((a%2:Nat):Int):=by
 unfold Cj
 have e:IntKind.u64.bits=64:=rfl
 rw[e,BitVec.ofInt_natCast,show(BitVec.ofInt 64 1)=BitVec.ofNat 64 1 from rfl,BitVec.toNat_and,BitVec.toNat_ofNat,BitVec.toNat_ofNat,aLR h,show 1%2^64=1 from rfl,Nat.and_one_is_mod]
 exact gR (by omega) (by omega)
theorem anP(x k:Nat):(x.testBit k).toNat=x/2^k%2:=by
 rw[aNk]
 have:x/2^k%2=0∨x/2^k%2=1:=by omega
 rcases this with h|h<;>simp[h]
def amU(L:List Bool)(n:Nat):Nat:=QG (L.drop (L.length-min n L.length))*2^(n-min n L.length)
theorem aD7 (L:List Bool)(n:Nat):amU L n<2^n:=by
 unfold amU
 have h:=apP (L.drop (L.length-min n L.length))
 rw[aLL,show L.length-(L.length-min n L.length)=min n L.length from by omega]at h
 calc _<2^min n L.length*2^(n-min n L.length):=Nat.mul_lt_mul_of_pos_right h (aLV _)
  _=2^n:=by rw[<-aMA];congr 1;omega
def asO(l:List UInt8):Option Nat:=match l.getLast? with
 |none=>none
 |some c=>if c.toNat=0 then none else some (8*(l.length-1)+bl c.toNat-1)
theorem amJ{l:List UInt8}(h:0<l.length):asO l=if(l[l.length-1]'(by omega)).toNat=0 then none else some (8*(l.length-1)+bl (l[l.length-1]'(by omega)).toNat-1):=by
 unfold asO
 rw[aM7,aLp (by omega)]
theorem aBI{l:List UInt8}{k:Nat}(h:asO l=some k):0<l.length/\k<8*l.length/\8*(l.length-1)<=k/\(kO l)[k]?=some true/\∀j,k<j->j<8*l.length->(kO l)[j]?=some false:=by
 have h0:0<l.length:=by
  cases l with
  |nil=>simp[asO]at h
  |cons x l=>simp
 rw[amJ h0]at h
 generalize hc:l[l.length-1]'(by omega)=c at h
 split at h
 .cases h
 .rename_i hne
  have hk:=aLS h
  have h1:=Od hne
  have h2:bl c.toNat<=8:=uY (by have:c.toNat<256:=aM3 c
                                omega)
  have h3:=Xo hne
  have h4:=abW c.toNat
  refine⟨h0,by omega,by omega, ?_, ?_⟩
  .rw [Mk l k (by omega)]
   have e:k/8=l.length-1:=by omega
   have e2:k%8=bl c.toNat-1:=by omega
   simp only[e,hc,e2]
   rw[aNk]
   obtain⟨m,hm⟩:∃m,bl c.toNat=m+1:=⟨bl c.toNat-1,by omega⟩
   rw[hm,aMX]at h3⊢
   rw[hm,aMa]at h4
   have:c.toNat/2^m=1:=by
    have hp:=aLV m
    have:=(aNQ hp).2 (show 1*2^m<=c.toNat by omega)
    have:=(aMT hp).2 (show c.toNat<2*2^m by omega)
    omega
   simp[this]
  .intro j h5 h6
   rw[Mk l j h6]
   have e:j/8=l.length-1:=by omega
   simp only[e,hc]
   rw[Nat.testBit_lt_two_pow]
   exact aNn h4 (aLB (by omega) (by omega))
end Go.Pu
namespace Go.Proofs.YtoecppploooloaaGreatDoor
open Go Go.En Go.Pu
set_option maxRecDepth 4000
def Fwd(w:aOi)(lo hi:Nat)(l:List UInt8)(st:Nat):Prop:=∃v,aZ w hi [v,.int .i64 st]/\Bs w v l/\AtI v lo hi
theorem Fwd.ext {w w':aOi}{lo hi st:Nat}{l:List UInt8}{M:Nat->Prop}(h:Fwd w lo hi l st)(hx:aN w w' M)(hM:∀b,lo<=b->b<=hi->¬M b)(hlh:lo<=hi):Fwd w' lo hi l st:=by
 obtain⟨v,h1,h2,h3⟩:=h
 exact⟨v,h1.ext hx (hM _ hlh (aLw _)),h2.ext hx (h3 M λb hb hh=>hM b hb (by omega)),h3⟩
theorem apW(p:Int)(w:aOi):aK pg rT #[.int .i64 p] w (λr w'=>r= .int .i64 (bW p)/\w'=w):=by
 refine Yz ?_
 unfold bW
 by_cases h:p<0
 .have d:decide (p<0)=true:=by simpa using h
  simp(disch:=omega)only[G0,OP,seval,d]
  rw[if_pos h]
 .have d:decide (p<0)=false:=by simpa using h
  simp(disch:=omega)only[G0,OP,seval,d]
  rw[if_neg h]
theorem ahP{ps:List Int}(h:0<ps.length):(ps.getLast?=some 0)↔ps[ps.length-1]'(by omega)=0:=by
 rw[aM7,aLp (by omega)]
 simp
theorem aHk{log:Int}{sv:aOj}{ps:List Int}{w:aOi}(hs:Sl w sv (ps.map (Value.int .i64)))(hl:ps.length<=9223372036854775807):
 aK pg Cv #[.agg #[.int .i64 log,sv]] w (λr w'=>r= .bool (apL log ps)/\aN w w' bJ):=by
 refine aeT ?_
 unfold aiG Vx Vw
 obtain⟨a,c,rfl,hc⟩:=hs.lenI
 refine fA λw1 o1 x1 s1=> ?_
 have hs0:=hs
 have hs:=hs.ext x1 (aU _)
 have c0:=o1.cell (off:=0)
 have c1:=o1.cell (off:=1)
 simp only[Value.cells,aLq,aLs]at c0 c1
 have no:¬(5<=log/\log<=15/\1<=ps.length/\ps.length<=256/\ps.getLast?≠some 0)->apL log ps=false:=λh=>by
  unfold apL aAG;rw[decide_eq_false h]<;>rfl
 by_cases h1:log<5
 .have d1:decide (log<5)=true:=by simpa using h1
  simp(disch:=omega)only[seval,c0,c1,d1]
  exact⟨by rw[no (by omega)],x1⟩
 have d1:decide (log<5)=false:=by simpa using h1
 by_cases h2:15<log
 .have d2:decide (15<log)=true:=by simpa using h2
  simp(disch:=omega)only[seval,c0,c1,d1,d2]
  exact⟨by rw[no (by omega)],x1⟩
 have d2:decide (15<log)=false:=by simpa using h2
 by_cases h3:ps.length<1
 .have d3:decide ((ps.length:Int)<1)=true:=by simp;omega
  simp(disch:=omega)only[seval,c0,c1,d1,d2,d3]
  exact⟨by rw[no (by omega)],x1⟩
 have d3:decide ((ps.length:Int)<1)=false:=by simp;omega
 by_cases h4:256<ps.length
 .have d4:decide ((256:Int)<(ps.length:Int))=true:=by simp;omega
  simp(disch:=omega)only[seval,c0,c1,d1,d2,d3,d4]
  exact⟨by rw[no (by omega)],x1⟩
 have d4:decide ((256:Int)<(ps.length:Int))=false:=by simp;omega
 obtain⟨b,off,c',e,hc',hcell⟩:=hs.openI (by omega)
 cases e
 have e1:((ps.length:Int)-1)=((ps.length-1:Nat):Int):=by omega
 have g1:=hcell (ps.length-1) (by omega)
 by_cases h5:ps[ps.length-1]'(by omega)=0
 .have d5:(ps[ps.length-1]'(by omega)==0)=true:=by simpa using h5
  simp(disch:=omega)only[seval,c0,c1,d1,d2,d3,d4,e1,g1,d5]
  exact⟨by rw[no (λh=>h.2.2.2.2 ((ahP (by omega)).2 h5))],x1⟩
 have d5:(ps[ps.length-1]'(by omega)==0)=false:=by simpa using h5
 obtain⟨l,rfl⟩:∃l:Nat,log=l:=⟨log.toNat,by omega⟩
 have hsh:IntKind.i64.wrap (1*2^(min l IntKind.i64.bits))=(2:Int)^l:=by
  have:∀k:Fin 16,IntKind.i64.wrap (1*2^(min k.val IntKind.i64.bits))=(2:Int)^k.val:=by decide
  exact this ⟨l,by omega⟩
 have hyes:apL (l:Int) ps=fits (2^l) ps:=by
  unfold apL aAG
  rw[decide_eq_true ⟨by omega,by omega,by omega,by omega,λh=>h5 ((ahP (by omega)).1 h)⟩,aLt]<;>rfl
 simp(disch:=omega)only[seval,c0,c1,d1,d2,d3,d4,e1,g1,d5,hsh]
 unfold LM LL Vv FT
 simp(disch:=omega)only[seval,c0,c1]
 have hp15:=aEx (log:=l) (by omega)
 have hp1:=aEy l
 refine aX.rule (λm t w'=>∃(i:Nat) (left:Int),m=ps.length-i/\t=(.int .i64 left,.int .i64 i)/\i<=ps.length/\0<=left/\left<=32768/\fits (2^l) ps=fits left (ps.drop i)/\aN w w' bJ) ps.length
  ⟨0,2^l,rfl,rfl,by omega,by omega,hp15,rfl,x1⟩ ?_
 rintro m t w2 ⟨i,left,rfl,rfl,hi,hl0,hl1,hf,x2⟩
 by_cases hlt:i<ps.length
 .have d6:decide ((i:Int)<(ps.length:Int))=true:=by simp;omega
  have hsw:=hs0.ext x2 (aU _)
  obtain⟨b',off',c',e,_,hcell2⟩:=hsw.openI (by omega)
  cases e
  have g2:=hcell2 i hlt
  have hd:ps.drop i=ps[i]::ps.drop (i+1):=aL4 hlt
  rw[hd,fits]at hf
  by_cases h6:ps[i]< -1
  .have d7:decide (ps[i]< -1)=true:=by simpa using h6
   simp(disch:=omega)only[AX,seval,d6,g2,d7]
   rw[if_pos (.inl h6)]at hf
   exact⟨by rw[hyes,hf],x2⟩
  have d7:decide (ps[i]< -1)=false:=by simpa using h6
  simp(disch:=omega)only[AX,seval,d6,g2,d7]
  refine(apW _ _).mono ?_
  rintro r w3 ⟨rfl,rfl⟩
  by_cases h7:left<bW ps[i]
  .have d8:decide (left<bW ps[i])=true:=by simpa using h7
   simp(disch:=omega)only[seval,d8]
   rw[if_pos (.inr h7)]at hf
   exact⟨by rw[hyes,hf],x2⟩
  have d8:decide (left<bW ps[i])=false:=by simpa using h7
  simp(disch:=omega)only[seval,d8]
  refine(apW _ _).mono ?_
  rintro r w3 ⟨rfl,rfl⟩
  rw[if_neg (by omega)]at hf
  have hpn:=mQ (p:=ps[i]) (by omega)
  simp(disch:=omega)only[seval]
  exact⟨ps.length-(i+1),by omega,i+1,left-bW ps[i],rfl,rfl,by omega,by omega,by omega,hf,x2⟩
 .have d6:decide ((i:Int)<(ps.length:Int))=false:=by simp;omega
  rw[aMD (by omega),fits]at hf
  unfold AX LK
  simp(disch:=omega)only[seval,d6]
  exact⟨by rw[hyes,hf],x2⟩
def aFP(log:Int)(ps:List Int)(most:Int):Int:=if apL log ps=false then 1 else if most<log then 12 else 0
theorem aFO{log most:Int}{sv:aOj}{ps:List Int}{w:aOi}(hs:Sl w sv (ps.map (Value.int .i64)))(hl:ps.length<=9223372036854775807):
 aK pg Ct #[.agg #[.int .i64 log,sv],.int .i64 most] w (λr w'=>r= .int .i64 (aFP log ps most)/\aN w w' bJ):=by
 refine Yu ?_
 unfold Yt PR
 refine fA λw1 o1 x1 s1=> ?_
 have hs:=hs.ext x1 (aU _)
 rw[show aH 162=aH 162 from rfl]
 have l1:=fJ o1 (off:=0) (by simp[Value.cells])
 simp only[Value.cells,aLA,aLy,aLG]at l1
 simp(disch:=omega)only[seval,l1]
 refine(aHk hs hl).mono ?_
 rintro r w2 ⟨rfl,x2⟩
 have o2:=o1.ext x2 (λh=>h)
 have c0:=o2.cell (off:=0)
 simp only[Value.cells,aLq]at c0
 unfold aFP
 cases hm:apL log ps with
 |false=>
  simp(disch:=omega)only[seval]
  exact x1.seq x2
 |true=>
  by_cases h:most<log
  .have d:decide (most<log)=true:=by simpa using h
   simp(disch:=omega)only[seval,c0,d]
   exact⟨by simp[h],x1.seq x2⟩
  .have d:decide (most<log)=false:=by simpa using h
   simp(disch:=omega)only[seval,c0,d]
   exact⟨by simp[h],x1.seq x2⟩
theorem AtI.sub {a:Option Addr}{n c m c' k sz lo hi:Nat}(h:AtI (.slice a n c) lo hi)(hm:m<=n):AtI (.slice (cW a c k sz) m c') lo hi:=by
 intro M hM hin
 cases m with
 |zero=>unfold IY at hin;split at hin<;>simp_all
 |succ m=>
  obtain⟨n',rfl⟩:∃n',n=n'+1:=⟨n-1,by omega⟩
  have h1:=h M hM
  cases a with
  |none=>unfold cW at hin;split at hin<;>exact hin
  |some x=>
   unfold cW at hin
   have h2:M x.block:=by
    split at hin
    .exact hin
    .rw [aL2]at hin
     have e:(x.add (k*sz)).block=x.block:=by unfold Addr.add;split<;>rfl
     have h3:M (x.add (k*sz)).block:=hin
     rwa [e]at h3
   exact h1 h2
abbrev Bl(w:aOi)(v:aOj)(L:List Bool):Prop:=Sl w v (L.map Value.bool)
end Go.Proofs.YtoecppploooloaaGreatDoor
namespace Go.Pu
def jW:List UInt8->Nat
 |[]=>0
 |c::l=>c.toNat+256*jW l
theorem KF:∀l:List UInt8,jW l<256^l.length
 |[]=>by simp[jW]
 |c::l=>by
  have:=KF l
  have hc:=c.toNat_lt
  rw[jW,aLO,aMa];omega
theorem amY(c:UInt8):∀l:List UInt8,jW (l++[c])=jW l+256^l.length*c.toNat
 |[]=>by simp[jW]
 |d::l=>by
  rw[aMk,jW,amY c l,jW,aLO,aMa,aNS,aMI,aL7 (256^l.length) 256,aN7]
theorem ayU(i:Nat):256^i=2^(8*i):=by rw[Nat.pow_mul]
theorem aGq(l:List UInt8)(c:UInt8):jW l|||(c.toNat*2^(8*l.length))=jW (l++[c]):=by
 have:=KF l
 rw[ayU]at this
 rw[ayL this,amY,ayU]
def dM(x:Nat):Nat->List UInt8
 |0=>[]
 |n+1=>UInt8.ofNat (x%256)::dM (x/256) n
theorem bS:∀(n x:Nat),(dM x n).length=n
 |0,_=>rfl
 |n+1,x=>by rw[dM,aLO,bS n]
theorem H3:∀(n x:Nat),jW (dM x n)=x%256^n
 |0,x=>by simp[dM,jW,Nat.mod_one]
 |n+1,x=>by
  rw[dM,jW,H3 n,aMa,aL7 (256^n) 256,Nat.mod_mul]
  have:(UInt8.ofNat (x%256)).toNat=x%256:=by
   rw[aNJ];omega
  rw[this]
theorem anF:∀(n x:Nat),dM x (n+1)=dM x n++[UInt8.ofNat (x/256^n%256)]
 |0,x=>by simp[dM]
 |n+1,x=>by
  rw[dM,anF n (x/256),dM,aMk,aMP,aMa,aL7 (256^n) 256]
def aKE(f:Nat):List UInt8->Except Int (Nat×List UInt8)
 |[]=> .error 10
 |x::r=> .ok ((f-128)*256+x.toNat,r)
def aKF:List UInt8->Except Int (Nat×List UInt8)
 |x::y::r=> .ok (x.toNat+256*y.toNat+32512,r)
 |_=> .error 10
def auF:List UInt8->Except Int (Nat×List UInt8)
 |[]=> .error 10
 |f::r=>if f.toNat<128 then .ok (f.toNat,r)else if f.toNat<255 then aKE f.toNat r else aKF r
def aeU(n:Nat):List UInt8:=
 if n<128 then[UInt8.ofNat n]else if n<32512 then[UInt8.ofNat (n/256+128),UInt8.ofNat (n%256)]else UInt8.ofNat 255::dM (n-32512) 2
theorem OQ{n:Nat}(h:n<256):(UInt8.ofNat n).toNat=n:=by rw[aNJ];omega
theorem aB5 {n:Nat}(h:n<=98047)(r:List UInt8):auF (aeU n++r)= .ok (n,r):=by
 unfold aeU
 split
 .show auF (UInt8.ofNat n::r)=_
  rw[auF,OQ (by omega),if_pos (by omega)]
 .split
  .show auF (UInt8.ofNat (n/256+128)::UInt8.ofNat (n%256)::r)=_
   rw[auF,OQ (by omega),if_neg (by omega),if_pos (by omega)]
   show Except.ok ((n/256+128-128)*256+(UInt8.ofNat (n%256)).toNat,r)=_
   rw[OQ (by omega)]
   congr 2;omega
  .show auF (UInt8.ofNat 255::(dM (n-32512) 2++r))=_
   rw[auF,OQ (by omega),if_neg (by omega),if_neg (by omega)]
   show Except.ok ((UInt8.ofNat ((n-32512)%256)).toNat+256*(UInt8.ofNat ((n-32512)/256%256)).toNat+32512,r)=_
   rw[OQ (by omega),OQ (by omega)]
   congr 2;omega
end Go.Pu
namespace Go.Proofs.YtoecppploooloaaGreatDoor
open Go Go.En Go.Pu
set_option maxRecDepth 4000
def AtS(v:aOj)(S:Nat->Prop):Prop:=∀M:Nat->Prop,(∀b,S b->¬M b)->¬IY v M
theorem AtI.toS {v:aOj}{lo hi:Nat}{S:Nat->Prop}(h:AtI v lo hi)(hS:∀b,lo<=b->b<hi->S b):AtS v S:=λM hM=>h M λb h1 h2=>hM b (hS b h1 h2)
theorem AtS.mono {v:aOj}{S T:Nat->Prop}(h:AtS v S)(hT:∀b,S b->T b):AtS v T:=λM hM=>h M λb hb=>hM b (hT b hb)
theorem AtS.toI {v:aOj}{S:Nat->Prop}{lo hi:Nat}(h:AtS v S)(hS:∀b,S b->lo<=b/\b<hi):AtI v lo hi:=λM hM=>h M λb hb=>hM b (hS b hb).1 (hS b hb).2
theorem AtS.nil (S:Nat->Prop):AtS (.slice none 0 0) S:=λM _ h=>h
theorem AtS.sub {a:Option Addr}{n c m c' k mx sz:Nat}{S:Nat->Prop}(h:AtS (.slice a n c) S)(hm:m<=n):AtS (.slice (cW a mx k sz) m c') S:=by
 intro M hM hin
 cases m with
 |zero=>unfold IY at hin;split at hin<;>simp_all
 |succ m=>
  obtain⟨n',rfl⟩:∃n',n=n'+1:=⟨n-1,by omega⟩
  have h1:=h M hM
  cases a with
  |none=>unfold cW at hin;split at hin<;>exact hin
  |some x=>
   unfold cW at hin
   have h2:M x.block:=by
    split at hin
    .exact hin
    .rw [aL2]at hin
     have e:(x.add (k*sz)).block=x.block:=by unfold Addr.add;split<;>rfl
     have h3:M (x.add (k*sz)).block:=hin
     rwa [e]at h3
   exact h1 h2
theorem aJW{w:aOi}{a:Option Addr}{n c:Nat}{l:List aOj}(h:Sl w (.slice a n c) l){k:Nat}(hk:k<=n):Sl w (.slice (cW a k 0 1) (k-0) (k-0)) (l.take k):=by
 obtain⟨a',n',c',e,hn,hc,h⟩:=h
 cases e
 refine⟨_,_,_,rfl,by rw[aLz];omega,aLw _,λh0=> ?_⟩
 obtain⟨b,off,rfl,h2⟩:=h (by omega)
 have hs:cW (some ⟨b,off,none⟩) k 0 1=some ⟨b,off+0*1,none⟩:=by unfold cW;rw[if_neg (by omega)]<;>rfl
 refine⟨b,off,by rw[hs];simp,λi hi=> ?_⟩
 rw[aLT (by omega)]
 exact h2 i (by omega)
def NR(w:aOi)(lo hi p:Nat)(l:List UInt8)(e:Int):Prop:=lo<=p/\p<hi/\∃v,aZ w p [v,.int .i64 e]/\Bs w v l/\AtS v (λb=>lo<=b/\b<hi/\b≠p)
theorem NR.ext {w w':aOi}{lo hi p:Nat}{l:List UInt8}{e:Int}{M:Nat->Prop}(h:NR w lo hi p l e)(x:aN w w' M)(hM:∀b,lo<=b->b<hi->¬M b):NR w' lo hi p l e:=by
 obtain⟨h0,h0',v,h1,h2,h3⟩:=h
 exact⟨h0,h0',v,h1.ext x (hM _ h0 h0'),h2.ext x (h3 M λb hb=>hM b hb.1 hb.2.1),h3⟩
theorem NR.lt {w:aOi}{lo hi p:Nat}{l:List UInt8}{e:Int}(h:NR w lo hi p l e):p<w.heap.size:=by
 obtain⟨_,_,v,h1,_⟩:=h;exact h1.lt
theorem Gm{v:aOj}{l:List UInt8}{w:aOi}(h:Bs w v l)(hl:l.length<=1000000000):
 aK pg fL #[v] w (λr w'=>∃p,r= .pointer (some ⟨p,0,none⟩)/\NR w' w.heap.size w'.heap.size p l 0/\aN w w' bJ):=by
 refine Qu ?_
 unfold MA G8
 refine(afO h hl).mono ?_
 rintro r w1 ⟨ho,x1⟩
 have hat:=oF.atI ho
 have hs:=ho.sl
 obtain⟨va,vc,rfl⟩:=ho.len
 simp(disch:=omega)only[seval]
 refine fA λw2 o2 x2 s2=> ?_
 have o2:aZ w2 w1.heap.size [.slice va l.length vc,.int .i64 0]:=o2
 have hz:=o2.lt
 exact⟨w1.heap.size,rfl,⟨x1.size,hz,_,o2,hs.ext x2 (aU _),hat.toS λb h1 h2=>⟨h1,by omega,by omega⟩⟩,x1.seq x2⟩
def DO(l:List UInt8)(e:Int)(n:Nat):List UInt8×List UInt8×Int:=if e≠0 then([],l,e)else if l.length<n then([],l,10)else(l.take n,l.drop n,0)
theorem asI{lo hi p n:Nat}{l:List UInt8}{e:Int}{w:aOi}(h:NR w lo hi p l e)(hl:l.length<=1000000000)(hn:n<=1000000000):
 aK pg kT #[.pointer (some ⟨p,0,none⟩),.int .i64 n,.bool true] w (λr w'=>Bs w' r (DO l e n).1/\AtS r (λb=>lo<=b/\b<hi/\b≠p)/\NR w' lo hi p (DO l e n).2.1 (DO l e n).2.2/\aN w w' (λy=>y=p)):=by
 refine MD ?_
 unfold Ir DV
 have h':=h
 obtain⟨h0,h0',v,o,hb,hat⟩:=h'
 obtain⟨va,vc,rfl,hvc⟩:=hb.len
 rw[aLr]at hb hat o hvc
 have c0:=o.cell (off:=0)
 have c1:=o.cell (off:=1)
 simp only[aLq,aLs]at c0 c1
 by_cases he:e=0
 rotate_left
 .have n1:(e !=0)=true:=by simpa using he
  have ht:DO l e n=([],l,e):=by unfold DO;rw[if_pos he]
  rw[ht]
  simp(disch:=omega)only[seval,c1,n1]
  exact⟨Sl.nil _,AtS.nil _,h,aN.refl _ _⟩
 subst he
 have n1:((0:Int) !=0)=false:=rfl
 by_cases hsh:l.length<n
 .have d1:decide ((l.length:Int)<(n:Int))=true:=by simp;omega
  have ht:DO l 0 n=([],l,10):=by unfold DO;rw[if_neg (by decide),if_pos hsh]
  rw[ht]
  simp(disch:=omega)only[seval,c1,n1,c0,d1]
  refine H0 o rfl (by simp) λw1 o1 x1 s1=> ?_
  simp only[aLu,aLx]at o1
  exact⟨Sl.nil _,AtS.nil _,⟨h0,h0',_,o1,hb.ext x1 (hat _ λb hb=>hb.2.2),hat⟩,x1⟩
 .have d1:decide ((l.length:Int)<(n:Int))=false:=by simp;omega
  have ht:DO l 0 n=(l.take n,l.drop n,0):=by unfold DO;rw[if_neg (by decide),if_neg hsh]
  rw[ht]
  simp(disch:=omega)only[seval,c1,n1,c0,d1]
  refine lH o rfl (by simp[one]) λw1 o1 x1 s1=> ?_
  simp only[aLu,aLx]at o1
  have hbn:Bs w (.slice (cW va n 0 1) (n-0) (n-0)) (l.take n):=by
   have:=aJW hb (k:=n) (by omega)
   rwa [<-aNc]at this
  have hbd:Bs w (.slice (cW va vc n 1) (l.length-n) (vc-n)) (l.drop n):=by
   have:=hb.drop' (k:=n) (by omega)
   rwa [<-aNt]at this
  have hn1:=hat.sub (mx:=n) (k:=0) (sz:=1) (m:=n-0) (c':=n-0) (by omega)
  have hn2:=hat.sub (mx:=vc) (k:=n) (sz:=1) (m:=l.length-n) (c':=vc-n) (by omega)
  exact⟨hbn.ext x1 (hn1 _ λb hb=>hb.2.2),hn1,⟨h0,h0',_,o1,hbd.ext x1 (hn2 _ λb hb=>hb.2.2),hn2⟩,x1⟩
theorem Ry{lo hi p:Nat}{l:List UInt8}{e:Int}{w:aOi}(h:NR w lo hi p l e):
 aK pg eT #[.pointer (some ⟨p,0,none⟩)] w (λr w'=>r= .int .i64 l.length/\w'=w):=by
 refine MC ?_
 unfold Io DU
 obtain⟨h0,h0',v,o,hb,hat⟩:=h
 obtain⟨va,vc,rfl,hvc⟩:=hb.len
 rw[aLr]at hb hat o hvc
 have c0:=o.cell (off:=0)
 simp only[aLq,aLs]at c0
 simp(disch:=omega)only[seval,c0]
theorem Kj{lo hi p:Nat}{l:List UInt8}{e:Int}{w:aOi}(h:NR w lo hi p l e):
 aK pg cU #[.pointer (some ⟨p,0,none⟩)] w (λr w'=>r= .int .i64 e/\w'=w):=by
 refine On ?_
 unfold Kk F6
 obtain⟨h0,h0',v,o,hb,hat⟩:=h
 have c1:=o.cell (off:=1)
 simp only[aLq,aLs]at c1
 simp(disch:=omega)only[seval,c1]
theorem ZH{lo hi p n:Nat}{l:List UInt8}{e:Int}{w:aOi}(h:NR w lo hi p l e)(hl:l.length<=1000000000)(hn:n<=1000000000):
 aK pg gI #[.pointer (some ⟨p,0,none⟩),.int .i64 n] w (λr w'=>Bs w' r (DO l e n).1/\AtS r (λb=>lo<=b/\b<hi/\b≠p)/\NR w' lo hi p (DO l e n).2.1 (DO l e n).2.2/\aN w w' (λy=>y=p)):=by
 refine La ?_
 unfold Ha CJ
 have d1:decide ((0:Int)<=(n:Int))=true:=by simp
 simp(disch:=omega)only[seval,d1]
 refine(asI h hl hn).mono ?_
 rintro r w1 hr
 exact hr
theorem yF{lo hi p n:Nat}{l:List UInt8}{e:Int}{w:aOi}(h:NR w lo hi p l e)(hl:l.length<=1000000000)(hn:1<=n/\n<=8):
 aK pg cC #[.pointer (some ⟨p,0,none⟩),.int .i64 n] w (λr w'=>r= .int .u64 (jW (DO l e n).1:Nat)/\NR w' lo hi p (DO l e n).2.1 (DO l e n).2.2/\aN w w' (λy=>y=p)):=by
 refine J0 ?_
 unfold F7 B7 B6 sG sF B5
 have d1:decide ((1:Int)<=(n:Int))=true:=by simp;omega
 have d2:decide ((n:Int)<=8)=true:=by simp;omega
 simp(disch:=omega)only[seval,d1,d2]
 refine(asI h hl (by omega)).mono ?_
 rintro r w1 ⟨hb,hat,hr,x1⟩
 obtain⟨t,ht⟩:∃t,t=(DO l e n).1:=⟨_,rfl⟩
 have htl:t.length<=8:=by
  rw[ht];unfold DO
  split
  .simp
  .split
   .simp
   .simp;omega
 rw[<-ht]at hb⊢
 obtain⟨va,vc,rfl,hvc⟩:=hb.len
 rw[aLr]at hb hvc hat
 simp(disch:=omega)only[seval,aLr]
 unfold lI
 refine aX.rule (λm s w'=>∃i:Nat,m=t.length-i/\i<=t.length/\s=(.int .u64 (jW (t.take i):Nat),.int .i64 i)/\w'=w1) t.length ⟨0,rfl,by omega,rfl,rfl⟩ ?_
 rintro m s w2 ⟨i,rfl,hi,rfl,hw⟩
 rw[hw];clear hw w2
 unfold sE
 by_cases hlt:i<t.length
 .have d3:decide ((i:Int)<(t.length:Int))=true:=by simp;omega
  obtain⟨c,hc⟩:∃c,c=t[i]'hlt:=⟨_,rfl⟩
  have htk:t.take (i+1)=t.take i++[c]:=by rw[aMB,aLp hlt,<-hc]<;>rfl
  have hor:=aGq (t.take i) c
  rw[<-htk,aLz,aMg (by omega)]at hor
  have hcl:c.toNat<256:=aM3 c
  obtain⟨b,off,c',hv,hcc,hcell⟩:=hb.openV (by rw[aLr];omega)
  have g1:=hcell i (by rw[aLr];exact hlt)
  rw[aLr]at hv
  cases hv
  rw[aMl,<-hc]at g1
  simp only[dP]at g1
  generalize c.toNat=cx at*
  have hp:2^(8*i)<=2^56:=aLB (by omega) (by omega)
  have hm:cx*2^(8*i)<=255*2^56:=Nat.mul_le_mul (by omega) hp
  have hb0:=KF (t.take i)
  have hb1:=KF (t.take (i+1))
  rw[aLz,aMg (by omega)]at hb0 hb1
  have hq:256^i<=256^7:=aLB (by omega) (by omega)
  have e0:((8:Int)*(i:Int))=((8*i:Nat):Int):=by omega
  have e5:IntKind.u64.wrap ((cx:Int)*2^(min (8*i) IntKind.u64.bits))=((cx*2^(8*i):Nat):Int):=by
   rw[show min (8*i) IntKind.u64.bits=8*i from aMg (by have:IntKind.u64.bits=64:=rfl
                                                       omega)]
   have e:(cx:Int)*2^(8*i)=((cx*2^(8*i):Nat):Int):=by simp
   rw[e]
   exact gR (by omega) (by omega)
  have e6:=aAS (a:=jW (t.take i)) (b:=cx*2^(8*i)) (by omega) (by omega)
  rw[hor]at e6
  have e7:IntKind.u64.wrap (cx:Int)=(cx:Int):=gR (by omega) (by omega)
  simp(disch:=omega)only[seval,d3,g1,e0,e5,e6,e7,aLr,aLt]
  exact⟨t.length-(i+1),by omega,i+1,rfl,by omega,rfl⟩
 .have d3:decide ((i:Int)<(t.length:Int))=false:=by simp;omega
  obtain rfl:i=t.length:=by omega
  simp(disch:=omega)only[seval,d3]
  unfold sD
  rw[aNr]
  exact⟨rfl,hr,x1⟩
def nxS(s:List UInt8×Int)(n:Nat):List UInt8×Int:=((DO s.1 s.2 n).2.1,(DO s.1 s.2 n).2.2)
def nvS(s:List UInt8×Int)(n:Nat):Nat:=jW (DO s.1 s.2 n).1
structure FH where
 window:Nat
 size:Nat
 known:Bool
 sum:Bool
def aFd(w:Nat):Nat:=2^(10+w/8)+2^(10+w/8)/8*(w%8)
def Uh(d:Nat):Bool:=d/32%2==1
def fDn(d:Nat):Nat:=if d%4=3 then 4 else d%4
def W6 (d:Nat):Nat:=if d/64=0 then(if Uh d then 1 else 0)else 2^(d/64)
def opS(s:List UInt8×Int)(n:Nat):List UInt8×Int:=if 0<n then nxS s n else s
def opV(s:List UInt8×Int)(n:Nat):Nat:=if 0<n then nvS s n else 0
def fS2 (s1:List UInt8×Int)(d:Nat):List UInt8×Int:=if Uh d then s1 else nxS s1 1
def adX(L:Nat)(s4:List UInt8×Int)(dict:Nat)(h:FH):Except Int (FH×Nat):=
 if s4.2≠0 then .error s4.2 else if dict≠0 then .error 14 else .ok (h,L-s4.1.length)
def fSz(d x:Nat):Nat:=if W6 d=2 then x+256 else x
def ahC(L:Nat)(s1:List UInt8×Int)(d:Nat):Except Int (FH×Nat):=
 adX L (opS (opS (fS2 s1 d) (fDn d)) (W6 d)) (opV (fS2 s1 d) (fDn d))
  ⟨if Uh d then fSz d (opV (opS (fS2 s1 d) (fDn d)) (W6 d))else aFd (nvS s1 1),fSz d (opV (opS (fS2 s1 d) (fDn d)) (W6 d)),decide (0<W6 d),d/4%2==1⟩
def PB(l:List UInt8):Except Int (FH×Nat):=
 if(nxS (l,0) 1).2≠0 then .error (nxS (l,0) 1).2 else if nvS (l,0) 1/8%2=1 then .error 11 else ahC l.length (nxS (l,0) 1) (nvS (l,0) 1)
def fhV(h:FH):aOj:= .agg #[.int .u64 (h.window:Nat),.int .u64 (h.size:Nat),.bool h.known,.bool h.sum]
def fRV:Except Int (FH×Nat)->aOj
 | .error e=> .tuple #[fhV ⟨0,0,false,false⟩,.int .i64 0,.int .i64 e]
 | .ok (h,n)=> .tuple #[fhV h,.int .i64 (n:Nat),.int .i64 0]
def MT(h:FH):List aOj:=[.int .u64 (h.window:Nat),.int .u64 (h.size:Nat),.bool h.known,.bool h.sum]
theorem asW{RR:aOj->aOi->Prop}{v:aOj}{L lo hi pr ph pt dict:Nat}{l:List UInt8}{e:Int}{h:FH}{z:FH}{w:aOi}(hr:NR w lo hi pr l e)(hl:l.length<=1000000)(hv:∃a c,v= .slice a L c)(hL:l.length<=L)(hL2:L<=1000000)(oh:aZ w ph (MT h))(ot:aZ w pt (MT z))(hne:ph≠pt)(hpt:¬(lo<=pt/\pt<hi))
 (hk:∀w',aN w w' (λy=>y=pt)->RR (fRV (adX L (l,e) dict h)) w'):
 FB RR v (.pointer (some ⟨pt,0,none⟩)) (.pointer (some ⟨pr,0,none⟩)) (.pointer (some ⟨ph,0,none⟩)) (.int .u64 (dict:Nat)) w:=by
 unfold FB
 obtain⟨a,c,rfl⟩:=hv
 refine(Kj hr).mono ?_
 rintro r w1 ⟨rfl,rfl⟩
 unfold adX at hk
 by_cases he:e=0
 .subst he
  have n0:((0:Int) !=0)=false:=rfl
  simp only[ne_eq,not_true,if_false]at hk
  by_cases hd:dict=0
  .subst hd
   have n1:(((0:Nat):Int) !=0)=false:=rfl
   simp only[ne_eq,not_true,if_false]at hk
   have hq:=Z9 (off:=0) (bV oh) (by simp[MT])
   simp only[MT,aLA,aLy,aLG]at hq
   simp(disch:=omega)only[seval,n0,n1,hq]
   refine(Ry (hr.ext (aN.dr w1 bJ) (λ_ _ _ h=>h))).mono ?_
   rintro r w2 ⟨rfl,rfl⟩
   have e1:(L:Int)-(l.length:Int)=((L-l.length:Nat):Int):=by omega
   simp(disch:=omega)only[seval,hq,e1]
   refine iV (bV ot) rfl (by simp[one]) (by simp[MT]) λw3 o3 x3 s3=> ?_
   try simp(disch:=omega)only[seval,e1]
   refine sM o3 (by simp[aT,MT]) ?_
   simp only[aT,MT,aLu,aLx,aLA,aLy,aLG]
   exact hk w3 ((aN.dr w1 _).seq x3)
  .have n1:((dict:Int) !=0)=true:=by simp;omega
   rw[if_pos hd]at hk
   simp(disch:=omega)only[seval,n0,n1]
   refine iV ot rfl (by simp[one]) (by simp[MT]) λw3 o3 x3 s3=> ?_
   refine sM o3 (by simp[aT,MT]) ?_
   simp only[aT,MT,aLu,aLx,aLA,aLy,aLG]
   exact hk w3 x3
 .have n0:(e !=0)=true:=by simp[he]
  rw[if_pos he]at hk
  simp(disch:=omega)only[seval,n0]
  refine(Kj hr).mono ?_
  rintro r w2 ⟨rfl,rfl⟩
  refine iV ot rfl (by simp[one]) (by simp[MT]) λw3 o3 x3 s3=> ?_
  refine sM o3 (by simp[aT,MT]) ?_
  simp only[aT,MT,aLu,aLx,aLA,aLy,aLG]
  exact hk w3 x3
theorem asX{RR:aOj->aOi->Prop}{v:aOj}{L lo hi pr ph pt dict:Nat}{l:List UInt8}{e:Int}{h:FH}{z:FH}{o:Bool}{w:aOi}(hr:NR w lo hi pr l e)(hl:l.length<=1000000)(hv:∃a c,v= .slice a L c)(hL:l.length<=L)(hL2:L<=1000000)(oh:aZ w ph (MT h))(ot:aZ w pt (MT z))(hne:ph≠pt)(hpt:¬(lo<=pt/\pt<hi))(hph:¬(lo<=ph/\ph<hi))
 (hk:∀w',aN w w' (λy=>y=pt∨y=ph)->RR (fRV (adX L (l,e) dict ⟨if o then h.size else h.window,h.size,h.known,h.sum⟩)) w'):
 FC RR v (.pointer (some ⟨pt,0,none⟩)) (.pointer (some ⟨pr,0,none⟩)) (.pointer (some ⟨ph,0,none⟩)) (.bool o) (.int .u64 (dict:Nat)) w:=by
 unfold FC U2
 cases o with
 |false=>
  simp(disch:=omega)only[seval]
  exact asW hr hl hv hL hL2 oh ot hne hpt λw' x=>hk w' (x.mono λ_ _ h=> .inl h)
 |true=>
  have c1:=oh.cell (off:=1)
  simp only[MT,aLq,aLs]at c1
  simp(disch:=omega)only[seval,c1]
  refine H6 oh rfl (by simp[MT]) λw1 o1 x1 s1=> ?_
  refine asW (h:=⟨h.size,h.size,h.known,h.sum⟩) (hr.ext x1 λy h1 h2 h3=>hph (h3▸⟨h1,h2⟩)) hl hv hL hL2 o1 (ot.ext x1 (λe=>hne e.symm)) hne hpt λw' x=>hk w' ((x1.mono λ_ _ h=> .inr h).seq (x.mono λ_ _ h=> .inl h))
theorem asY{RR:aOj->aOi->Prop}{v:aOj}{L lo hi pr ph pt dict n:Nat}{l:List UInt8}{e:Int}{h:FH}{z:FH}{o:Bool}{w:aOi}(hn:n=2->h.size<65536)(hr:NR w lo hi pr l e)(hl:l.length<=1000000)(hv:∃a c,v= .slice a L c)(hL:l.length<=L)(hL2:L<=1000000)(oh:aZ w ph (MT h))(ot:aZ w pt (MT z))(hne:ph≠pt)(hpt:¬(lo<=pt/\pt<hi))(hph:¬(lo<=ph/\ph<hi))
 (hk:∀w',aN w w' (λy=>y=pt∨y=ph)->RR (fRV (adX L (l,e) dict ⟨if o then(if n=2 then h.size+256 else h.size)else h.window,if n=2 then h.size+256 else h.size,h.known,h.sum⟩)) w'):
 FD RR v (.pointer (some ⟨pt,0,none⟩)) (.pointer (some ⟨pr,0,none⟩)) (.pointer (some ⟨ph,0,none⟩)) (.bool o) (.int .u64 (dict:Nat)) (.int .i64 (n:Nat)) w:=by
 unfold FD U3
 by_cases h2:n=2
 .have n1:((n:Int)==2)=true:=by rw[h2]<;>rfl
  simp only[h2,if_true]at hk
  have hs:=hn h2
  have c1:=oh.cell (off:=1)
  simp only[MT,aLq,aLs]at c1
  have e1:(h.size:Int)+256=((h.size+256:Nat):Int):=by omega
  simp(disch:=omega)only[seval,n1,c1,e1]
  refine H6 oh rfl (by simp[MT]) λw1 o1 x1 s1=> ?_
  refine asX (h:=⟨h.window,h.size+256,h.known,h.sum⟩) (hr.ext x1 λy h1 h2 h3=>hph (h3▸⟨h1,h2⟩)) hl hv hL hL2 o1 (ot.ext x1 (λe=>hne e.symm)) hne hpt hph λw' x=>hk w' ((x1.mono λ_ _ h=> .inr h).seq x)
 .have n1:((n:Int)==2)=false:=by simp;omega
  simp only[if_neg h2]at hk
  simp(disch:=omega)only[seval,n1]
  exact asX hr hl hv hL hL2 oh ot hne hpt hph hk
theorem aDX{RR:aOj->aOi->Prop}{v:aOj}{L lo hi pr ph pt dict n:Nat}{s:List UInt8×Int}{h:FH}{z:FH}{o:Bool}{w:aOi}(hn8:n<=8)(hn:n=2->h.size<65536)(hk0:h.known=false)(hs0:h.size=0)(hr:NR w lo hi pr s.1 s.2)(hl:s.1.length<=1000000)(hv:∃a c,v= .slice a L c)(hL:s.1.length<=L)(hL2:L<=1000000)(oh:aZ w ph (MT h))(ot:aZ w pt (MT z))(hne:ph≠pt)(hpt:¬(lo<=pt/\pt<hi))(hph:¬(lo<=ph/\ph<hi))(hpr:lo<=pr/\pr<hi)
 (hk:∀w',aN w w' (λy=>y=pt∨y=ph∨y=pr)->RR (fRV (adX L (opS s n) dict ⟨if o then(if n=2 then opV s n+256 else opV s n)else h.window,if n=2 then opV s n+256 else opV s n,decide (0<n),h.sum⟩)) w'):
 AT RR v (.pointer (some ⟨pt,0,none⟩)) (.pointer (some ⟨pr,0,none⟩)) (.pointer (some ⟨ph,0,none⟩)) (.bool o) (.int .u64 (dict:Nat)) (.int .i64 (n:Nat)) w:=by
 unfold AT U4
 by_cases h0:0<n
 .have d1:decide ((n:Int)>0)=true:=decide_eq_true (by omega)
  have d2:decide ((0:Int)<(n:Int))=true:=decide_eq_true (by omega)
  unfold opS opV at hk
  simp only[if_pos h0,decide_eq_true h0]at hk
  have hlt:nvS s n<256^n:=by
   unfold nvS DO
   split
   .simp [jW];exact Nat.pow_pos (by omega)
   .split
    .simp [jW];exact Nat.pow_pos (by omega)
    .have:=KF (s.1.take n)
     rw[aLz,aMg (by omega)]at this
     exact this
  have hle:(nxS s n).1.length<=s.1.length:=by
   unfold nxS DO
   split
   .exact aLw _
   .split
    .exact aLw _
    .simp only[aLL];omega
  simp(disch:=omega)only[seval,d1,d2]
  refine(yF hr (by omega) ⟨h0,hn8⟩).mono ?_
  rintro r w1 ⟨rfl,hr1,x1⟩
  have oh1:=oh.ext x1 (λe=>hph (e▸hpr))
  have ot1:=ot.ext x1 (λe=>hpt (e▸hpr))
  refine H6 oh1 rfl (by simp[MT]) λw2 o2 x2 s2=> ?_
  refine aGR (off:=2) o2 rfl (by simp[MT]) λw3 o3 x3 s3=> ?_
  have x23:=x2.seq x3
  refine asY (h:=⟨h.window,nvS s n,true,h.sum⟩) (l:=(nxS s n).1) (e:=(nxS s n).2) (λh2=>by rw[h2]at hlt;rw[h2];simpa using hlt) (hr1.ext x23 λy h1 h2 h3=>hph (h3▸⟨h1,h2⟩)) (by omega) hv (by omega) hL2 o3 (ot1.ext x23 (λe=>hne e.symm)) hne hpt hph λw' x=>hk w' (((x1.mono λ_ _ h=> .inr (.inr h)).seq (x23.mono λ_ _ h=> .inr (.inl h))).seq (x.mono λ_ _ h=>h.elim .inl λh=> .inr (.inl h)))
 .have d1:decide ((n:Int)>0)=false:=decide_eq_false (by omega)
  have d2:decide ((0:Int)<(n:Int))=false:=decide_eq_false (by omega)
  unfold opS opV at hk
  simp only[if_neg h0,decide_eq_false h0]at hk
  simp(disch:=omega)only[seval,d1,d2]
  refine asY (h:=h) (l:=s.1) (e:=s.2) hn hr hl hv hL hL2 oh ot hne hpt hph λw' x=> ?_
  have:=hk w' (x.mono λ_ _ h=>h.elim .inl λh=> .inr (.inl h))
  rw[hs0,hk0]
  exact this
theorem asZ{RR:aOj->aOi->Prop}{v:aOj}{L lo hi pr ph pt dict d:Nat}{s:List UInt8×Int}{h:FH}{z:FH}{w:aOi}(hd:d<256)(hk0:h.known=false)(hs0:h.size=0)(hr:NR w lo hi pr s.1 s.2)(hl:s.1.length<=1000000)(hv:∃a c,v= .slice a L c)(hL:s.1.length<=L)(hL2:L<=1000000)(oh:aZ w ph (MT h))(ot:aZ w pt (MT z))(hne:ph≠pt)(hpt:¬(lo<=pt/\pt<hi))(hph:¬(lo<=ph/\ph<hi))(hpr:lo<=pr/\pr<hi)
 (hk:∀w',aN w w' (λy=>y=pt∨y=ph∨y=pr)->RR (fRV (adX L (opS s (W6 d)) dict ⟨if Uh d then fSz d (opV s (W6 d))else h.window,fSz d (opV s (W6 d)),decide (0<W6 d),h.sum⟩)) w'):
 AU RR v (.pointer (some ⟨pt,0,none⟩)) (.pointer (some ⟨pr,0,none⟩)) (.int .i64 (d:Nat)) (.pointer (some ⟨ph,0,none⟩)) (.bool (Uh d)) (.int .u64 (dict:Nat)) w:=by
 unfold AU U5
 have main:∀n:Nat,n=W6 d->AT RR v (.pointer (some ⟨pt,0,none⟩)) (.pointer (some ⟨pr,0,none⟩)) (.pointer (some ⟨ph,0,none⟩)) (.bool (Uh d)) (.int .u64 (dict:Nat)) (.int .i64 (n:Nat)) w:=by
  rintro n rfl
  refine aDX (h:=h) (s:=s) ?_ (λ_=>by omega) hk0 hs0 hr hl hv hL hL2 oh ot hne hpt hph hpr λw' x=> ?_
  .unfold W6
   have:d/64=0∨d/64=1∨d/64=2∨d/64=3:=by omega
   rcases this with h|h|h|h<;>rw[h]<;>simp
   split<;>omega
  .have:=hk w' x
   unfold fSz at this
   exact this
 have h4:d/64=0∨d/64=1∨d/64=2∨d/64=3:=by omega
 have e6:(d:Int).fdiv (2^min (Int.toNat 6) IntKind.i64.bits)=((d/64:Nat):Int):=by
  have:(2:Int)^min (Int.toNat 6) IntKind.i64.bits=64:=by decide
  rw[this,aMd _ (by omega)];omega
 rcases h4 with h4|h4|h4|h4<;>rw[h4]at e6
 .cases ho:Uh d with
  |true=>
   have e:1=W6 d:=by unfold W6;rw[h4,ho]<;>rfl
   have:=main 1 e
   rw[ho]at this
   simp(disch:=omega)only[aA,dY,oI,e6,yH,kK,if_true,aF,jE,qQ,aLt]
   exact this
  |false=>
   have e:0=W6 d:=by unfold W6;rw[h4,ho]<;>rfl
   have:=main 0 e
   rw[ho]at this
   simp(disch:=omega)only[aA,dY,oI,e6,Ai,kK,aLC,if_false,aF,aS,gK,qQ,aLt]
   exact this
 .have e:2=W6 d:=by unfold W6;rw[h4]<;>rfl
  simp(disch:=omega)only[aA,dY,oI,e6,kK,aF,qQ,aLt]
  cases ho:Uh d<;>(simp(disch:=omega)only[Ai,aLC,if_false,aS,gK,yH,if_true,jE];rw[<-ho];exact main 2 e)
 .have e:4=W6 d:=by unfold W6;rw[h4]<;>rfl
  simp(disch:=omega)only[aA,dY,oI,e6,kK,aF,qQ,aLt]
  cases ho:Uh d<;>(simp(disch:=omega)only[Ai,aLC,if_false,aS,gK,yH,if_true,jE];rw[<-ho];exact main 4 e)
 .have e:8=W6 d:=by unfold W6;rw[h4]<;>rfl
  simp(disch:=omega)only[aA,dY,oI,e6,kK,aF,qQ,aLt]
  cases ho:Uh d<;>(simp(disch:=omega)only[Ai,aLC,if_false,aS,gK,yH,if_true,jE];rw[<-ho];exact main 8 e)
theorem aHc{d:Nat}(h:d<256):Cj .i64 (d:Int) 3=((d%4:Nat):Int)/\(Cj .i64 (d:Int) 4 !=0)=(d/4%2==1)/\(Cj .i64 (d:Int) 8 !=0)=(d/8%2==1)/\(Cj .i64 (d:Int) 32 !=0)=(d/32%2==1):=by
 have:∀k:Fin 256,Cj .i64 (k.val:Int) 3=((k.val%4:Nat):Int)/\(Cj .i64 (k.val:Int) 4 !=0)=(k.val/4%2==1)/\(Cj .i64 (k.val:Int) 8 !=0)=(k.val/8%2==1)/\(Cj .i64 (k.val:Int) 32 !=0)=(k.val/32%2==1):=by decide+kernel
 exact this ⟨d,h⟩
theorem aKR(x:Nat)(h:x<256):IntKind.u64.wrap (IntKind.u64.wrap (1*2^min (10+((x/8:Nat):Int)).toNat IntKind.u64.bits)+IntKind.u64.wrap (IntKind.u64.wrap ((IntKind.u64.wrap (1*2^min (10+((x/8:Nat):Int)).toNat IntKind.u64.bits)).tdiv 8)*Cj IntKind.u64 (x:Int) 7))=((aFd x:Nat):Int):=by
 have:∀k:Fin 256,IntKind.u64.wrap (IntKind.u64.wrap (1*2^min (10+((k.val/8:Nat):Int)).toNat IntKind.u64.bits)+IntKind.u64.wrap (IntKind.u64.wrap ((IntKind.u64.wrap (1*2^min (10+((k.val/8:Nat):Int)).toNat IntKind.u64.bits)).tdiv 8)*Cj IntKind.u64 (k.val:Int) 7))=((aFd k.val:Nat):Int):=by decide+kernel
 exact this ⟨x,h⟩
theorem aFe{x:Nat}{w:aOi}(h:x<256):aK pg Co #[.int .u64 (x:Nat)] w (λr w'=>r= .int .u64 (aFd x:Nat)/\w'=w):=by
 refine XS ?_
 unfold XR PD
 have e0:(x:Int).fdiv (2^min (Int.toNat 3) IntKind.u64.bits)=((x/8:Nat):Int):=by
  have:(2:Int)^min (Int.toNat 3) IntKind.u64.bits=8:=by decide
  rw[this,aMd _ (by omega)];omega
 simp(disch:=omega)only[aA,oI,e0,Dd,aF,gO,gR,Jm,YK,VA,and_true]
 rw[aKR x h]
theorem amM{RR:aOj->aOi->Prop}{v:aOj}{L lo hi pr ph pt d:Nat}{s:List UInt8×Int}{h:FH}{z:FH}{w:aOi}(hd:d<256)(hk0:h.known=false)(hs0:h.size=0)(hr:NR w lo hi pr s.1 s.2)(hl:s.1.length<=1000000)(hv:∃a c,v= .slice a L c)(hL:s.1.length<=L)(hL2:L<=1000000)(oh:aZ w ph (MT h))(ot:aZ w pt (MT z))(hne:ph≠pt)(hpt:¬(lo<=pt/\pt<hi))(hph:¬(lo<=ph/\ph<hi))(hpr:lo<=pr/\pr<hi)
 (hk:∀w',aN w w' (λy=>y=pt∨y=ph∨y=pr)->RR (fRV (adX L (opS (opS s (fDn d)) (W6 d)) (opV s (fDn d)) ⟨if Uh d then fSz d (opV (opS s (fDn d)) (W6 d))else h.window,fSz d (opV (opS s (fDn d)) (W6 d)),decide (0<W6 d),h.sum⟩)) w'):
 CV RR v (.pointer (some ⟨pt,0,none⟩)) (.pointer (some ⟨pr,0,none⟩)) (.int .i64 (d:Nat)) (.pointer (some ⟨ph,0,none⟩)) (.bool (Uh d)) w:=by
 unfold CV RS
 obtain⟨b3,_⟩:=aHc hd
 have main:∀n:Nat,n<=8->0<n->fDn d=n->aK pg cC #[.pointer (some ⟨pr,0,none⟩),.int .i64 n] w (λt50 w1=>AU RR v (.pointer (some ⟨pt,0,none⟩)) (.pointer (some ⟨pr,0,none⟩)) (.int .i64 (d:Nat)) (.pointer (some ⟨ph,0,none⟩)) (.bool (Uh d)) t50 w1):=by
  intro n hn h0 e
  rw[e]at hk
  unfold opS at hk
  unfold opV at hk
  rw[if_pos h0,if_pos h0]at hk
  have hle:(nxS s n).1.length<=s.1.length:=by
   unfold nxS DO
   split
   .exact aLw _
   .split
    .exact aLw _
    .simp only[aLL];omega
  refine(yF hr (by omega) ⟨h0,hn⟩).mono ?_
  rintro r w1 ⟨rfl,hr1,x1⟩
  exact asZ (s:=nxS s n) (dict:=nvS s n) hd hk0 hs0 hr1 (by omega) hv (by omega) hL2 (oh.ext x1 (λe=>hph (e▸hpr))) (ot.ext x1 (λe=>hpt (e▸hpr))) hne hpt hph hpr λw' x=>hk w' ((x1.mono λ_ _ h=> .inr (.inr h)).seq x)
 have h4:d%4=0∨d%4=1∨d%4=2∨d%4=3:=by omega
 rcases h4 with h4|h4|h4|h4<;>rw[h4]at b3
 .have e:fDn d=0:=by unfold fDn;rw[h4]<;>rfl
  have n1:decide ((0:Int)>0)=false:=rfl
  simp(disch:=omega)only[aA,dY,Dd,b3,aF,qQ,aLt]
  refine asZ (s:=s) (dict:=0) hd hk0 hs0 hr hl hv hL hL2 oh ot hne hpt hph hpr λw' x=> ?_
  have:=hk w' x
  rw[e]at this
  exact this
 .have n1:decide ((1:Int)>0)=true:=rfl
  have n2:decide ((0:Int)<1)=true:=rfl
  simp(disch:=omega)only[aA,dY,Dd,b3,aF,qQ,aLt]
  exact main 1 (by omega) (by omega) (by unfold fDn;rw[h4]<;>rfl)
 .have n1:decide ((2:Int)>0)=true:=rfl
  have n2:decide ((0:Int)<2)=true:=rfl
  simp(disch:=omega)only[aA,dY,Dd,b3,aF,qQ,aLt]
  exact main 2 (by omega) (by omega) (by unfold fDn;rw[h4]<;>rfl)
 .have n1:decide ((4:Int)>0)=true:=rfl
  have n2:decide ((0:Int)<4)=true:=rfl
  simp(disch:=omega)only[aA,dY,Dd,b3,aF,qQ,aLt]
  exact main 4 (by omega) (by omega) (by unfold fDn;rw[h4]<;>rfl)
theorem aEh(s:List UInt8×Int)(n:Nat):(nxS s n).1.length<=s.1.length:=by
 unfold nxS DO
 split
 .exact aLw _
 .split
  .exact aLw _
  .simp only[aLL];omega
theorem aiI(s:List UInt8×Int)(n:Nat):nvS s n<256^n:=by
 unfold nvS DO
 split
 .simp [jW];exact Nat.pow_pos (by omega)
 .split
  .simp [jW];exact Nat.pow_pos (by omega)
  .have:=KF (s.1.take n)
   rw[aLz,aMg (by omega)]at this
   exact this
theorem asV{v:aOj}{l:List UInt8}{w:aOi}(hb:Bs w v l)(hl:l.length<=1000000):aK pg HI #[v] w (λr w'=>r=fRV (PB l)/\aN w w' bJ):=by
 refine adZ ?_
 unfold ahF RU RT
 refine Be λw1 o1 x1 s1=> ?_
 obtain⟨pt,hpt⟩:∃p,p=w.heap.size:=⟨_,rfl⟩
 rw[<-hpt]at o1⊢
 have hz1:=o1.lt
 have hb1:=hb.ext x1 (aU _)
 obtain⟨va,vc,hv,_⟩:=hb.len
 rw[aLr]at hv
 refine(Gm hb1 (by omega)).mono ?_
 rintro r w2 ⟨pr,rfl,hr,x2⟩
 have o2:=o1.ext x2 (λh=>h)
 have hpr:w1.heap.size<=pr/\pr<w2.heap.size:=⟨hr.1,hr.2.1⟩
 refine(yF (n:=1) hr (by omega) ⟨by omega,by omega⟩).mono ?_
 rintro r w3 ⟨rfl,hr3,x3⟩
 have e1:(jW (DO l 0 1).1)=nvS (l,0) 1:=rfl
 have e2:(DO l 0 1).2.1=(nxS (l,0) 1).1:=rfl
 have e3:(DO l 0 1).2.2=(nxS (l,0) 1).2:=rfl
 rw[e2,e3]at hr3
 rw[e1]
 have o3:=o2.ext x3 (by intro h;omega)
 obtain⟨d,hd⟩:∃d,d=nvS (l,0) 1:=⟨_,rfl⟩
 obtain⟨s,hs⟩:∃s,s=nxS (l,0) 1:=⟨_,rfl⟩
 have hdl:d<256:=by have:=aiI (l,0) 1;omega
 have hsl:s.1.length<=l.length:=by have:=aEh (l,0) 1;rw[hs];exact this
 rw[<-hd]
 rw[<-hs]at hr3
 have hfr:PB l=if s.2≠0 then .error s.2 else if d/8%2=1 then .error 11 else ahC l.length s d:=by unfold PB;rw[<-hd,<-hs]
 rw[hfr]
 obtain⟨b3,b4,b8,b32⟩:=aHc hdl
 have wd:IntKind.i64.wrap (d:Int)=d:=dA (by omega) (by omega)
 simp(disch:=omega)only[aA,Lc,wd,Mj,aF,Dd,Eb,YJ,Kg]
 refine(Kj hr3).mono ?_
 rintro r w4 ⟨rfl,h4⟩
 rw[h4];clear h4 w4
 have x03:aN w w3 bJ:=x1.trans (x2.trans x3 λy hy h=>by have:=x2.size;omega) λy hy h=>h
 by_cases he:s.2=0
 rotate_left
 .have n0:(s.2 !=0)=true:=by simp[he]
  rw[if_pos he]
  simp(disch:=omega)only[Eb,n0,aF,bE]
  refine(Kj hr3).mono ?_
  rintro r w4 ⟨rfl,h4⟩
  rw[h4];clear h4 w4
  refine iV o3 rfl (by simp[one]) (by simp) λw5 o5 x5 s5=> ?_
  refine sM o5 (by simp[aT]) ?_
  simp only[aT,aLu,aLx,aLA,aLy,aLG]
  exact⟨rfl,x03.trans x5 λy hy h=>by omega⟩
 have n0:(s.2 !=0)=false:=by simp[he]
 rw[if_neg (by simpa using he)]
 by_cases h8:d/8%2=1
 .have n8:(d/8%2==1)=true:=by simp[h8]
  rw[if_pos h8]
  rw[n8]at b8
  simp(disch:=omega)only[Eb,n0,b8,bE,aF,aS]
  refine iV o3 rfl (by simp[one]) (by simp) λw5 o5 x5 s5=> ?_
  refine sM o5 (by simp[aT]) ?_
  simp only[aT,aLu,aLx,aLA,aLy,aLG]
  exact⟨rfl,x03.trans x5 λy hy h=>by omega⟩
 have n8:(d/8%2==1)=false:=by simp[h8]
 rw[if_neg h8]
 rw[n8]at b8
 obtain⟨RR,hRR⟩:∃RR:aOj->aOi->Prop,RR=λr w'=>r=fRV (ahC l.length s d)/\aN w w' bJ:=⟨_,rfl⟩
 rw[<-hRR]
 have e32:(d/32%2==1)=Uh d:=rfl
 rw[e32]at b32
 simp(disch:=omega)only[Eb,n0,b8,b4,aS,aF]
 refine Be λw5 o5 x5 s5=> ?_
 obtain⟨ph,hph⟩:∃p,p=w3.heap.size:=⟨_,rfl⟩
 rw[<-hph]at o5⊢
 have hz3:=x2.size
 have hz4:=x3.size
 refine iV o5 rfl (by simp[one]) (by simp) λw6 o6 x6 s6=> ?_
 simp only[aT,aLu,aLx]at o6
 have x36:aN w3 w6 bJ:=x5.new x6 (by omega)
 have x06:aN w w6 bJ:=x03.trans x36 λy hy h=>h
 have hr6:=hr3.ext x36 (λ_ _ _ h=>h)
 have o36:=o3.ext x36 (λh=>h)
 have oh6:aZ w6 ph (MT ⟨0,0,false,d/4%2==1⟩):=o6
 have ot6:aZ w6 pt (MT ⟨0,0,false,false⟩):=o36
 rw[b32]
 cases ho:Uh d with
 |true=>
  simp(disch:=omega)only[aMv,tM,aF,aS]
  rw[<-ho]
  refine amM (L:=l.length) (s:=s) hdl rfl rfl hr6 (by omega) ⟨_,_,hv⟩ hsl (by omega) oh6 ot6 (by omega) (by omega) (by omega) hpr λw' x=> ?_
  rw[hRR]
  refine⟨?_,x06.trans x λy hy h=>by omega⟩
  unfold ahC fS2
  rw[ho]
  rfl
 |false=>
  simp(disch:=omega)only[aMF,tM,aF,bE]
  refine(yF (n:=1) hr6 (by omega) ⟨by omega,by omega⟩).mono ?_
  rintro r w7 ⟨rfl,hr7,x7⟩
  have e1:(jW (DO s.1 s.2 1).1)=nvS s 1:=rfl
  have e2:(DO s.1 s.2 1).2.1=(nxS s 1).1:=rfl
  have e3:(DO s.1 s.2 1).2.2=(nxS s 1).2:=rfl
  rw[e2,e3]at hr7
  rw[e1]
  refine(aFe (by have:=aiI s 1;omega)).mono ?_
  rintro r w8 ⟨rfl,h4⟩
  rw[h4];clear h4 w8
  have oh7:=oh6.ext x7 (by intro h;omega)
  have ot7:=ot6.ext x7 (by intro h;omega)
  refine H6 (off:=0) oh7 rfl (by simp[MT]) λw9 o9 x9 s9=> ?_
  simp only[MT,aLu,aLx]at o9
  have oh9:aZ w9 ph (MT ⟨aFd (nvS s 1),0,false,d/4%2==1⟩):=o9
  have x69:aN w6 w9 (λy=>y=pr∨y=ph):=(x7.mono λ_ _ h=> .inl h).seq (x9.mono λ_ _ h=> .inr h)
  have hle:=aEh s 1
  rw[<-ho]
  refine amM (L:=l.length) (s:=nxS s 1) hdl rfl rfl (hr7.ext x9 λy h1 h2 h=>by omega) (by omega) ⟨_,_,hv⟩ (by omega) (by omega) oh9 (ot7.ext x9 (by omega)) (by omega) (by omega) (by omega) hpr λw' x=> ?_
  rw[hRR]
  refine⟨?_,(x06.trans x69 λy hy h=>by omega).trans x λy hy h=>by omega⟩
  unfold ahC fS2
  rw[ho]
  rfl
theorem aJp(n:Nat):n&&&3=n%4:=aM8 n 2
theorem aJn(n:Nat):n&&&1=n%2:=aM8 n 1
theorem aHL{x:Nat}(h:x<2^62):Cj .i64 (x:Int) 3=((x%4:Nat):Int):=by
 unfold Cj
 have e1:(BitVec.ofInt IntKind.i64.bits (x:Int)&&&BitVec.ofInt IntKind.i64.bits 3).toNat=x%4:=by
  rw[BitVec.toNat_and]
  simp only[IntKind.bits,BitVec.toNat_ofInt]
  have h1:((x:Int)%((2^64:Nat):Int)).toNat=x:=by omega
  have h2:((3:Int)%((2^64:Nat):Int)).toNat=3:=by decide
  rw[h1,h2,aJp]
 rw[e1]
 exact dA (by omega) (by omega)
theorem aHK{x:Nat}(h:x<2^62):Cj .i64 (x:Int) 1=((x%2:Nat):Int):=by
 unfold Cj
 have e1:(BitVec.ofInt IntKind.i64.bits (x:Int)&&&BitVec.ofInt IntKind.i64.bits 1).toNat=x%2:=by
  rw[BitVec.toNat_and]
  simp only[IntKind.bits,BitVec.toNat_ofInt]
  have h1:((x:Int)%((2^64:Nat):Int)).toNat=x:=by omega
  have h2:((1:Int)%((2^64:Nat):Int)).toNat=1:=by decide
  rw[h1,h2,aJn]
 rw[e1]
 exact dA (by omega) (by omega)
def rbA(x:Nat):aOj:= .agg #[.bool (x%2==1),.int .i64 (x/2%4:Nat),.int .i64 (x/8:Nat)]
def rbV(l:List UInt8):aOj:=if jW l/2%4=3 then .tuple #[.agg #[.bool false,.int .i64 0,.int .i64 0],.int .i64 11]else .tuple #[rbA (jW l),.int .i64 0]
theorem auT{v:aOj}{l:List UInt8}{w:aOi}(hb:Bs w v l)(hl:l.length=3):aK pg wR #[v] w (λr w'=>r=rbV l/\aN w w' bJ):=by
 refine RQ ?_
 unfold PC IE
 refine CA λw1 o1 x1 s1=> ?_
 obtain⟨pt,hpt⟩:∃p,p=w.heap.size:=⟨_,rfl⟩
 rw[<-hpt]at o1⊢
 have hz1:=o1.lt
 have hb1:=hb.ext x1 (aU _)
 refine(Gm hb1 (by omega)).mono ?_
 rintro r w2 ⟨pr,rfl,hr,x2⟩
 have o2:=o1.ext x2 (λh=>h)
 have hpr:w1.heap.size<=pr/\pr<w2.heap.size:=⟨hr.1,hr.2.1⟩
 refine(yF (n:=3) hr (by omega) ⟨by omega,by omega⟩).mono ?_
 rintro r w3 ⟨rfl,hr3,x3⟩
 have o3:=o2.ext x3 (by intro h;omega)
 have e1:DO l 0 3=(l,[],0):=by
  unfold DO
  rw[if_neg (by decide),if_neg (by omega),aLK (by omega),aMD (by omega)]
 rw[e1]at hr3⊢
 have hlt:jW l<2^24:=by have:=KF l;rw[hl]at this;omega
 unfold rbV
 obtain⟨x,hx⟩:∃x,x=jW l:=⟨_,rfl⟩
 rw[<-hx]at hlt⊢
 have wd:IntKind.i64.wrap (x:Int)=x:=dA (by omega) (by omega)
 have s1:(x:Int).fdiv (2^min (Int.toNat 1) IntKind.i64.bits)=((x/2:Nat):Int):=by
  have:(2:Int)^min (Int.toNat 1) IntKind.i64.bits=2:=by decide
  rw[this,aMd _ (by omega)];omega
 have s3:(x:Int).fdiv (2^min (Int.toNat 3) IntKind.i64.bits)=((x/8:Nat):Int):=by
  have:(2:Int)^min (Int.toNat 3) IntKind.i64.bits=8:=by decide
  rw[this,aMd _ (by omega)];omega
 have a3:=aHL (x:=x/2) (by omega)
 have a1:=aHK (x:=x) (by omega)
 have n0:((0:Int) !=0)=false:=rfl
 have x03:aN w w3 bJ:=x1.trans (x2.trans x3 λy hy h=>by have:=x2.size;omega) λy hy h=>h
 simp(disch:=omega)only[aA,Lc,wd,Pn,aF,oI,Dd,mR,F4,sX]
 refine(Kj hr3).mono ?_
 rintro r w4 ⟨rfl,h4⟩
 rw[h4];clear h4 w4
 by_cases h3:x/2%4=3
 .have d1:decide (((x/2%4:Nat):Int)>2)=true:=decide_eq_true (by omega)
  have d2:decide ((2:Int)<((x/2%4:Nat):Int))=true:=decide_eq_true (by omega)
  rw[if_pos h3]
  simp(disch:=omega)only[Eb,n0,s1,a3,d1,bE,aF,aS]
  refine vD o3 rfl (by simp[one]) (by simp) λw5 o5 x5 s5=> ?_
  refine PK o5 (by simp[aT]) ?_
  simp only[aT,aLu,aLx,aLA,aLy,aLG]
  exact⟨trivial,x03.trans x5 λy hy h=>by omega⟩
 .have d1:decide (((x/2%4:Nat):Int)>2)=false:=decide_eq_false (by omega)
  have d2:decide ((2:Int)<((x/2%4:Nat):Int))=false:=decide_eq_false (by omega)
  have e5:(((x%2:Nat):Int)==1)=(x%2==1):=by
   have:x%2=0∨x%2=1:=by omega
   rcases this with h|h<;>rw[h]<;>rfl
  rw[if_neg h3]
  simp(disch:=omega)only[Eb,n0,s1,a3,d1,a1,e5,s3,aS,aF]
  refine vD o3 rfl (by simp[one]) (by simp) λw5 o5 x5 s5=> ?_
  refine PK o5 (by simp[aT]) ?_
  simp only[aT,aLu,aLx,aLA,aLy,aLG]
  exact⟨rfl,x03.trans x5 λy hy h=>by omega⟩
end Go.Proofs.YtoecppploooloaaGreatDoor
namespace Go.Proofs.YtoecppploooloaaGreatDoor
open Go Go.En Go.Pu
theorem aDU{x n m:Nat}(h:m=n):(x:Int).fdiv (2^m)=((x/2^n:Nat):Int):=by
 subst h
 rw[aMd _ (by exact_mod_cast aMM _)]
 push_cast
 rfl
theorem aIG{x n:Nat}(h:n<=64):(x:Int).fdiv (2^min n IntKind.u64.bits)=((x/2^n:Nat):Int):=aDU (by have:IntKind.u64.bits=64:=rfl;omega)
theorem awO{x n:Nat}(hx:x<2^63)(hn:n<=62):Cj .u64 (x:Int) ((2^n-1:Nat):Int)=((x%2^n:Nat):Int):=by
 have hp:2^n<=2^62:=aLB (by omega) hn
 unfold Cj
 have e:IntKind.u64.bits=64:=rfl
 rw[e,BitVec.ofInt_natCast,BitVec.ofInt_natCast,BitVec.toNat_and,BitVec.toNat_ofNat,BitVec.toNat_ofNat,aLR (by omega),aLR (by omega),aM8]
 have:=Nat.mod_le x (2^n)
 exact gR (by omega) (by omega)
end Go.Proofs.YtoecppploooloaaGreatDoor
namespace Go.Proofs.YtoecppploooloaaGreatDoor
open Go Go.En Go.Pu
set_option maxRecDepth 4000
theorem aGk{n:Nat}{w:aOi}(hn:n<=131072):
 aK pg wT #[.int .u64 1,.int .u64 n] w (λr w'=>r= .tuple #[.int .u64 0,.int .u64 n]/\aN w w' bJ):=by
 refine Sy ?_
 unfold PQ Ji
 have a1:Cj .u64 1 4294967295=1:=by decide
 have a2:Cj .u64 (n:Int) 4294967295=n:=by
  have:=awO (x:=n) (n:=32) (by omega) (by omega)
  rw[aLR (by omega)]at this
  exact this
 have a0:Cj .u64 0 4294967295=0:=by decide
 have s1:(1:Int).fdiv (2^min 32 IntKind.u64.bits)=0:=by decide
 have s0:(0:Int).fdiv (2^min 32 IntKind.u64.bits)=0:=by decide
 have s2:(n:Int).fdiv (2^min 32 IntKind.u64.bits)=0:=by
  rw[aIG (by omega),Nat.div_eq_of_lt (by omega)]<;>rfl
 have t32:(32:Int).toNat=32:=rfl
 have w0:IntKind.u64.wrap 0=0:=rfl
 have w1:IntKind.u64.wrap (n:Int)=n:=gR (by omega) (by omega)
 simp(disch:=omega)only[aA,Dd,a1,oI,t32,s1,a2,s2,VA,Int.one_mul,w1,aF,Int.zero_mul,w0,Int.mul_zero,gO,Int.add_zero,a0,s0,true_and]
 exact aN.refl _ _
theorem aJK{n:Nat}{w:aOi}(hn:n<=131072):
 aK pg Bc #[.int .u64 1,.int .u64 n] w (λr w'=>r= .tuple #[.int .u64 0,.int .u64 n]/\aN w w' bJ):=by
 refine Wt ?_
 unfold Vp M5
 simp(disch:=omega)only[aA,gN,ND,aF,aS]
 refine(aGk hn).mono ?_
 rintro r w1 ⟨rfl,x1⟩
 simp(disch:=omega)only[x20,x21,aF,true_and]
 exact x1
theorem aIz{z v:aOj}{i n:Nat}(hi:i<=n):aT (List.replicate i v++List.replicate (n-i) z) i ((List.replicate i v).take (min i (n-i)))=List.replicate (i+min i (n-i)) v++List.replicate (n-(i+min i (n-i))) z:=by
 have e:(List.replicate i v).take (min i (n-i))=List.replicate (min i (n-i)) v:=by
  rw[List.take_replicate];congr 1;omega
 rw[e]
 generalize hm:min i (n-i)=m
 have hm2:i+m<=n:=by omega
 clear hm e
 induction m generalizing i with
 |zero=>simp[aT]
 |succ m ih=>
  rw[aMs]
  simp only[aT]
  rw[show(List.replicate i v++List.replicate (n-i) z).set i v=List.replicate (i+1) v++List.replicate (n-(i+1)) z from ?_]
  .rw [ih (i:=i+1) (by omega) (by omega),show i+1+m=i+(m+1)from by omega]
  .rw [aMp _ _ (by simp),aMn,aNh,show n-i=(n-(i+1))+1 from by omega,aMs,aLu,List.replicate_succ',aLF]
   rfl
theorem aCm{c:UInt8}{n p:Nat}{w3:aOi}{RR:aOj->aOi->Prop}(hn:n<=131072)(o3:aZ w3 p (List.replicate (min 1 n) (dP c)++List.replicate (n-min 1 n) (.int .u8 0)))
 (hk:∀w4,aZ w4 p (List.replicate n (dP c))->aN w3 w4 (λy=>y=p)->RR (.slice (some ⟨p,0,none⟩) n n) w4):
 oC RR (.slice (some ⟨p,0,none⟩) n n) (.int .i64 (min 1 n:Nat)) w3:=by
 unfold oC oA
 refine aX.rule (λm (t:aOj) w'=>∃i:Nat,m=n-i/\t= .int .i64 i/\i<=n/\(1<=i∨n=0)/\aZ w' p (List.replicate i (dP c)++List.replicate (n-i) (.int .u8 0))/\aN w3 w' (λy=>y=p)) (n-min 1 n)
  ⟨min 1 n,rfl,rfl,by omega,by omega,o3,aN.refl _ _⟩ ?_
 rintro m t w4 ⟨i,rfl,rfl,hi,h0,o4,x4⟩
 unfold wM
 by_cases hlt:i<n
 .have d5:decide ((i:Int)<(n:Int))=true:=by simp;omega
  have q1:(i:Int).toNat=i:=aLt _
  have s1:cW (some (⟨p,0,none⟩:Addr)) n i 1=some ⟨p,0+i,none⟩:=Jw (by omega)
  have s2:cW (some (⟨p,0,none⟩:Addr)) n 0 1=some ⟨p,0+0,none⟩:=Jw (by omega)
  simp(disch:=omega)only[aA,eE,gP,q1,s1,aLE,eJ,s2,aMU,true_and,aF,fK,d5,bE]
  have hs:Bs (dr w4) (.slice (some ⟨p,0,none⟩) i n) (List.replicate i c):=by
   have:=(bV o4).bs (off:=0) (c:=n) (l:=List.replicate i c) (by simp;omega) (λj hj=>by
    rw[aMn]at hj
    rw[aLE,aLQ (by simp;omega)]
    simp[aM0,hj])
   rw[aMn]at this
   exact this
  refine Rx (off:=i) (dl:=n-i) (bV o4) (by simp) hs (by simp[one,dP]) λw5 o5 x5 s5=> ?_
  have hm5:(List.map dP (List.replicate i c)).length=i:=by simp
  rw[hm5,aNb,aIz hi]at o5
  rw[hm5]
  have e5:(i:Int)+((min i (n-i):Nat):Int)=((i+min i (n-i):Nat):Int):=by omega
  have wi5:IntKind.i64.wrap ((i+min i (n-i):Nat):Int)=((i+min i (n-i):Nat):Int):=dA (by omega) (by omega)
  simp(disch:=omega)only[gO,e5,wi5,aF,true_and]
  exact⟨n-(i+min i (n-i)),by omega,i+min i (n-i),rfl,rfl,by omega,by omega,o5,x4.seq ((aN.dr w4 _).seq x5)⟩
 .have d5:decide ((i:Int)<(n:Int))=false:=by simp;omega
  have hin:i=n:=by omega
  rw[hin,aNh,List.replicate_zero,aMb]at o4
  simp(disch:=omega)only[aA,eE,gP,aLt,eJ,true_and,aF,fK,d5,aS]
  unfold wL
  exact hk w4 o4 x4
theorem aEE{v:aOj}{c:UInt8}{n:Nat}{w:aOi}(h:Bs w v [c])(hn:n<=131072):
 aK pg pI #[v,.int .i64 n] w (λr w'=>oF w' w.heap.size 1 r n (List.replicate n (dP c))/\aN w w' bJ):=by
 refine Nw ?_
 obtain⟨RR,hRR⟩:∃RR:aOj->aOi->Prop,RR=λr w'=>oF w' w.heap.size 1 r n (List.replicate n (dP c))/\aN w w' bJ:=⟨_,rfl⟩
 rw[<-hRR]
 obtain⟨b,off,cap,rfl,hc,hcell⟩:=Zz h (by simp)
 have hl1:([c]:List UInt8).length=1:=rfl
 rw[hl1]at*
 have d0:decide ((n:Int)<0)=false:=decide_eq_false (by omega)
 have e1:((1:Nat):Int)=1:=rfl
 have wn:IntKind.u64.wrap (n:Int)=n:=gR (by omega) (by omega)
 have w1:IntKind.u64.wrap 1=1:=rfl
 unfold JB Dn Dm
 simp(disch:=omega)only[aA,fK,d0,aF,aS]
 unfold wO Eh
 simp(disch:=omega)only[aA,eE,e1,pT,wn,aF,w1]
 refine(aJK hn).mono ?_
 rintro r w1 ⟨rfl,x1⟩
 have d1:decide ((0:Int)>0)=false:=rfl
 have d2:decide ((n:Int)>9223372036854775807)=false:=decide_eq_false (by omega)
 have d3:decide ((9223372036854775807:Int)<(n:Int))=false:=decide_eq_false (by omega)
 have d4:decide ((0:Int)<0)=false:=rfl
 simp(disch:=omega)only[x20,x21,aF,sX,d1,BD,kK,aLC,if_false,jE,d2,aS]
 unfold wN Eg
 have wi:IntKind.i64.wrap (n:Int)=n:=dA (by omega) (by omega)
 simp(disch:=omega)only[aA,acA,wi,aF]
 refine atT (by omega) (by omega) λw2 o2 x2 s2=> ?_
 simp only[aLt]at o2⊢
 have z1:=x1.size
 have z2:=x2.size
 have x02:=x1.seq x2
 have h2:=h.ext x02 (aU _)
 obtain⟨p,hp⟩:∃p,p=w1.heap.size:=⟨_,rfl⟩
 rw[<-hp]at o2⊢
 refine Rx (off:=0) o2 (by simp) h2 (by simp[one,dP]) λw3 o3 x3 s3=> ?_
 have hmn:min (List.map dP [c]).length n=min 1 n:=rfl
 rw[hmn]at o3⊢
 have hs3:aT (List.replicate n (Value.int .u8 0)) 0 ((List.map dP [c]).take (min 1 n))=List.replicate (min 1 n) (dP c)++List.replicate (n-min 1 n) (.int .u8 0):=by
  rcases aMy n with rfl|hp
  .rfl
  .rw [show min 1 n=1 from by omega]
   obtain⟨m,rfl⟩:∃m,n=m+1:=⟨n-1,by omega⟩
   rfl
 rw[hs3]at o3
 have x13:aN w1 w3 bJ:=x2.new x3 (by omega)
 have x03:=x1.seq x13
 refine aCm hn o3 λw4 o4 x4=> ?_
 have z4:=x4.size
 have x04:aN w w4 bJ:=x03.trans x4 λy hy h=>by omega
 rw[hRR]
 exact⟨⟨by rw[aMn,aM2],.inr ⟨p,n,[],rfl,by omega,by rw[aMb];exact o4,by rw[aMb,aMn,aM2],aLw _⟩⟩,x04⟩
end Go.Proofs.YtoecppploooloaaGreatDoor
namespace Go.Pu
open Go Go.En
structure Qa(B:List Bool)(l:List UInt8):Prop where
 len:l.length=(B.length+7)/8
 bits:kO l=B++List.replicate (8*l.length-B.length) false
theorem atC:Qa [] []:=⟨rfl,rfl⟩
theorem awU:Po 0=List.replicate 8 false:=by decide
theorem amP{B:List Bool}{l:List UInt8}(h:Qa B l)(h8:B.length%8=0):kO (l++[0])=B++List.replicate (8*(l.length+1)-B.length) false/\(l++[(0:UInt8)]).length=(B.length+1+7)/8:=by
 have hl:=h.len
 refine⟨?_,by rw[aLo,aMc];omega⟩
 rw[Ob,h.bits,kO,kO,awU,aMb,aLF]
 congr 1
 rw[show 8*l.length-B.length=0 from by omega,show 8*(l.length+1)-B.length=8 from by omega]
 rfl
theorem aDp(c:UInt8)(r:Nat)(hr:r<8)(y:Bool)(h:c.toNat.testBit r=false):Po (UInt8.ofNat (c.toNat+2^r*y.toNat))=(Po c).set r y/\c.toNat+2^r*y.toNat<256/\c.toNat|||(y.toNat*2^r)=c.toNat+2^r*y.toNat:=by
 have key:∀(c:Fin 256) (r:Fin 8) (y:Bool),c.val.testBit r.val=false->Po (UInt8.ofNat (c.val+2^r.val*y.toNat))=(Po (UInt8.ofNat c.val)).set r.val y/\c.val+2^r.val*y.toNat<256/\c.val|||(y.toNat*2^r.val)=c.val+2^r.val*y.toNat:=by decide+kernel
 have:=key ⟨c.toNat,aM3 c⟩ ⟨r,hr⟩ y h
 simpa using this
theorem amA:∀(l:List UInt8) (i r:Nat) (c:UInt8) (y:Bool) (hi:i<l.length),r<8->Po c=(Po l[i]).set r y->kO (l.set i c)=(kO l).set (8*i+r) y
 |[],i,r,c,y,hi,hr,h=>by simp at hi
 |x::l,0,r,c,y,hi,hr,h=>by
  rw[aLu,kO,kO,h,aNv _ _ (by rw[tG];omega)]
  simp
 |x::l,i+1,r,c,y,hi,hr,h=>by
  rw[aLx,kO,kO,aMp _ _ (by rw[tG];omega),tG,amA l i r c y (by simpa using hi) hr (by simpa using h)]
  congr 2
  omega
theorem atD{B:List Bool}{l:List UInt8}{y:Bool}(hb:kO l=B++List.replicate (8*l.length-B.length) false)(hl:l.length=(B.length+1+7)/8):
 ∃hi:B.length/8<l.length,Qa (B++[y]) (l.set (B.length/8) (UInt8.ofNat ((l[B.length/8]'hi).toNat+2^(B.length%8)*y.toNat)))/\
  (l[B.length/8]'hi).toNat+2^(B.length%8)*y.toNat<256/\(l[B.length/8]'hi).toNat|||(y.toNat*2^(B.length%8))=(l[B.length/8]'hi).toNat+2^(B.length%8)*y.toNat:=by
 have hi:B.length/8<l.length:=by omega
 have hbit:=Mk l B.length (by omega)
 rw[hb,aLW (aLw _),aNh,aM0,if_pos (by omega)]at hbit
 have hbit:=(aLS hbit).symm
 obtain⟨h1,h2,h3⟩:=aDp _ (B.length%8) (by omega) y hbit
 refine⟨hi,⟨?_, ?_⟩,h2,h3⟩
 .rw [aMV,aLo,aMc];exact hl
 .rw [amA l _ (B.length%8) _ y hi (by omega) h1,hb,show 8*(B.length/8)+B.length%8=B.length from by omega,aMp _ _ (aLw _),aNh,aMV,aLo,aMc,aLF]
  congr 1
  rw[show 8*l.length-B.length=(8*l.length-(B.length+1))+1 from by omega,aMs,aLu]
  rfl
theorem atB{B:List Bool}{l:List UInt8}(h:Qa (B++[true]) l):asO l=some B.length/\(kO l).take B.length=B:=by
 have hl:=h.len
 have hb:=h.bits
 rw[aLo,aMc]at hl hb
 have h0:0<l.length:=by omega
 have htop:(kO l)[B.length]?=some true:=by
  rw[hb,aLF,aLW (aLw _),aNh]<;>rfl
 have hoff:∀j,B.length<j->j<8*l.length->(kO l)[j]?=some false:=by
  intro j h1 h2
  rw[hb,aLF,aLW (by omega),List.singleton_append,List.getElem?_cons,if_neg (by omega),aM0,if_pos (by omega)]
 refine⟨?_,by rw[hb,aLF,aNG]<;>rfl⟩
 cases he:asO l with
 |none=>
  rw[amJ h0]at he
  split at he
  .rename_i hz
   rw[Mk l _ (by omega)]at htop
   have e:B.length/8=l.length-1:=by omega
   simp only[e,hz]at htop
   simp at htop
  .cases he
 |some k=>
  obtain⟨_,h1,_,h2,h3⟩:=aBI he
  rcases aNp k B.length with h|h|h
  .rw [h3 _ h (by omega)]at htop;simp at htop
  .rw [h]
  .rw [hoff _ h h1]at h2;simp at h2
theorem auD{x n:Nat}(h:x<2^n):QG (cY x n)=x:=by rw[aiH,aLR h]
theorem axY{B:List Bool}{x n:Nat}(h:x<2^n):amU (B++cY x n) n=x:=by
 unfold amU
 rw[aLo,bM,show min n (B.length+n)=n from by omega,aNh,aMX,aNx,auD h];simp
end Go.Pu
namespace Go.Proofs.YtoecppploooloaaGreatDoor
open Go Go.En Go.Pu
set_option maxRecDepth 4000
theorem G1 {w w':aOi}{S M:Nat->Prop}{sz n:Nat}{v:aOj}{l:List aOj}(h:Ab w S sz v n l)(hx:aN w w' M)(hM:∀b,S b->¬M b):Ab w' S sz v n l:=by
 refine⟨h.1, ?_⟩
 rcases h.2 with h2|⟨b,c,rest,h1,h2,h3,h4,h5⟩
 .exact .inl h2
 .exact .inr ⟨b,c,rest,h1,h2,h3.ext hx (hM b h2),h4,h5⟩
def Wr(w:aOi)(lo p:Nat)(B:List Bool):Prop:=lo<=p/\∃v bytes,aZ w p [v,.int .i64 B.length]/\Ab w (λb=>lo<=b/\b≠p) 1 v bytes.length (bytes.map dP)/\Qa B bytes
def Rm(w:aOi)(lo p:Nat)(B:List Bool):Prop:=lo<=p/\∃v bytes,aZ w p [v,.int .i64 B.length]/\Ab w (λb=>lo<=b/\b≠p) 1 v bytes.length (bytes.map dP)/\
 kO bytes=B++List.replicate (8*bytes.length-B.length) false/\bytes.length=(B.length+1+7)/8
theorem Wr.ext {w w':aOi}{lo p:Nat}{B:List Bool}{M:Nat->Prop}(h:Wr w lo p B)(hx:aN w w' M)(hM:∀b,lo<=b->¬M b):Wr w' lo p B:=by
 obtain⟨h0,v,bytes,h1,h2,h3⟩:=h
 exact⟨h0,v,bytes,h1.ext hx (hM _ h0),G1 h2 hx λb hb=>hM b hb.1,h3⟩
theorem atX(w:aOi):aK pg kI #[] w (λr w'=>r= .pointer (some ⟨w.heap.size,0,none⟩)/\w.heap.size<w'.heap.size/\Wr w' w.heap.size w.heap.size []/\aN w w' bJ):=by
 refine G7 ?_
 unfold Ij CE
 simp(disch:=omega)only[seval]
 refine fA λw1 o1 x1 s1=> ?_
 simp only[Value.cells]at o1
 exact⟨rfl,by omega,⟨aLw _,_,[],o1,⟨rfl,.inl ⟨rfl,rfl⟩⟩,atC⟩,x1⟩
theorem aHm{lo p x i:Nat}{B:List Bool}{t17:aOj}{w:aOi}(h:Rm w lo p B)(hx:x<2^64)(hi:i<=60)(hB:B.length<=1000000000)
 {kn:aOj->aOj->aOj->aOj->aOi->Prop} (hR:∀w',Wr w' lo p (B++[x.testBit i])->aN w w' (λy=>lo<=y)->kn (.pointer (some ⟨p,0,none⟩)) (.int .u64 x) t17 (.int .i64 i) w'):
 iF kn (.pointer (some ⟨p,0,none⟩)) (.int .u64 x) (.int .i64 i) t17 (.int .i64 i) w:=by
 obtain⟨h0,v,bytes,o,os,hbits,hlen⟩:=h
 obtain⟨hlt,hheld,hval,hor⟩:=atD (y:=x.testBit i) hbits hlen
 rcases os.2 with⟨rfl,hz⟩|⟨b,c,rest,rfl,hS,ob,hc,hn⟩
 .rw [hlen]at hz;omega
 generalize hq:B.length=q at*
 have hcell:(bytes.map dP++rest)[q/8]?=some (.int .u8 ((bytes[q/8]'hlt).toNat:Nat)):=by
  rw[aLQ (by rw[aLr];exact hlt),aLN,aLp hlt]<;>rfl
 have hcl:(bytes[q/8]'hlt).toNat<2^8:=aM3 _
 have hset:(bytes.map dP++rest).set (q/8) (.int .u8 (((bytes[q/8]'hlt).toNat+2^(q%8)*(x.testBit i).toNat:Nat)))=(bytes.set (q/8) (UInt8.ofNat ((bytes[q/8]'hlt).toNat+2^(q%8)*(x.testBit i).toNat))).map dP++rest:=by
  rw[aNv _ _ (by rw[aLr];exact hlt),aM1,dP,aN2 (by simpa using hval)]
 have hbl:(bytes.set (q/8) (UInt8.ofNat ((bytes[q/8]'hlt).toNat+2^(q%8)*(x.testBit i).toNat))).length=bytes.length:=aMV
 generalize bytes.set (q/8) (UInt8.ofNat ((bytes[q/8]'hlt).toNat+2^(q%8)*(x.testBit i).toNat))=bytes' at*
 generalize(bytes[q/8]'hlt).toNat=y at*
 have e1:(q:Int).tdiv 8=((q/8:Nat):Int):=by rw[aNi (by omega)];omega
 have e2:(q:Int).tmod 8=((q%8:Nat):Int):=by rw[aNj (by omega)];omega
 have e3:=TP x i (by omega)
 have hxl:x/2^i<2^64:=by have:=aOe x (2^i);omega
 have e4:=arV hxl
 rw[<-anP]at e4
 have hbt:(x.testBit i).toNat<=1:=Bool.toNat_le _
 have hp8:2^(q%8)<=2^7:=aLB (by omega) (by omega)
 have hm:(x.testBit i).toNat*2^(q%8)<=2^(q%8):=by
  have:=aLX (2^(q%8)) hbt
  omega
 have e5:IntKind.u8.wrap (((x.testBit i).toNat:Int)*2^(min (q%8) IntKind.u8.bits))=(((x.testBit i).toNat*2^(q%8):Nat):Int):=by
  rw[show min (q%8) IntKind.u8.bits=q%8 from aMg (by have h8:IntKind.u8.bits=8:=rfl;omega)]
  have e:((x.testBit i).toNat:Int)*2^(q%8)=(((x.testBit i).toNat*2^(q%8):Nat):Int):=by simp
  rw[e]
  exact Q0 (by omega) (by omega)
 have e6:=aiM (a:=y) (b:=(x.testBit i).toNat*2^(q%8)) hcl (by omega)
 rw[hor]at e6
 have e7:(q:Int)+1=((q+1:Nat):Int):=by omega
 have od:=bV o
 have obd:=bV ob
 have c0:=od.cell (off:=0)
 have c1:=od.cell (off:=1)
 have g:=obd.cell (off:=q/8)
 rw[hcell]at g
 simp only[aLq,aLs]at c0 c1
 unfold iF
 simp(disch:=omega)only[seval,c0,c1,e1,g,e3,e4,e2,e5,e6]
 refine YW obd rfl (by rw[aLo,aLr];omega) λw2 o2 x2 s2=> ?_
 rw[hset]at o2
 have op2:=od.ext x2 (λh=>hS.2 h.symm)
 have c12:=op2.cell (off:=1)
 simp only[aLq,aLs]at c12
 simp(disch:=omega)only[seval,c12,e7]
 refine qX op2 rfl (by simp) λw3 o3 x3 s3=> ?_
 simp only[aLu,aLx]at o3
 have hBl:(B++[x.testBit i]).length=q+1:=by rw[aLo,hq]<;>rfl
 refine hR _ ⟨h0,_,bytes',by rw[hBl];exact o3,⟨by simp,.inr ⟨b,c,rest,by rw[hbl],hS,o2.ext x3 hS.2, ?_,by rw[hbl];exact hn⟩⟩,hheld⟩ ?_
 .rw [aLo,aLr]at hc⊢;rw[hbl];exact hc
 .exact ((aN.dr _ _).seq (x2.mono λz _ h=>by omega)).seq (x3.mono λz _ h=>by omega)
theorem aJr{lo p x i n:Nat}{B:List Bool}{w:aOi}(hw:Wr w lo p B)(hx:x<2^64)(hi:i<=60)(hB:B.length<=1000000000)
 {kn:aOj->aOj->aOj->aOj->aOi->Prop} (hR:∀w',Wr w' lo p (B++[x.testBit i])->aN w w' (λy=>lo<=y)->kn (.pointer (some ⟨p,0,none⟩)) (.int .u64 x) (.int .i64 n) (.int .i64 i) w'):
 eU kn (.pointer (some ⟨p,0,none⟩)) (.int .u64 x) (.int .i64 n) (.int .i64 i) w:=by
 unfold eU yA
 obtain⟨h0,v,bytes,o,os,hh⟩:=hw
 have c1:=o.cell (off:=1)
 have c0:=o.cell (off:=0)
 simp only[aLq,aLs]at c0 c1
 have e2:(B.length:Int).tmod 8=((B.length%8:Nat):Int):=by rw[aNj (by omega)];omega
 by_cases h8:B.length%8=0
 .have d4:(((B.length%8:Nat):Int)==0)=true:=by rw[h8]<;>rfl
  obtain⟨hr1,hr2⟩:=amP hh h8
  have hl2:=hh.len
  have lp:=o.lt
  simp(disch:=omega)only[seval,c1,e2,d4,c0]
  refine iG (cells:= #[.int .u8 0]) (by decide) (by decide) (by kernel_rfl) λw2 o2 x2 s2=> ?_
  refine qF (m:=1) (news:=[dP 0]) (i:=Tryz.t5) Tryz.underlying22 Tryz.underlying22 GW rfl rfl rfl (G1 os x2 (λ_ _ h=>h)) (o2.cl (off:=0) (l:=[dP 0]) (n:=1) rfl (λi hi=>by rw[aLE]<;>rfl)) (by simp[one,dP]) (λb hb=>⟨by omega,by omega⟩) (by omega) (by rw[show Tryz.t5.bytes=1 from rfl];omega) (by decide) λv3 w3 o3 x3=> ?_
  have x13:aN w w3 (λy=>lo<=y/\y≠p):=(x2.mono λ_ _ h=>h.elim).seq x3
  have op3:=o.ext x13 (λh=>h.2 rfl)
  have hv3:∃a n c,v3= .slice a n c:=by
   rcases o3.2 with⟨rfl,_⟩|⟨b,c,rest,rfl,_⟩
   .exact ⟨_,_,_,rfl⟩
   .exact ⟨_,_,_,rfl⟩
  obtain⟨a3,n3,c3,rfl⟩:=hv3
  refine lH op3 rfl (by simp) λw4 o4 x4 s4=> ?_
  simp only[aLu,aLx]at o4
  have x14:aN w w4 (λy=>lo<=y):=(x13.mono λy _ h=>h.1).seq (x4.mono λy _ h=>by omega)
  refine aHm (w:=w4) ⟨h0,_,bytes++[0],o4, ?_, ?_,hr2⟩ hx hi hB λw5 h5 x5=>hR w5 h5 (x14.seq x5)
  .have:=G1 o3 x4 (λb hb h=>hb.2 h)
   rw[aLo,aLY]
   exact this
  .rw [aLo];exact hr1
 .have d4:(((B.length%8:Nat):Int)==0)=false:=by simp;omega
  simp(disch:=omega)only[seval,c1,e2,d4]
  refine aHm (w:=w) ⟨h0,v,bytes,o,os,hh.bits, ?_⟩ hx hi hB λw5 h5 x5=>hR w5 h5 x5
  rw[hh.len];omega
theorem Ph{lo p x n:Nat}{B:List Bool}{w:aOi}(h:Wr w lo p B)(hx:x<2^64)(hn:n<=56)(hB:B.length<=100000000):
 aK pg bX #[.pointer (some ⟨p,0,none⟩),.int .u64 x,.int .i64 n] w (λr w'=>r= .tuple #[]/\Wr w' lo p (B++cY x n)/\aN w w' (λy=>lo<=y)):=by
 refine CG ?_
 unfold CF vY vX
 by_cases hn0:n=0
 .subst hn0
  have d1:decide (((0:Nat):Int)<1)=true:=rfl
  simp(disch:=omega)only[seval,d1]
  exact⟨by rw[Ii,aMb];exact h,aN.refl _ _⟩
 have d1:decide ((n:Int)<1)=false:=by simp;omega
 have d2:decide ((56:Int)<(n:Int))=false:=by simp;omega
 simp(disch:=omega)only[seval,d1,d2]
 unfold kX
 refine aX.rule (λm (t:aOj) w'=>∃i:Nat,m=n-i/\t= .int .i64 i/\i<=n/\Wr w' lo p (B++cY x i)/\aN w w' (λy=>lo<=y)) n
  ⟨0,rfl,rfl,by omega,by rw[Ii,aMb];exact h,aN.refl _ _⟩ ?_
 rintro m t w1 ⟨i,rfl,rfl,hi,hw,x1⟩
 unfold pQ yB
 by_cases hlt:i<n
 .have d3:decide ((i:Int)<(n:Int))=true:=by simp;omega
  simp(disch:=omega)only[seval,d3]
  unfold pP eU
  refine aJr hw hx (by omega) (by rw[aLo,bM];omega) λw3 hw3 x3=> ?_
  unfold pO
  simp(disch:=omega)only[seval]
  refine⟨n-(i+1),by omega,i+1,rfl,rfl,by omega, ?_,x1.seq x3⟩
  rw[Oc,<-aLF]
  exact hw3
 .have d3:decide ((i:Int)<(n:Int))=false:=by simp;omega
  obtain rfl:i=n:=by omega
  simp(disch:=omega)only[seval,d3]
  exact⟨hw,x1⟩
def Cw(w:aOi)(p:Nat)(S:Nat->Prop)(l:List UInt8):Prop:=¬S p/\∃v,aZ w p [v]/\Ab w S 1 v l.length (l.map dP)
theorem Cw.ext {w w':aOi}{p:Nat}{S M:Nat->Prop}{l:List UInt8}(h:Cw w p S l)(x:aN w w' M)(hp:¬M p)(hM:∀b,S b->¬M b):Cw w' p S l:=by
 obtain⟨h0,v,h1,h2⟩:=h
 exact⟨h0,v,h1.ext x hp,G1 h2 x hM⟩
theorem Cw.lt {w:aOi}{p:Nat}{S:Nat->Prop}{l:List UInt8}(h:Cw w p S l):p<w.heap.size:=by
 obtain⟨_,v,h1,_⟩:=h;exact h1.lt
theorem Cw.turn {w:aOi}{p:Nat}{S T:Nat->Prop}{l:List UInt8}(h:Cw w p S l)(hT:∀b,S b->b<w.heap.size->T b)(hp:¬T p):Cw w p T l:=by
 obtain⟨h0,v,h1,h2,h3⟩:=h
 refine⟨hp,v,h1,h2, ?_⟩
 rcases h3 with h3|⟨b,c,rest,g1,g2,g3,g4,g5⟩
 .exact .inl h3
 .exact .inr ⟨b,c,rest,g1,hT b g2 g3.lt,g3,g4,g5⟩
theorem Nh{w:aOi}{S:Nat->Prop}{sz n:Nat}{v:aOj}{l:List aOj}(o3:Ab w S sz v n l):∃a c,v= .slice a n c:=by
 rcases o3.2 with⟨rfl,rfl⟩|⟨b,c,rest,rfl,_⟩
 .exact ⟨_,_,rfl⟩
 .exact ⟨_,_,rfl⟩
theorem aaM{w:aOi}{S:Nat->Prop}{n:Nat}{v:aOj}{l:List aOj}(o3:Ab w S 1 v n l):Sl w v l:=by
 have:oF w 0 1 v n l:=⟨o3.1,by
  rcases o3.2 with h|⟨b,c,rest,g1,g2,g3⟩
  .exact .inl h
  .exact .inr ⟨b,c,rest,g1,by omega,g3⟩⟩
 exact this.sl
theorem El(w:aOi):aK pg eY #[] w (λr w'=>r= .pointer (some ⟨w.heap.size,0,none⟩)/\w.heap.size<w'.heap.size/\Cw w' w.heap.size (λb=>w.heap.size<b) []/\aN w w' bJ):=by
 refine Qv ?_
 unfold MB G9
 simp(disch:=omega)only[seval]
 refine fA λw1 o1 x1 s1=> ?_
 simp only[Value.cells]at o1
 exact⟨rfl,by omega,⟨by omega,_,o1,⟨rfl,.inl ⟨rfl,rfl⟩⟩⟩,x1⟩
theorem Om{p:Nat}{S:Nat->Prop}{l m:List UInt8}{v:aOj}{w:aOi}(h:Cw w p S l)(hS:∀b,w.heap.size<=b->S b)(hv:Bs w v m)(hl:l.length+m.length<=1000000000):
 aK pg fD #[.pointer (some ⟨p,0,none⟩),v] w (λr w'=>r= .tuple #[]/\Cw w' p S (l++m)/\aN w w' (λy=>y=p∨S y)):=by
 refine Lb ?_
 unfold Hb CK
 obtain⟨h0,v0,o,os⟩:=h
 obtain⟨va,vc,rfl⟩:=Nh os
 have c0:=o.cell (off:=0)
 simp only[aLq,aLs]at c0
 have lp:=o.lt
 simp(disch:=omega)only[seval,c0]
 have hcl:=hv.cl
 rw[aLr]at hcl
 refine qF (m:=m.length) (news:=m.map dP) (i:=Tryz.t5) Tryz.underlying22 Tryz.underlying22 GW rfl rfl rfl os hcl (By _) (λb hb=>hS b hb) (by omega) (by rw[show Tryz.t5.bytes=1 from rfl];omega) (by decide) λv3 w3 o3 x3=> ?_
 have op3:=o.ext x3 h0
 obtain⟨a3,c3,rfl⟩:=Nh o3
 refine lH op3 rfl (by simp) λw4 o4 x4 s4=> ?_
 simp only[aLu,aLx]at o4
 refine⟨⟨h0,_,o4, ?_⟩,(x3.mono λy _ h=> .inr h).seq (x4.mono λy _ h=> .inl h)⟩
 have:=G1 o3 x4 (λb hb h=>h0 (h▸hb))
 rw[aLo,aLY]
 exact this
theorem lA{p x n:Nat}{S:Nat->Prop}{l:List UInt8}{w:aOi}(h:Cw w p S l)(hS:∀b,w.heap.size<=b->S b)(hx:x<2^64)(hn:1<=n/\n<=8)(hl:l.length<=100000000):
 aK pg bA #[.pointer (some ⟨p,0,none⟩),.int .u64 x,.int .i64 n] w (λr w'=>r= .tuple #[]/\Cw w' p S (l++dM x n)/\aN w w' (λy=>y=p∨S y)):=by
 refine J1 ?_
 unfold F8 B9 B8
 have d1:decide ((n:Int)<1)=false:=by simp;omega
 have d2:decide ((8:Int)<(n:Int))=false:=by simp;omega
 simp(disch:=omega)only[seval,d1,d2]
 unfold lJ
 refine aX.rule (λm (t:aOj) w'=>∃i:Nat,m=n-i/\t= .int .i64 i/\i<=n/\Cw w' p S (l++dM x i)/\aN w w' (λy=>y=p∨S y)) n
  ⟨0,rfl,rfl,by omega,by rw[dM,aMb];exact h,aN.refl _ _⟩ ?_
 rintro m t w1 ⟨i,rfl,rfl,hi,hw,x1⟩
 unfold sH
 by_cases hlt:i<n
 .have d3:decide ((i:Int)<(n:Int))=true:=by simp;omega
  have e0:((8:Int)*(i:Int))=((8*i:Nat):Int):=by omega
  have e1:(x:Int).fdiv (2^(min (8*i) IntKind.u64.bits))=((x/256^i:Nat):Int):=by
   rw[ayU];exact TP x (8*i) (by omega)
  have e2:IntKind.u8.wrap ((x/256^i:Nat):Int)=(((UInt8.ofNat (x/256^i%256)).toNat:Nat):Int):=by
   rw[aNJ]
   generalize x/256^i=y
   rw[show IntKind.u8.wrap (y:Int)=(y:Int)%256 from rfl]
   omega
  obtain⟨c,hc⟩:∃c,c=UInt8.ofNat (x/256^i%256):=⟨_,rfl⟩
  rw[<-hc]at e2
  obtain⟨h0,v0,o,os⟩:=hw
  obtain⟨va,vc,rfl⟩:=Nh os
  have c0:=o.cell (off:=0)
  simp only[aLq,aLs]at c0
  have lp:=o.lt
  have hsz:=x1.size
  have hpl:=bS i x
  rw[aLo,hpl]at os
  rw[aLo,hpl]at c0
  simp(disch:=omega)only[seval,d3,e0,e1,e2,c0,aLt,aLo,hpl]
  refine iG (cells:= #[.int .u8 c.toNat]) (by decide) (by decide) (by kernel_rfl) λw2 o2 x2 s2=> ?_
  refine qF (m:=1) (news:=[dP c]) (i:=Tryz.t5) Tryz.underlying22 Tryz.underlying22 GW rfl rfl rfl (G1 os x2 (λ_ _ h=>h)) (o2.cl (off:=0) (l:=[dP c]) (n:=1) rfl (λi hi=>by rw[aLE]<;>rfl)) (by simp[one,dP]) (λb hb=>hS b (by omega)) (by omega) (by rw[show Tryz.t5.bytes=1 from rfl];omega) (by decide) λv3 w3 o3 x3=> ?_
  have x13:aN w1 w3 S:=(x2.mono λ_ _ h=>h.elim).seq x3
  have op3:=o.ext x13 h0
  obtain⟨a3,c3,rfl⟩:=Nh o3
  refine lH op3 rfl (by simp) λw4 o4 x4 s4=> ?_
  simp only[aLu,aLx]at o4
  have x14:aN w1 w4 (λy=>y=p∨S y):=(x13.mono λy _ h=> .inr h).seq (x4.mono λy _ h=> .inl h)
  refine⟨n-(i+1),by omega,i+1,rfl,rfl,by omega,⟨h0,_,o4, ?_⟩,x1.seq x14⟩
  have:=G1 o3 x4 (λb hb h=>h0 (h▸hb))
  rw[anF,<-hc,<-aLF,aLY,aLo,aLo,bS]
  exact this
 .have d3:decide ((i:Int)<(n:Int))=false:=by simp;omega
  obtain rfl:i=n:=by omega
  simp(disch:=omega)only[seval,d3]
  exact⟨hw,x1⟩
theorem Mz{p:Nat}{S:Nat->Prop}{l:List UInt8}{w:aOi}(h:Cw w p S l)(hl:l.length<=1000000000):
 aK pg eH #[.pointer (some ⟨p,0,none⟩)] w (λr w'=>oF w' w.heap.size 1 r l.length (l.map dP)/\aN w w' bJ):=by
 refine Oo ?_
 unfold Kl F9
 obtain⟨h0,v0,o,os⟩:=h
 obtain⟨va,vc,rfl⟩:=Nh os
 have c0:=o.cell (off:=0)
 simp only[aLq,aLs]at c0
 simp(disch:=omega)only[seval,c0]
 exact afO (aaM os) hl
end Go.Proofs.YtoecppploooloaaGreatDoor
namespace Go.En
open Go
theorem Ab.ext {w w':aOi}{S M:Nat->Prop}{sz n:Nat}{v:aOj}{l:List aOj}(h:Ab w S sz v n l)(hx:aN w w' M)(hM:∀b,S b->¬M b):Ab w' S sz v n l:=by
 refine⟨h.1, ?_⟩
 rcases h.2 with h2|⟨b,c,rest,h1,h2,h3,h4,h5⟩
 .exact .inl h2
 .exact .inr ⟨b,c,rest,h1,h2,h3.ext hx (hM b h2),h4,h5⟩
theorem oF.ne {w:aOi}{base p sz n:Nat}{v:aOj}{l:List aOj}(h:oF w base sz v n l)(hp:w.heap.size<=p):Ab w (λb=>base<=b/\b≠p) sz v n l:=by
 refine⟨h.1, ?_⟩
 rcases h.2 with h2|⟨b,c,rest,h1,h2,h3,h4,h5⟩
 .exact .inl h2
 .have:=h3.lt
  exact .inr ⟨b,c,rest,h1,⟨h2,by omega⟩,h3,h4,h5⟩
theorem Ab.osl {w:aOi}{base p sz n:Nat}{v:aOj}{l:List aOj}(h:Ab w (λb=>base<=b/\b≠p) sz v n l):oF w base sz v n l:=by
 refine⟨h.1, ?_⟩
 rcases h.2 with h2|⟨b,c,rest,h1,h2,h3,h4,h5⟩
 .exact .inl h2
 .exact .inr ⟨b,c,rest,h1,h2.1,h3,h4,h5⟩
theorem Ab.len {w:aOi}{S:Nat->Prop}{sz n:Nat}{v:aOj}{l:List aOj}(h:Ab w S sz v n l):∃a c,v= .slice a n c:=by
 rcases h.2 with⟨h1,rfl⟩|⟨b,c,rest,h1,_⟩
 .exact ⟨_,_,h1⟩
 .exact ⟨_,_,h1⟩
end Go.En
namespace Go.Proofs.YtoecppploooloaaGreatDoor
open Go Go.En Go.Pu
set_option maxRecDepth 4000
theorem YD{w:aOi}{S T:Nat->Prop}{sz n:Nat}{v:aOj}{l:List aOj}(h:Ab w S sz v n l)(hT:∀b,S b->b<w.heap.size->T b):Ab w T sz v n l:=by
 refine⟨h.1, ?_⟩
 rcases h.2 with h2|⟨b,c,rest,h1,h2,h3,h4,h5⟩
 .exact .inl h2
 .exact .inr ⟨b,c,rest,h1,hT b h2 h3.lt,h3,h4,h5⟩
def LH:aOj:= .slice none 0 0
theorem agX{p pr lo hi n:Nat}{cs:List aOj}{l:List UInt8}{w:aOi}(o:aZ w p cs)(c0:cs[0]?=some (.pointer (some ⟨pr,0,none⟩)))(hr:NR w lo hi pr l 0)(hl:l.length<=1000000)(hn:n<=1000000):
 aK pg iC #[.pointer (some ⟨p,0,none⟩),.int .i64 (n:Nat)] w (λr w'=>(l.length<n/\r= .tuple #[LH,.int .i64 10]/\w'=w)∨(n<=l.length/\∃v,r= .tuple #[v,.int .i64 0]/\Bs w' v (l.take n)/\AtS v (λb=>lo<=b/\b<hi/\b≠pr)/\NR w' lo hi pr (l.drop n) 0/\aN w w' (λy=>y=pr))):=by
 refine MH ?_
 unfold Iw DZ
 have c:=o.cell (off:=0)
 rw[c0]at c
 simp(disch:=omega)only[seval,c]
 refine(Ry hr).mono ?_
 rintro r w1 ⟨rfl,h1⟩
 rw[h1];clear h1 w1
 by_cases h:l.length<n
 .have d1:decide ((n:Int)>(l.length:Int))=true:=decide_eq_true (by omega)
  have d2:decide ((l.length:Int)<(n:Int))=true:=decide_eq_true (by omega)
  simp(disch:=omega)only[seval,d1,d2]
  exact .inl ⟨h,rfl⟩
 .have d1:decide ((n:Int)>(l.length:Int))=false:=decide_eq_false (by omega)
  have d2:decide ((l.length:Int)<(n:Int))=false:=decide_eq_false (by omega)
  simp(disch:=omega)only[seval,d1,d2,c]
  refine(ZH hr (by omega) (by omega)).mono ?_
  have ht:DO l 0 n=(l.take n,l.drop n,0):=by unfold DO;rw[if_neg (by decide),if_neg h]
  rw[ht]
  rintro r w1 ⟨h1,h2,h3,h4⟩
  exact .inr ⟨by omega,r,rfl,h1,h2,h3,h4⟩
def gZ:List aOj:=[LH,.int .i64 0,LH,.int .i64 0,LH,.int .i64 0,LH,.int .u32 0,.int .u32 0,.int .u32 0]
def gL:List aOj:=[LH,.int .i64 0,LH,.int .i64 0,LH,.int .i64 0,LH,.int .u32 1,.int .u32 4,.int .u32 8]
def gZv:aOj:= .agg #[.slice none 0 0,.int .i64 0,.slice none 0 0,.int .i64 0,.slice none 0 0,.int .i64 0,.slice none 0 0,.int .u32 0,.int .u32 0,.int .u32 0]
def gLv:aOj:= .agg #[.slice none 0 0,.int .i64 0,.slice none 0 0,.int .i64 0,.slice none 0 0,.int .i64 0,.slice none 0 0,.int .u32 1,.int .u32 4,.int .u32 8]
def bx(l:List UInt8):Nat:=jW (l.take 3)
def Kh(l:List UInt8):Nat:=bx l/2%4
def Mo(l:List UInt8):Nat:=bx l/8
def Xp(l:List UInt8):Nat:=if Kh l=1 then 1 else Mo l
def arY(l:List UInt8):List UInt8:=if Kh l=1 then List.replicate (Mo l) ((l.drop 3).headD 0)else(l.drop 3).take (Mo l)
def XB(l all:List UInt8)(win room:Nat):Option (Except Int (List UInt8×List UInt8×Bool)):=
 if l.length<3 then some (.error 10)else if Kh l=3 then some (.error 11)else if min win 131072<Mo l then some (.error 12)
 else if Kh l=2 then none else if l.length-3<Xp l then some (.error 10)
 else if room<all.length+(arY l).length then some (.error 12)else some (.ok (all++arY l,l.drop (3+Xp l),bx l%2==1))
theorem aBw{RR:aOj->aOi->Prop}{p pg6 pt9 px most n:Nat}{L:Bool}{vo va x1 x2:aOj}{N:Nat}{cs:List aOj}{w:aOi}
 (o:aZ w p cs) (k2:cs[2]?=some (.int .i64 (most:Nat))) (k3:cs[3]?=some vo) (hvo:∃a c,vo= .slice a n c) (hva:∃a c,va= .slice a N c) (og:aZ w pg6 gL) (ot:aZ w pt9 gZ) (hne:pg6≠pt9) (hpx:px≠pt9)
 (ox:aZ w px [.bool L,x1,x2]) (hn:n<=2000000) (hN:N<=4000000) (hmost:most<=2000000)
 (hk:∀w',aN w w' (λy=>y=pt9)->RR (if most<n+N then .tuple #[LH,gZv,.bool false,.int .i64 12]else .tuple #[va,gLv,.bool L,.int .i64 0]) w'):
 kA RR (.pointer (some ⟨p,0,none⟩)) va (.pointer (some ⟨pg6,0,none⟩)) (.pointer (some ⟨pt9,0,none⟩)) (.pointer (some ⟨px,0,none⟩)) w:=by
 unfold kA
 obtain⟨a,c,rfl⟩:=hvo
 obtain⟨a',c',rfl⟩:=hva
 have e2:=(bV o).cell (off:=2)
 have e3:=(bV o).cell (off:=3)
 have f2:=o.cell (off:=2)
 have f3:=o.cell (off:=3)
 have g2:=(bV (bV o)).cell (off:=2)
 have g3:=(bV (bV o)).cell (off:=3)
 rw[k2]at e2 f2 g2
 rw[k3]at e3 f3 g3
 by_cases h:most<n+N
 .have d1:decide ((n:Int)+(N:Int)>(most:Int))=true:=decide_eq_true (by omega)
  have d2:decide ((most:Int)<(n:Int)+(N:Int))=true:=decide_eq_true (by omega)
  rw[if_pos h]at hk
  simp(disch:=omega)only[seval,e2,e3,f2,f3,g2,g3,d1,d2]
  refine fY (bV ot) rfl (by simp[one]) (by simp[gZ]) λw1 o1 x1 s1=> ?_
  refine mU o1 (by simp[aT,gZ]) ?_
  simp only[aT,gZ,aLu,aLx,aLA,aLy,aLG]
  exact hk w1 ((aN.dr w _).seq x1)
 .have d1:decide ((n:Int)+(N:Int)>(most:Int))=false:=decide_eq_false (by omega)
  have d2:decide ((most:Int)<(n:Int)+(N:Int))=false:=decide_eq_false (by omega)
  rw[if_neg h]at hk
  have hg:=EA (off:=0) (bV og) (by simp[gL])
  have hg2:=EA (off:=0) (bV (bV og)) (by simp[gL])
  simp only[gL,aLA,aLy,aLG]at hg hg2
  have b0:=(bV ox).cell (off:=0)
  have b1:=(bV (bV ox)).cell (off:=0)
  simp only[aLq]at b0 b1
  simp(disch:=omega)only[seval,e2,e3,f2,f3,g2,g3,d1,d2,hg,hg2,b0,b1]
  refine fY (bV (bV ot)) rfl (by simp[one,LH]) (by simp[gZ]) λw1 o1 x1 s1=> ?_
  have ox1:=(bV (bV ox)).ext x1 hpx
  have b2:=ox1.cell (off:=0)
  simp only[aLq]at b2
  try simp(disch:=omega)only[seval,b2]
  refine mU o1 (by simp[aT,gZ]) ?_
  simp only[aT,gZ,aLu,aLx,aLA,aLy,aLG]
  exact hk w1 (((aN.dr w _).seq (aN.dr _ _)).seq x1)
theorem apB{S:Nat->Prop}{v x:aOj}{l m:List UInt8}{w:aOi}(h:Ab w S 1 v l.length (l.map dP))(hx:Bs w x m)(hb:∀b,w.heap.size<=b->S b)(hn:l.length+m.length<=100000000){K:aOj->aOi->Prop}
 (hk:∀v' w',Ab w' S 1 v' (l++m).length ((l++m).map dP)->aN w w' S->K v' w'):aA pg (dD .append #[22,22] 22 [v,x]) w K:=by
 have hcl:Cl w 1 x m.length (m.map dP):=by have:=hx.cl;rwa [aLr]at this
 refine qF (m:=m.length) (news:=m.map dP) (i:=Tryz.t5) Tryz.underlying22 Tryz.underlying22 GW rfl rfl rfl h hcl (By _) hb (by omega) (by rw[show Tryz.t5.bytes=1 from rfl];omega) (by decide) λv3 w3 o3 x3=> ?_
 refine hk v3 w3 ?_ x3
 rw[aLo,aLY]
 exact o3
theorem aBx{RR:aOj->aOi->Prop}{p pr pg6 pt9 px lo hi most n k sz need wv bv:Nat}{L:Bool}{A:Nat->Prop}{vo va:aOj}{all l made:List UInt8}{cs:List aOj}{w:aOi}
 (o:aZ w p cs) (k0:cs[0]?=some (.pointer (some ⟨pr,0,none⟩))) (k2:cs[2]?=some (.int .i64 (most:Nat))) (k3:cs[3]?=some vo) (hvo:∃a c,vo= .slice a n c) (og:aZ w pg6 gL) (ot:aZ w pt9 gZ) (ox:aZ w px [.bool L,.int .i64 (k:Nat),.int .i64 (sz:Nat)])
 (hr:NR w lo hi pr l 0) (ha:Ab w A 1 va all.length (all.map dP)) (hA:∀b,A b->b≠p/\¬(lo<=b/\b<hi)/\b≠pg6/\b≠pt9/\b≠px) (hAn:∀b,w.heap.size<=b->A b)
 (hne:pg6≠pt9) (hpx:px≠pt9) (q1:¬(lo<=p/\p<hi)) (q2:¬(lo<=pg6/\pg6<hi)) (q3:¬(lo<=pt9/\pt9<hi)) (q4:¬(lo<=px/\px<hi)) (hk01:k=0∨k=1) (hsz:sz<=131072) (hn:n<=2000000) (hl:l.length<=1000000) (hall:all.length<=2000000) (hmost:most<=2000000)
 (hneed:need=if k=1 then 1 else sz) (hmade:made=if k=1 then List.replicate sz (l.headD 0)else l.take sz)
 (hk1:l.length<need->∀w',aN w w' (λy=>y=pt9)->RR (.tuple #[LH,gZv,.bool false,.int .i64 10]) w')
 (hk2:need<=l.length->most<n+(all.length+made.length)->∀w',aN w w' (λy=>A y∨y=pr∨y=pt9)->RR (.tuple #[LH,gZv,.bool false,.int .i64 12]) w')
 (hk3:need<=l.length->¬most<n+(all.length+made.length)->∀w' va',Ab w' A 1 va' (all++made).length ((all++made).map dP)->NR w' lo hi pr (l.drop need) 0->aN w w' (λy=>A y∨y=pr∨y=pt9)->RR (.tuple #[va',gLv,.bool L,.int .i64 0]) w'):
 kB RR (.pointer (some ⟨p,0,none⟩)) va (.int .u64 (wv:Nat)) (.pointer (some ⟨pg6,0,none⟩)) (.pointer (some ⟨pt9,0,none⟩)) (.int .i64 (bv:Nat)) (.pointer (some ⟨px,0,none⟩)) (.int .i64 (need:Nat)) w:=by
 have hneed2:need<=131072:=by rw[hneed];split<;>omega
 unfold kB DW
 refine(agX o k0 hr hl (by omega)).mono ?_
 rintro r w1 (⟨h1,rfl,h2⟩|⟨h1,v,rfl,hb1,hat,hr1,x1⟩)
 .rw [h2];clear h2 w1
  have n1:((10:Int) !=0)=true:=rfl
  unfold LH
  simp(disch:=omega)only[seval,n1]
  refine fY ot rfl (by simp[one]) (by simp[gZ]) λw1 o1 x1 s1=> ?_
  refine mU o1 (by simp[aT,gZ]) ?_
  simp only[aT,gZ,aLu,aLx,aLA,aLy,aLG]
  exact hk1 h1 w1 x1
 have n1:((0:Int) !=0)=false:=rfl
 have hpr:lo<=pr/\pr<hi:=⟨hr.1,hr.2.1⟩
 have ox1:=ox.ext x1 (λe=>q4 (e▸hpr))
 have og1:=og.ext x1 (λe=>q2 (e▸hpr))
 have ot1:=ot.ext x1 (λe=>q3 (e▸hpr))
 have o1:=o.ext x1 (λe=>q1 (e▸hpr))
 have ha1:=ha.ext x1 (λb hb e=>(hA b hb).2.1 (e▸hpr))
 have z1:=x1.size
 have c1:=ox1.cell (off:=1)
 have c2:=ox1.cell (off:=2)
 simp only[aLq,aLs]at c1 c2
 have fin:∀(m':List UInt8) (v':aOj) (w2:aOi),m'=made->Ab w2 A 1 v' (all++m').length ((all++m').map dP)->aN w1 w2 A->kA RR (.pointer (some ⟨p,0,none⟩)) v' (.pointer (some ⟨pg6,0,none⟩)) (.pointer (some ⟨pt9,0,none⟩)) (.pointer (some ⟨px,0,none⟩)) w2:=by
  rintro m' v' w2 rfl o2 x2
  have hlen:=o2.len
  refine aBw (n:=n) (N:=(all++m').length) (L:=L) (o1.ext x2 λh=>(hA p h).1 rfl) k2 k3 hvo hlen (og1.ext x2 λh=>(hA _ h).2.2.1 rfl) (ot1.ext x2 λh=>(hA _ h).2.2.2.1 rfl) hne hpx (ox1.ext x2 λh=>(hA _ h).2.2.2.2 rfl) (by omega) ?_ hmost λw' x=> ?_
  .have:m'.length<=131072:=by
    rw[hmade];split
    .rw [aMn];exact hsz
    .rw [aLz];omega
   rw[aLo];omega
  .rw [aLo]
   have xx:aN w w' (λy=>A y∨y=pr∨y=pt9):=(((x1.mono λ_ _ h=> .inr (.inl h)).seq (x2.mono λ_ _ h=> .inl h))).seq (x.mono λ_ _ h=> .inr (.inr h))
   by_cases hm:most<n+(all.length+m'.length)
   .rw [if_pos hm];exact hk2 h1 hm w' xx
   .rw [if_neg hm]
    refine hk3 h1 hm w' v' (o2.ext x λb hb e=>(hA b hb).2.2.2.1 e) ((hr1.ext x2 λb h1 h2 h3=>(hA b h3).2.1 ⟨h1,h2⟩).ext x λb h1 h2 h3=>q3 (h3▸⟨h1,h2⟩)) xx
 rcases hk01 with rfl|rfl
 .have e0:(((0:Nat):Int)==0)=true:=rfl
  simp only[show¬((0:Nat)=1)from by decide,if_false]at hneed hmade
  simp(disch:=omega)only[seval,n1,c1,e0]
  refine apB ha1 hb1 (λb hb=>hAn b (by omega)) (by rw[aLz];omega) λv' w2 o2 x2=> ?_
  exact fin _ v' w2 (by rw[hmade,hneed]) o2 x2
 .have e0:(((1:Nat):Int)==0)=false:=rfl
  have e1:(((1:Nat):Int)==1)=true:=rfl
  simp only[if_true]at hneed hmade
  subst hneed
  simp(disch:=omega)only[seval,n1,c1,e0,e1,c2]
  obtain⟨c,t,hct⟩:∃c t,l=c::t:=by
   cases l with
   |nil=>simp at h1
   |cons c t=>exact⟨c,t,rfl⟩
  have e4:l.take 1=[c]:=by rw[hct]<;>rfl
  rw[e4]at hb1
  refine(aEE hb1 hsz).mono ?_
  rintro r w2 ⟨o2,x2⟩
  have z2:=x2.size
  have hbr:Bs w2 r (List.replicate sz c):=by
   unfold Bs
   rw[aNb]
   exact o2.sl
  refine apB (ha1.ext x2 λ_ _ h=>h) hbr (λb hb=>hAn b (by omega)) (by rw[aMn];omega) λv' w3 o3 x3=> ?_
  exact fin _ v' w3 (by rw[hmade,hct]<;>rfl) o3 ((x2.mono λ_ _ h=>h.elim).seq x3)
def aHa(lo hi pr:Nat)(A:Nat->Prop)(w:aOi)(r:aOj)(w':aOi):Except Int (List UInt8×List UInt8×Bool)->Prop
 | .error e=>r= .tuple #[LH,gZv,.bool false,.int .i64 e]/\aN w w' (λy=>A y∨y=pr)
 | .ok (a,l,b)=>∃v,r= .tuple #[v,gLv,.bool b,.int .i64 0]/\Ab w' A 1 v a.length (a.map dP)/\NR w' lo hi pr l 0/\aN w w' (λy=>A y∨y=pr)
theorem aDD{p pr lo hi most n win:Nat}{A:Nat->Prop}{vo va:aOj}{all l:List UInt8}{cs:List aOj}{w:aOi}{m:Except Int (List UInt8×List UInt8×Bool)}
 (o:aZ w p cs) (k0:cs[0]?=some (.pointer (some ⟨pr,0,none⟩))) (k2:cs[2]?=some (.int .i64 (most:Nat))) (k3:cs[3]?=some vo) (hvo:∃a c,vo= .slice a n c)
 (hr:NR w lo hi pr l 0) (ha:Ab w A 1 va all.length (all.map dP)) (hA:∀b,A b->b≠p/\¬(lo<=b/\b<hi)) (hAn:∀b,w.heap.size<=b->A b) (hhi:hi<=w.heap.size)
 (q1:¬(lo<=p/\p<hi)) (hn:n<=most) (hl:l.length<=1000000) (hall:all.length<=2000000) (hmost:most<=2000000)
 (hm:XB l all win (most-n)=some m):
 aK pg pD #[.pointer (some ⟨p,0,none⟩),va,gLv,.int .u64 (win:Nat)] w (λr w'=>aHa lo hi pr A w r w' m):=by
 refine MG ?_
 obtain⟨RR,hRR⟩:∃RR:aOj->aOi->Prop,RR=λr w'=>aHa lo hi pr A w r w' m:=⟨_,rfl⟩
 rw[<-hRR]
 unfold Iv DY DX
 refine fA λw1 o1 x1 s1=> ?_
 have o1:aZ w1 w.heap.size gL:=o1
 obtain⟨p6,hp6⟩:∃p,p=w.heap.size:=⟨_,rfl⟩
 rw[<-hp6]at o1⊢
 refine Pl λw2 o2 x2 s2=> ?_
 have o2:aZ w2 w1.heap.size gZ:=o2
 obtain⟨p9,hp9⟩:∃p,p=w1.heap.size:=⟨_,rfl⟩
 rw[<-hp9]at o2⊢
 have z1:=o1.lt
 have z2:=o2.lt
 have x12:=x1.seq x2
 have og2:=o1.ext x2 (λh=>h)
 have hmn:(if(131072:Int)<(win:Int)then(131072:Int)else(win:Int))=((min win 131072:Nat):Int):=by
  split<;>omega
 have hw:IntKind.i64.wrap ((min win 131072:Nat):Int)=((min win 131072:Nat):Int):=dA (by omega) (by omega)
 simp(disch:=omega)only[seval,hmn,hw]
 refine(agX (n:=3) (o.ext x12 (λh=>h)) k0 (hr.ext x12 (λ_ _ _ h=>h)) hl (by omega)).mono ?_
 unfold XB at hm
 rintro r w3 (⟨h1,rfl,h2⟩|⟨h1,v,rfl,hb1,hat,hr1,x3⟩)
 .rw [h2];clear h2 w3
  rw[if_pos h1]at hm
  cases hm
  have n1:((10:Int) !=0)=true:=rfl
  unfold LH
  simp(disch:=omega)only[seval,n1]
  refine fY o2 rfl (by simp[one]) (by simp[gZ]) λw3 o3 x3 s3=> ?_
  refine mU o3 (by simp[aT,gZ]) ?_
  simp only[aT,gZ,aLu,aLx,aLA,aLy,aLG]
  rw[hRR]
  exact⟨rfl,(x12.mono λ_ _ h=>h.elim).trans x3 λy hy h=>by omega⟩
 rw[if_neg (by omega)]at hm
 have n0:((0:Int) !=0)=false:=rfl
 have hpr:lo<=pr/\pr<hi:=⟨hr.1,hr.2.1⟩
 have og3:=og2.ext x3 (by intro h;omega)
 have ot3:=o2.ext x3 (by intro h;omega)
 have o3:=(o.ext x12 (λh=>h)).ext x3 (λe=>q1 (e▸hpr))
 have ha3:=(ha.ext x12 (λ_ _ h=>h)).ext x3 (λb hb e=>(hA b hb).2 (e▸hpr))
 simp(disch:=omega)only[seval,n0]
 refine(auT hb1 (by rw[aLz];omega)).mono ?_
 rintro r w4 ⟨rfl,x4⟩
 have e0:jW (l.take 3)=bx l:=rfl
 unfold rbV
 rw[e0]
 have ek:bx l/2%4=Kh l:=rfl
 rw[ek]
 have og4:=og3.ext x4 (λh=>h)
 have ot4:=ot3.ext x4 (λh=>h)
 have zz3:=x3.size
 have zz4:=x4.size
 by_cases h3:Kh l=3
 .rw [if_pos h3]
  rw[if_pos h3]at hm
  cases hm
  have n1:((11:Int) !=0)=true:=rfl
  simp(disch:=omega)only[seval,n1]
  refine CA λw5 o5 x5 s5=> ?_
  refine vD o5 rfl (by simp[one]) (by simp) λw6 o6 x6 s6=> ?_
  have x46:aN w4 w6 bJ:=x5.new x6 (by omega)
  have ot6:=ot4.ext x46 (λh=>h)
  try simp(disch:=omega)only[seval,n1]
  refine fY ot6 rfl (by simp[one]) (by simp[gZ]) λw7 o7 x7 s7=> ?_
  refine mU o7 (by simp[aT,gZ]) ?_
  simp only[aT,gZ,aLu,aLx,aLA,aLy,aLG]
  rw[hRR]
  exact⟨rfl,((x12.mono λ_ _ h=>h.elim).seq ((x3.mono λ_ _ h=> .inr h).seq ((x4.seq x46).mono λ_ _ h=>h.elim))).trans x7 λy hy h=>by omega⟩
 rw[if_neg h3]
 rw[if_neg h3]at hm
 unfold rbA
 rw[ek]
 have es:bx l/8=Mo l:=rfl
 rw[es]
 simp(disch:=omega)only[seval,n0]
 refine CA λw5 o5 x5 s5=> ?_
 obtain⟨px,hpx⟩:∃p,p=w4.heap.size:=⟨_,rfl⟩
 rw[<-hpx]at o5⊢
 refine vD o5 rfl (by simp[one]) (by simp) λw6 o6 x6 s6=> ?_
 simp only[aT,aLu,aLx]at o6
 have x46:aN w4 w6 bJ:=x5.new x6 (by omega)
 have c1:=o6.cell (off:=1)
 have c2:=o6.cell (off:=2)
 simp only[aLq,aLs]at c1 c2
 have og6:=og4.ext x46 (λh=>h)
 have ot6:=ot4.ext x46 (λh=>h)
 have z5:=o5.lt
 by_cases hb:min win 131072<Mo l
 .rw [if_pos hb]at hm
  cases hm
  have d1:decide (((Mo l:Nat):Int)>((min win 131072:Nat):Int))=true:=decide_eq_true (by omega)
  have d2:decide (((min win 131072:Nat):Int)<((Mo l:Nat):Int))=true:=decide_eq_true (by omega)
  simp(disch:=omega)only[seval,n0,c1,c2,d1,d2]
  refine fY ot6 rfl (by simp[one]) (by simp[gZ]) λw7 o7 x7 s7=> ?_
  refine mU o7 (by simp[aT,gZ]) ?_
  simp only[aT,gZ,aLu,aLx,aLA,aLy,aLG]
  rw[hRR]
  exact⟨rfl,((x12.mono λ_ _ h=>h.elim).seq ((x3.mono λ_ _ h=> .inr h).seq ((x4.seq x46).mono λ_ _ h=>h.elim))).trans x7 λy hy h=>by omega⟩
 rw[if_neg hb]at hm
 have d1:decide (((Mo l:Nat):Int)>((min win 131072:Nat):Int))=false:=decide_eq_false (by omega)
 have d2:decide (((min win 131072:Nat):Int)<((Mo l:Nat):Int))=false:=decide_eq_false (by omega)
 have hk2':Kh l≠2:=by
  intro h
  rw[if_pos h]at hm
  cases hm
 rw[if_neg hk2']at hm
 have hk01:Kh l=0∨Kh l=1:=by
  have:Kh l<4:=aNI _ (by omega)
  omega
 have x02:aN w w2 bJ:=x12
 have x06:aN w w6 (λy=>y=pr):=((x02.mono λ_ _ h=>h.elim).seq x3).seq ((x4.seq x46).mono λ_ _ h=>h.elim)
 have ha':Ab w (λb=>A b/\b≠p6/\b≠p9/\b≠px) 1 va all.length (all.map dP):=YD ha λb hb h1=>by
  have:=x1.size
  have:=x2.size
  exact⟨hb,by omega,by omega,by omega⟩
 have ha6:=ha'.ext x06 λb hb e=>(hA b hb.1).2 (e▸hpr)
 have hr6:=(hr1.ext x4 λ_ _ _ h=>h).ext x46 λ_ _ _ h=>h
 have o6':=(o3.ext x4 λh=>h).ext x46 λh=>h
 have e8:(l.drop 3).headD 0=(l.drop 3).headD 0:=rfl
 have hld:(l.drop 3).length=l.length-3:=aLL
 have main:kB RR (.pointer (some ⟨p,0,none⟩)) va (.int .u64 (win:Nat)) (.pointer (some ⟨p6,0,none⟩)) (.pointer (some ⟨p9,0,none⟩)) (.int .i64 (min win 131072:Nat)) (.pointer (some ⟨px,0,none⟩)) (.int .i64 (Xp l:Nat)) w6:=by
  have hz0:=o.lt
  refine aBx (made:=arY l) (L:=bx l%2==1) (A:=λb=>A b/\b≠p6/\b≠p9/\b≠px) o6' k0 k2 k3 hvo og6 ot6 o6 hr6 ha6 ?_ ?_ (by omega) (by omega) q1 (by omega) (by omega) (by omega) hk01 (by omega) (by omega) (by omega) hall hmost rfl rfl ?_ ?_ ?_
  .intro b hb
   exact⟨(hA b hb.1).1,(hA b hb.1).2,hb.2.1,hb.2.2.1,hb.2.2.2⟩
  .intro b hb
   exact⟨hAn b (by omega),by omega,by omega,by omega⟩
  .intro h w' x
   rw[if_pos (by omega)]at hm
   cases hm
   rw[hRR]
   exact⟨rfl,(x06.mono λ_ _ h=> .inr h).trans x λy hy h=>by omega⟩
  .intro h h2 w' h5
   rw[if_neg (by omega),if_pos (by omega)]at hm
   cases hm
   rw[hRR]
   refine⟨rfl,(x06.mono λ_ _ h=> .inr h).trans h5 λy hy h=> ?_⟩
   rcases h with h|h|h
   .exact .inl h.1
   .exact .inr h
   .omega
  .intro h h2 w' va' h3 h4 h5
   rw[if_neg (by omega),if_neg (by omega)]at hm
   cases hm
   rw[hRR]
   rw[aMG]at h4
   refine⟨va',rfl,YD h3 λb hb _=>hb.1,h4,(x06.mono λ_ _ h=> .inr h).trans h5 λy hy h=> ?_⟩
   rcases h with h|h|h
   .exact .inl h.1
   .exact .inr h
   .omega
 rcases hk01 with h|h
 .have e1:Xp l=Mo l:=by unfold Xp;rw[if_neg (by omega)]
  have e2:(((Kh l:Nat):Int)==1)=false:=by rw[h]<;>rfl
  rw[e1]at main
  simp(disch:=omega)only[seval,n0,c1,c2,d1,d2,e2]
  exact main
 .have e1:Xp l=1:=by unfold Xp;rw[if_pos (by omega)]
  have e2:(((Kh l:Nat):Int)==1)=true:=by rw[h]<;>rfl
  rw[e1]at main
  simp(disch:=omega)only[seval,n0,c1,c2,d1,d2,e2]
  exact main
end Go.Proofs.YtoecppploooloaaGreatDoor
namespace Go.Proofs.YtoecppploooloaaGreatDoor
open Go Go.En
set_option maxRecDepth 4000
def azC(x:Int)(k:Nat):Int:=orI .u64 (IntKind.u64.wrap (x*2^k)) (x.fdiv (2^(64-k)))
def aCr(v x:Int):Int:=IntKind.u64.wrap (azC (IntKind.u64.wrap (v+IntKind.u64.wrap (x*14029467366897019727))) 31*11400714785074694791)
theorem aJq:∀k:Fin 64,Cj .u64 (k.val:Int) 63=(k.val:Int):=by decide
theorem aJZ:∀k:Fin 64,IntKind.u64.wrap (64-(k.val:Int))=64-(k.val:Int):=by decide
theorem Zf(x:Int)(k:Nat)(hk:k<64)(w:aOi):
 aK pg dG #[.int .u64 x,.int .i64 (k:Int)] w (λv w'=>v= .int .u64 (azC x k)/\w'=w):=by
 refine HQ ?_
 have h1:=aJq ⟨k,hk⟩
 have h2:=aJZ ⟨k,hk⟩
 simp only at h1 h2
 have e1:min k IntKind.u64.bits=k:=by simp only[IntKind.bits];omega
 have e2:min (64-(k:Int)).toNat IntKind.u64.bits=64-k:=by simp only[IntKind.bits];omega
 simp(disch:=omega)only[Db,zZ,seval,h1,h2,e1,e2,azC]
theorem abS(v x:Int)(w:aOi):
 aK pg B2 #[.int .u64 v,.int .u64 x] w (λr w'=>r= .int .u64 (aCr v x)/\w'=w):=by
 refine ajV ?_
 simp(disch:=omega)only[anT,Zd,seval]
 refine(Zf _ 31 (by omega) w).mono ?_
 rintro r w' ⟨rfl,rfl⟩
 simp(disch:=omega)only[seval,aCr]
def Ea:List UInt8->Int
 |[]=>0
 |c::l=>(c.toNat:Int)+256*Ea l
theorem YA:∀l,0<=Ea l
 |[]=>by simp[Ea]
 |c::l=>by have:=YA l;simp only[Ea];omega
theorem ayG(l:List UInt8)(c:UInt8):Ea (l++[c])=Ea l+(c.toNat:Int)*256^l.length:=by
 induction l with
 |nil=>simp[Ea]
 |cons a l ih=>simp only[aMk,Ea,ih,aLO,Int.pow_succ,Int.mul_add];rw[Int.mul_comm (256:Int) (_*_),Int.mul_assoc];omega
theorem auE:∀l:List UInt8,Ea l<256^l.length
 |[]=>by simp[Ea]
 |c::l=>by
  have:=auE l
  have hc:c.toNat<256:=c.toNat_lt
  simp only[Ea,aLO,Int.pow_succ];omega
theorem afM{α:Type}{l:List α}{k:Nat}(h:k<l.length):l.take (k+1)=l.take k++[l[k]]:=by
 rw[List.take_succ_eq_append_getElem h]
theorem aEs{x:Int}{c k:Nat}(hk:k<8)(hx0:0<=x)(hx:x<256^k)(hc:c<256):
 orI .u64 x (IntKind.u64.wrap ((c:Int)*2^(8*k)))=x+(c:Int)*256^k:=by
 obtain⟨m,rfl⟩:=Int.eq_ofNat_of_zero_le hx0
 have e256:(256:Nat)^k=2^(8*k):=by rw[show(256:Nat)=2^8 from rfl,<-Nat.pow_mul]
 have hm:m<2^(8*k):=by rw[<-e256];exact_mod_cast hx
 have hle:c*2^(8*k)+2^(8*k)<=2^64:=by
  have h1:(c+1)*2^(8*k)<=256*2^(8*k):=aLX _ (by omega)
  have h2:(256:Nat)*2^(8*k)=2^(8*k+8):=by rw[aMA,aL7]
  have h3:(2:Nat)^(8*k+8)<=2^64:=aLB (by omega) (by omega)
  rw[aMh]at h1;omega
 have hpos:0<2^(8*k):=Nat.pow_pos (by omega)
 have w:IntKind.u64.wrap ((c:Int)*2^(8*k))=((c*2^(8*k):Nat):Int):=by
  have:((c:Int)*2^(8*k))=((c*2^(8*k):Nat):Int):=by push_cast;rfl
  rw[this];exact gR (by omega) (by omega)
 rw[w]
 have b1:(BitVec.ofInt 64 (m:Int)|||BitVec.ofInt 64 ((c*2^(8*k):Nat):Int)).toNat=m+c*2^(8*k):=by
  rw[BitVec.toNat_or]
  simp only[BitVec.toNat_ofInt]
  have e1:(((m:Int)%((2^64:Nat):Int)).toNat)=m:=by omega
  have e2:((((c*2^(8*k):Nat):Int)%((2^64:Nat):Int)).toNat)=c*2^(8*k):=by omega
  rw[e1,e2,Nat.or_comm,aL7 c,<-Nat.two_pow_add_eq_or_of_lt hm]
  omega
 show IntKind.u64.wrap ((BitVec.ofInt 64 (m:Int)|||BitVec.ofInt 64 ((c*2^(8*k):Nat):Int)).toNat:Int)=_
 rw[b1]
 have:((m+c*2^(8*k):Nat):Int)=(m:Int)+(c:Int)*256^k:=by
  rw[<-e256];push_cast;rfl
 rw[<-this]
 exact gR (by omega) (by omega)
theorem W5 (v:aOj)(l:List UInt8)(w:aOi)(h:Bs w v l)(hl:l.length<=8):
 aK pg zB #[v] w (λr w'=>r= .int .u64 (Ea l)/\w'=w):=by
 obtain⟨a,n,c,rfl,hn,hc,hcell⟩:=h
 rw[aLr]at hn
 subst hn
 refine afL ?_
 simp(disch:=omega)only[ajU,FY,F0,VJ,Ma,Mb,VK,VL,seval]
 refine aX.rule (λn t w'=>∃k:Nat,n=l.length-k/\k<=l.length/\t=(.int .u64 (Ea (l.take k)),.int .i64 (k:Int))/\w'=w) l.length ⟨0,rfl,aMM _,rfl,rfl⟩ ?_
 rintro n t w' ⟨k,rfl,hk,rfl,rfl⟩
 by_cases hlt:k<l.length
 .obtain ⟨b,off,rfl,hcell'⟩:=hcell (by omega)
  have hcl:=hcell' k hlt
  rw[aLN,aLp hlt,aL2]at hcl
  have hb:(l[k].toNat)<256:=l[k].toNat_lt
  have hd:decide ((k:Int)<(l.length:Int))=true:=by simpa using hlt
  have e1:min (8*(k:Int)).toNat IntKind.u64.bits=8*k:=by simp only[IntKind.bits];omega
  simp(disch:=omega)only[FZ,seval,hd,bE,hcl,dP,e1]
  have hlen:(l.take k).length=k:=by simp;omega
  have hx:=auE (l.take k)
  rw[hlen]at hx
  refine⟨l.length-(k+1),by omega,k+1,rfl,by omega, ?_⟩
  rw[aEs (by omega) (YA _) hx hb,afM hlt,ayG,hlen]
  rfl
 .have hd:decide ((k:Int)<(l.length:Int))=false:=by simpa using hlt
  simp(disch:=omega)only[FZ,seval,hd,aS]
  rw[aLK (by omega)]
  try(unfold FY;exact⟨rfl,rfl⟩)
def aJF:List Int:=[IntKind.u64.wrap (11400714785074694791+14029467366897019727),14029467366897019727,0,IntKind.u64.wrap (0-11400714785074694791)]
def Tf(vs:List Int)(s:List UInt8)(i:Nat):List Int:=vs.mapIdx λj v=>if j<i then aCr v (Ea ((s.drop (8*j)).take 8))else v
def TU:Nat->List UInt8->List Int
 |0,_=>aJF
 |k+1,L=>Tf (TU k L) ((L.drop (32*k)).take 32) 4
theorem sY(vs:List Int)(s:List UInt8)(i:Nat):(Tf vs s i).length=vs.length:=by simp[Tf]
theorem xY:∀k L,(TU k L).length=4
 |0,_=>rfl
 |k+1,L=>by rw[TU,sY,xY k L]
theorem aCJ(vs:List Int)(s:List UInt8):Tf vs s 0=vs:=by
 apply aMO
 .simp [Tf]
 .intro i h1 h2;simp[Tf]
theorem aE4 (vs:List Int)(s:List UInt8)(i:Nat)(h:i<vs.length):(Tf vs s i)[i]?=some vs[i]:=by
 rw[aLp (by rw[sY];exact h)];simp[Tf]
theorem aE5 (vs:List Int)(s:List UInt8)(i:Nat)(h:i<vs.length):(Tf vs s i).set i (aCr vs[i] (Ea ((s.drop (8*i)).take 8)))=Tf vs s (i+1):=by
 apply aMO
 .simp [Tf]
 .intro j h1 h2
  rw[aNz]
  simp only[Tf,List.getElem_mapIdx]
  by_cases hij:i=j
  .subst hij;simp
  .simp only[hij,if_false]
   by_cases hj:j<i
   .rw [if_pos hj,if_pos (by omega)]
   .rw [if_neg hj,if_neg (by omega)]
theorem abU:∀k (L M:List UInt8),32*k<=L.length->TU k (L++M)=TU k L
 |0,_,_,_=>rfl
 |k+1,L,M,h=>by
  rw[TU,TU,abU k L M (by omega)]
  congr 1
  rw[aNK (by omega),aMQ (by rw[aLL];omega)]
def cM(vs:List Int)(kept:List UInt8)(n all:Nat):List aOj:=vs.map (Value.int .u64)++(kept.map dP++[.int .i64 (n:Int),.int .u64 (all:Int)])
theorem mT{vs:List Int}{kept:List UInt8}{n all:Nat}(h1:vs.length=4)(h2:kept.length=32):(cM vs kept n all).length=38:=by
 simp[cM,h1,h2]
theorem acG{vs:List Int}{kept:List UInt8}{n all:Nat}(i:Nat)(h:i<vs.length):(cM vs kept n all)[i]?=some (.int .u64 vs[i]):=by
 unfold cM;rw[aLQ (by simpa using h)];simp[h]
theorem R6 {vs:List Int}{kept:List UInt8}{n all:Nat}(h1:vs.length=4)(i:Nat)(h:i<kept.length):(cM vs kept n all)[4+i]?=some (dP kept[i]):=by
 unfold cM
 rw[aLW (by simp[h1]),aLr,h1,aN3,aLQ (by simpa using h)];simp[h]
theorem Kw{vs:List Int}{kept:List UInt8}{n all:Nat}(h1:vs.length=4)(h2:kept.length=32):(cM vs kept n all)[36]?=some (.int .i64 (n:Int)):=by
 unfold cM
 rw[aLW (by simp[h1]),aLr,h1,aLW (by simp[h2]),aLr,h2]<;>rfl
theorem FK{vs:List Int}{kept:List UInt8}{n all:Nat}(h1:vs.length=4)(h2:kept.length=32):(cM vs kept n all)[37]?=some (.int .u64 (all:Int)):=by
 unfold cM
 rw[aLW (by simp[h1]),aLr,h1,aLW (by simp[h2]),aLr,h2]<;>rfl
theorem aeF{vs:List Int}{kept:List UInt8}{n all:Nat}(i:Nat)(x:Int)(h:i<vs.length):(cM vs kept n all).set i (.int .u64 x)=cM (vs.set i x) kept n all:=by
 unfold cM;rw[aNv _ _ (by simpa using h),aM1]
theorem PF{vs:List Int}{kept:List UInt8}{n all:Nat}(h1:vs.length=4)(h2:kept.length=32)(m:Nat):(cM vs kept n all).set 36 (.int .i64 (m:Int))=cM vs kept m all:=by
 unfold cM
 rw[aMp _ _ (by simp[h1]),aLr,h1,aMp _ _ (by simp[h2]),aLr,h2]<;>rfl
theorem X4 {vs:List Int}{kept:List UInt8}{n all:Nat}(h1:vs.length=4)(h2:kept.length=32)(m:Nat):(cM vs kept n all).set 37 (.int .u64 (m:Int))=cM vs kept n m:=by
 unfold cM
 rw[aMp _ _ (by simp[h1]),aLr,h1,aMp _ _ (by simp[h2]),aLr,h2]<;>rfl
def Pk(l:List UInt8)(o:Nat)(x:List UInt8):List UInt8:=l.take o++x++l.drop (o+x.length)
theorem alU{l:List UInt8}{o:Nat}{x:List UInt8}(h:o+x.length<=l.length):(Pk l o x).length=l.length:=by
 simp[Pk];omega
theorem aCa{l:List UInt8}{o:Nat}{c:UInt8}{x:List UInt8}(h:o+(x.length+1)<=l.length):Pk (l.set o c) (o+1) x=Pk l o (c::x):=by
 unfold Pk
 rw[List.take_set,List.drop_set_of_lt (by omega)]
 have e:(l.take (o+1)).set o c=l.take o++[c]:=by
  rw[List.take_succ_eq_append_getElem (by omega),aMp _ _ (by simp;omega)]
  simp only[aLz]
  rw[show o-min o l.length=0 from by omega]<;>rfl
 rw[e]
 simp only[aLF,List.singleton_append,aLO,aMk,aL5]
 rw[show o+1+x.length=o+(x.length+1)from by omega]
theorem ahO{vs:List Int}{n all:Nat}(h1:vs.length=4):∀(x kept:List UInt8) (o:Nat),o+x.length<=kept.length→
 aT (cM vs kept n all) (4+o) (x.map dP)=cM vs (Pk kept o x) n all:=by
 intro x
 induction x with
 |nil=>intro kept o _;simp[aT,Pk]
 |cons c x ih=>
  intro kept o h
  rw[aLO]at h
  have e:(cM vs kept n all).set (4+o) (dP c)=cM vs (kept.set o c) n all:=by
   unfold cM
   rw[aMp _ _ (by simp[h1]),aLr,h1,aN3,aNv _ _ (by simp;omega),aM1]
  rw[aL3,aT,e,aMI,ih _ _ (by simp;omega),aCa (by omega)]
def aAg(w:aOi)(b:Nat)(L:List UInt8)(all:Nat):Prop:=
 ∃kept,kept.length=32/\kept.take (L.length%32)=L.drop (32*(L.length/32))/\aZ w b (cM (TU (L.length/32) L) kept (L.length%32) all)
abbrev Zi(w:aOi)(b:Nat)(L:List UInt8):Prop:=aAg w b L L.length
theorem aGZ(w:aOi):aK pg TD #[] w (λv w'=>v= .pointer (some ⟨w.heap.size,0,none⟩)/\Zi w' w.heap.size []/\aN w w' bJ):=by
 refine aqX ?_
 simp(disch:=omega)only[aBe,ajT,seval]
 refine fA λw1 o1 x1 s1=>⟨rfl,⟨List.replicate 32 0,rfl,rfl, ?_⟩,x1⟩
 exact o1
theorem Ze{w:aOi}{b:Nat}{cs:List aOj}(h:aZ w b cs):aZ (dr w) b cs:=h.ext (aN.dr w bJ) (λh=>h)
theorem aqT(w0:aOi)(b:Nat)(vs:List Int)(kept:List UInt8)(all:Nat)(h1:vs.length=4)(h2:kept.length=32)(v:aOj)(R:aOj->aOj->aOi->Prop)
 (hR:∀w',aZ w' b (cM (Tf vs kept 4) kept 32 all)->aN w0 w' (λx=>x=b)->R (.pointer (some ⟨b,0,none⟩)) v w') (w:aOi) (ho:aZ w b (cM vs kept 32 all)) (hx:aN w0 w (λx=>x=b)):
 xQ R (.pointer (some ⟨b,0,none⟩)) v w:=by
 simp(disch:=omega)only[xQ,KO,qJ,qJ]
 refine aX.rule (λn t w'=>∃i:Nat,i<=4/\n=4-i/\t= .int .i64 (i:Int)/\aZ w' b (cM (Tf vs kept i) kept 32 all)/\aN w0 w' (λx=>x=b)) 4
  ⟨0,by omega,rfl,rfl,by rw[aCJ];exact ho,hx⟩ ?_
 rintro n t w' ⟨i,hi,rfl,rfl,ho,hx⟩
 by_cases hlt:i<4
 .have hd:decide ((i:Int)<4)=true:=by simp;omega
  have hod:=Ze ho
  have hv:=aE4 vs kept i (by omega)
  have hc:(cM (Tf vs kept i) kept 32 all)[i]?=some (.int .u64 vs[i]):=by
   rw[acG i (by rw[sY];omega)]
   rw[aLp (by rw[sY];omega)]at hv
   rw[aLS hv]
  have t1:(8*(i:Int)).toNat=8*i:=by omega
  have t2:(8*(i:Int)+8).toNat=8*i+8:=by omega
  simp(disch:=omega)only[xP,seval,hd,hod.cell,hc,t1,t2,nO (show 8*i≠32 by omega)]
  have hs:((kept.drop (8*i)).take 8).length=8:=by rw[aLz,aLL];omega
  have hbs:Bs (dr w') (.slice (some ⟨b,4+8*i,none⟩) (8*i+8-8*i) (32-8*i)) ((kept.drop (8*i)).take 8):=by
   rw[show 8*i+8-8*i=((kept.drop (8*i)).take 8).length from by omega]
   refine hod.bs (by omega) λj hj=> ?_
   rw[aMI,R6 (by rw[sY];exact h1) (8*i+j) (by omega)]
   simp
  refine(W5 _ _ _ hbs (by omega)).mono ?_
  rintro r w1 ⟨rfl,rfl⟩
  simp(disch:=omega)only[seval,hod.cell,hc]
  refine(abS _ _ _).mono ?_
  rintro r w1 ⟨rfl,rfl⟩
  refine H6 hod rfl (by rw[mT (by rw[sY];exact h1) h2];omega) λw2 o2 x2 s2=> ?_
  rw[aeF i _ (by rw[sY];omega),aE5 vs kept i (by omega)]at o2
  exact⟨4-(i+1),by omega,i+1,by omega,rfl,rfl,o2,(hx.seq (aN.dr _ _)).seq x2⟩
 .have:i=4:=by omega
  subst this
  have hd:decide (((4:Nat):Int)<4)=false:=by simp
  simp(disch:=omega)only[xP,seval,hd]
  exact hR _ ho hx
theorem aqY(w0:aOi)(b:Nat)(L l:List UInt8)(_hlen:L.length+l.length<=1099511627776)(R:aOi->Prop)
 (hR:∀w',aAg w' b (L++l) (L.length+l.length)->aN w0 w' (λx=>x=b)->R w') (v:aOj) (w:aOi)
 (h:aAg w b L (L.length+l.length)) (hv:Bs w v l) (hb:¬IY v (λx=>x=b)) (hx:aN w0 w (λx=>x=b)):
 kM R (.pointer (some ⟨b,0,none⟩)) v w:=by
 unfold kM
 refine aX.rule (λn t w'=>∃m:Nat,m<=l.length/\n=l.length-m/\Bs w' t (l.drop m)/\¬IY t (λx=>x=b)/\aAg w' b (L++l.take m) (L.length+l.length)/\aN w0 w' (λx=>x=b)) l.length
  ⟨0,by omega,rfl,hv,hb,by simpa using h,hx⟩ ?_
 rintro n t w' ⟨m,hm,rfl,hv,hb,⟨kept,h2,hk,ho⟩,hx⟩
 have hv':=hv
 obtain⟨a,n,c,rfl,hn,hc,hcell⟩:=hv'
 rw[aLr,aLL]at hn
 by_cases hlt:m<l.length
 .obtain ⟨b',o',rfl,hcell'⟩:=hcell (by omega)
  have hd:decide ((0:Int)<(n:Int))=true:=by simp;omega
  have hM:(L++l.take m).length=L.length+m:=by simp;omega
  rw[hM]at hk ho
  obtain⟨q,hq⟩:∃q,q=(L.length+m)/32:=⟨_,rfl⟩
  obtain⟨r,hr⟩:∃r,r=(L.length+m)%32:=⟨_,rfl⟩
  rw[<-hq,<-hr]at hk ho
  have hqr:L.length+m=32*q+r/\r<32:=by omega
  have h1:(TU q (L++l.take m)).length=4:=xY _ _
  have hod:=Ze ho
  have t1:(r:Int).toNat=r:=by omega
  simp(disch:=omega)only[nS,uR,fP,fP,uQ,qK,xS,xR,qI,seval,hd,hod.cell,Kw h1 h2,nO (show r≠32 by omega)]
  have hvd:Bs (dr w') (.slice (some ⟨b',o',none⟩) n c) (l.drop m):=hv.ext (aN.dr w' bJ) (by unfold IY bJ;split<;>simp)
  refine Rx hod (by rw[mT h1 h2];omega) hvd (By _) λw1 o1 x1 s1=> ?_
  obtain⟨u,hu⟩:∃u,u=min n (32-r):=⟨_,rfl⟩
  have hlm:(List.map dP (l.drop m)).length=n:=by rw[aLr,aLL,hn]
  rw[hlm]at o1⊢
  rw[<-hu]at o1⊢
  have hu1:u<=n/\u<=32-r/\(u=n∨u=32-r):=by omega
  have hul:((l.drop m).take u).length=u:=by rw[aLz,aLL];omega
  rw[<-aNc,ahO h1 _ _ _ (by omega)]at o1
  obtain⟨kept1,hk1⟩:∃x,x=Pk kept r ((l.drop m).take u):=⟨_,rfl⟩
  rw[<-hk1]at o1
  have h21:kept1.length=32:=by rw[hk1,alU (by omega)];exact h2
  simp(disch:=omega)only[seval,o1.cell,Kw h1 h21]
  refine qX o1 rfl (by rw[mT h1 h21];omega) λw2 o2 x2 s2=> ?_
  rw[<-Int.natCast_add,PF h1 h21]at o2
  have hx2:aN w' w2 (λx=>x=b):=((aN.dr w' _).seq x1).seq x2
  have hv2:=hv.ext hx2 hb
  have hv3:=hv2.drop hu1.1
  have hb3:=aBQ (k:=u) hb (by omega) (n-u)
  rw[<-aNt,aMG]at hv3
  have hM2:L++l.take (m+u)=(L++l.take m)++(l.drop m).take u:=by rw[aLF,List.take_add]
  have hacc:TU q (L++l.take (m+u))=TU q (L++l.take m):=by rw[hM2];exact abU _ _ _ (by omega)
  have hlen2:(L++l.take (m+u)).length=L.length+(m+u):=by simp;omega
  have hkeep:kept1.take (r+u)=(L++l.take (m+u)).drop (32*q):=by
   rw[hk1,hM2,aNK (by omega),<-hk]
   unfold Pk
   rw[aMQ (by simp;omega),aLK (by simp;omega)]
  rw[<-hacc]at o2
  simp(disch:=omega)only[seval,o2.cell,Kw (xY _ _) h21]
  by_cases hfull:r+u=32
  .have he:(((r+u:Nat):Int)==32)=true:=by rw[hfull]<;>rfl
   rw[he]
   simp(disch:=omega)only[seval]
   rw[hfull]at o2 hkeep
   have h11:=xY q (L++l.take (m+u))
   refine aqT w2 b _ kept1 _ h11 h21 _ _ (λw3 o3 x3=> ?_) w2 o2 (aN.refl _ _)
   have h13:(Tf (TU q (L++l.take (m+u))) kept1 4).length=4:=by rw[sY];exact h11
   simp(disch:=omega)only[nS,uR,fP,fP,uQ,qK,xS,xR,qI,seval]
   refine qX o3 rfl (by rw[mT h13 h21];omega) λw4 o4 x4 s4=> ?_
   have o4:aZ w4 b ((cM (Tf (TU q (L++l.take (m+u))) kept1 4) kept1 32 (L.length+l.length)).set 36 (.int .i64 ((0:Nat):Int))):=o4
   rw[PF h13 h21]at o4
   have hx4:=x3.seq x4
   have hkk:kept1=(L++l.take (m+u)).drop (32*q):=by rw[<-hkeep,aLK (by omega)]
   refine⟨l.length-(m+u),by omega,m+u,by omega,rfl,hv3.ext hx4 hb3,hb3,⟨kept1,h21, ?_, ?_⟩,(hx.seq hx2).seq hx4⟩
   .have z:(L++l.take (m+u)).drop (32*((L.length+(m+u))/32))=[]:=aNf (by rw[hlen2];omega)
    have z1:(L.length+(m+u))%32=0:=by omega
    rw[hlen2,z,z1]<;>rfl
   .have z1:(L.length+(m+u))%32=0:=by omega
    have z2:(L.length+(m+u))/32=q+1:=by omega
    have z3:kept1.take 32=kept1:=aLK (by omega)
    rw[hlen2,z1,z2,TU,<-hkk,z3]
    exact o4
  .have he:(((r+u:Nat):Int)==32)=false:=by rw[beq_eq_false_iff_ne];omega
   rw[he]
   simp(disch:=omega)only[seval]
   refine⟨l.length-(m+u),by omega,m+u,by omega,rfl,hv3,hb3,⟨kept1,h21, ?_, ?_⟩,hx.seq hx2⟩
   .rw [hlen2,show(L.length+(m+u))%32=r+u from by omega,show(L.length+(m+u))/32=q from by omega];exact hkeep
   .rw [hlen2,show(L.length+(m+u))%32=r+u from by omega,show(L.length+(m+u))/32=q from by omega];exact o2
 .have hd:decide ((0:Int)<(n:Int))=false:=by simp;omega
  simp(disch:=omega)only[nS,uR,fP,fP,uQ,qK,xS,xR,qI,seval,hd]
  refine hR _ ⟨kept,h2, ?_, ?_⟩ hx
  .have e:l.take m=l:=aLK (by omega)
   rw[e]at hk;exact hk
  .have e:l.take m=l:=aLK (by omega)
   rw[e]at ho;exact ho
theorem aCT(b:Nat)(L l:List UInt8)(hlen:L.length+l.length<=1099511627776)(v:aOj)(w:aOi)(h:Zi w b L)(hv:Bs w v l)(hb:¬IY v (λx=>x=b)):
 aK pg zA #[.pointer (some ⟨b,0,none⟩),v] w (λr w'=>r= .tuple #[]/\Zi w' b (L++l)/\aN w w' (λx=>x=b)):=by
 refine UP ?_
 obtain⟨kept,h2,hk,ho⟩:=h
 have h1:=xY (L.length/32) L
 have hv':=hv
 obtain⟨a,n,c,rfl,hn,hc,hcell⟩:=hv'
 rw[aLr]at hn
 simp(disch:=omega)only[Ty,JT,JS,kM,seval,ho.cell,FK h1 h2]
 refine H6 ho rfl (by rw[mT h1 h2];omega) λw1 o1 x1 s1=> ?_
 rw[<-Int.natCast_add,hn,X4 h1 h2]at o1
 refine aqY w b L l hlen _ (λw' hh hx=>⟨?_,hx⟩) _ w1 ⟨kept,h2,hk,o1⟩ (hv.ext x1 hb) hb x1
 unfold Zi;rw[aLo];exact hh
def jA(vs:List Int):Nat->Int
 |0=>0
 |i+1=>IntKind.u64.wrap (jA vs i+azC (vs.getD i 0) ([1,7,12,18].getD i 0))
def jB(vs:List Int):Nat->Int
 |0=>jA vs 4
 |i+1=>IntKind.u64.wrap (IntKind.u64.wrap (WZ .u64 (jB vs i) (aCr 0 (vs.getD i 0))*11400714785074694791)+9650029242287828579)
def atA(L:List UInt8):Int:=if L.length<32 then 2870177450012600261 else jB (TU (L.length/32) L) 4
def aDV(x:Int):Int:=
 let y1:=IntKind.u64.wrap (WZ .u64 x (x.fdiv (2^min (33:Int).toNat IntKind.u64.bits))*14029467366897019727)
 let y2:=IntKind.u64.wrap (WZ .u64 y1 (y1.fdiv (2^min (29:Int).toNat IntKind.u64.bits))*1609587929392839161)
 WZ .u64 y2 (y2.fdiv (2^min (32:Int).toNat IntKind.u64.bits))
def ajG(x m:Int):Int:=IntKind.u64.wrap (IntKind.u64.wrap (azC (WZ .u64 x (aCr 0 m)) 27*11400714785074694791)+9650029242287828579)
def aHp(x m:Int):Int:=IntKind.u64.wrap (IntKind.u64.wrap (azC (WZ .u64 x (IntKind.u64.wrap (m*11400714785074694791))) 23*14029467366897019727)+1609587929392839161)
def aJX(x:Int)(c:UInt8):Int:=IntKind.u64.wrap (azC (WZ .u64 x (IntKind.u64.wrap ((c.toNat:Int)*2870177450012600261))) 11*11400714785074694791)
def e8 (x:Int)(B:List UInt8):Nat->Int
 |0=>x
 |j+1=>ajG (e8 x B j) (Ea ((B.drop (8*j)).take 8))
def e1 (x:Int)(B:List UInt8):Nat->Int
 |0=>x
 |j+1=>aJX (e1 x B j) (B.getD j 0)
def Zj(x:Int)(C:List UInt8):Int×List UInt8:=if 4<=C.length then(aHp x (Ea (C.take 4)),C.drop 4)else(x,C)
def aE0 (x:Int)(B:List UInt8):Int:=
 let r:=Zj (e8 x B (B.length/8)) (B.drop (8*(B.length/8)))
 e1 r.1 r.2 r.2.length
def XXH(L:List UInt8):Int:=aDV (aE0 (IntKind.u64.wrap (atA L+(L.length:Int))) (L.drop (32*(L.length/32))))
theorem aAe(b:Nat)(L:List UInt8)(hlen:L.length<=1099511627776)(w:aOi)(h:Zi w b L):
 aK pg wY #[.pointer (some ⟨b,0,none⟩)] w (λr w'=>r= .int .u64 (atA L)/\w'=w):=by
 refine TB ?_
 obtain⟨kept,h2,hk,ho⟩:=h
 have h1:=xY (L.length/32) L
 by_cases hs:L.length<32
 .have hd:decide ((L.length:Int)<32)=true:=by simp;omega
  simp(disch:=omega)only[G6,gF,gE,seval,ho.cell,FK h1 h2,hd,atA,hs]
 .have hd:decide ((L.length:Int)<32)=false:=by simp;omega
  obtain⟨vs,hvs⟩:∃vs,vs=TU (L.length/32) L:=⟨_,rfl⟩
  have hH:atA L=jB vs 4:=by rw[hvs];unfold atA;rw[if_neg hs]
  rw[hH]
  rw[<-hvs]at ho h1
  clear hvs hH
  simp(disch:=omega)only[G6,hZ,fQ,kN,iA,iB,fR,jN,gC,gD,gE,gF,seval,ho.cell,FK h1 h2,hd]
  refine aX.rule (λn t w'=>∃i:Nat,i<=4/\n=4-i/\t=(.int .u64 (jA vs i),.int .i64 (i:Int))/\w'=w) 4 ⟨0,by omega,rfl,rfl,rfl⟩ ?_
  rintro n t w' ⟨i,hi,rfl,rfl,rfl⟩
  by_cases hlt:i<4
  .have hd:decide ((i:Int)<4)=true:=by simp;omega
   have hv:=acG (vs:=vs) (kept:=kept) (n:=L.length%32) (all:=L.length) i (by omega)
   have hg:(#[Value.int .i64 1,.int .i64 7,.int .i64 12,.int .i64 18]:Array aOj)[i]?=some (.int .i64 (([1,7,12,18].getD i 0:Nat):Int)):=by
    have:i=0∨i=1∨i=2∨i=3:=by omega
    rcases this with rfl|rfl|rfl|rfl<;>rfl
   have ht:[1,7,12,18].getD i 0<64:=by
    have:i=0∨i=1∨i=2∨i=3:=by omega
    rcases this with rfl|rfl|rfl|rfl<;>decide
   simp(disch:=omega)only[uT,hZ,fQ,kN,iA,iB,fR,jN,gC,gD,gE,gF,seval,hd,hg,ho.cell,hv]
   refine(Zf _ _ ht _).mono ?_
   rintro r w1 ⟨rfl,rfl⟩
   simp(disch:=omega)only[seval]
   refine⟨4-(i+1),by omega,i+1,by omega,rfl, ?_⟩
   have hvd:vs.getD i 0=vs[i]'(by omega):=by rw[aLv,aLp (by omega)]<;>rfl
   rw[jA,hvd]
   rfl
  .have:i=4:=by omega
   subst this
   have hd:decide (((4:Nat):Int)<4)=false:=by simp
   have ha:=ahV (off:=0) ho (by rw[mT h1 h2];omega)
   have hb:((cM vs kept (L.length%32) L.length).drop 0).take 4=vs.map (Value.int .u64):=by
    rw[aLA];unfold cM;rw[aMQ (by simp;omega),aLK (by simp;omega)]
   rw[hb]at ha
   simp(disch:=omega)only[uT,hZ,fQ,kN,iA,iB,fR,jN,gC,gD,gE,gF,seval,hd,ha,decide_false]
   refine aX.rule (λn t w2=>∃i:Nat,i<=4/\n=4-i/\t=(.int .u64 (jB vs i),.int .i64 (i:Int))/\w2=w') 4 ⟨0,by omega,rfl,rfl,rfl⟩ ?_
   rintro n t w2 ⟨i,hi,rfl,rfl,rfl⟩
   by_cases hlt:i<4
   .have hd:decide ((i:Int)<4)=true:=by simp;omega
    have hg:((vs.map (Value.int .u64)).toArray)[i]?=some (.int .u64 (vs[i]'(by omega))):=by simp[show i<vs.length by omega]
    simp(disch:=omega)only[uS,hZ,fQ,kN,iA,iB,fR,jN,gC,gD,gE,gF,seval,hd,hg]
    refine(abS _ _ _).mono ?_
    rintro r w1 ⟨rfl,rfl⟩
    simp(disch:=omega)only[seval]
    refine⟨4-(i+1),by omega,i+1,by omega,rfl, ?_⟩
    have hvd:vs.getD i 0=vs[i]'(by omega):=by rw[aLv,aLp (by omega)]<;>rfl
    rw[jB,hvd]
    rfl
   .have:i=4:=by omega
    subst this
    have hd:decide (((4:Nat):Int)<4)=false:=by simp
    simp(disch:=omega)only[uS,hZ,fQ,kN,iA,iB,fR,jN,gC,gD,gE,gF,seval,hd,decide_false]
theorem avR(w:aOi)(R:aOj->aOi->Prop)(y:Int)(D:List UInt8)(v:aOj)(hv:Bs w v D)(hD:D.length<32)(hR:R (.int .u64 (aDV (e1 y D D.length))) w):
 jT R (.int .u64 y) v w:=by
 have hv':=hv
 obtain⟨a,n,c,rfl,hn,hc,hcell⟩:=hv'
 rw[aLr]at hn
 simp(disch:=omega)only[jT,lP,pC,gX,gX,seval]
 refine aX.rule (λm t w'=>∃j:Nat,j<=n/\m=n-j/\t=(.int .u64 (e1 y D j),.int .i64 (j:Int))/\w'=w) n ⟨0,by omega,rfl,rfl,rfl⟩ ?_
 rintro m t w' ⟨j,hj,rfl,rfl,rfl⟩
 by_cases hlt:j<n
 .obtain ⟨b,off,rfl,hcell'⟩:=hcell (by omega)
  have hcl:=hcell' j hlt
  rw[aLN,aLp (by omega),aL2]at hcl
  have hb:(D[j]'(by omega)).toNat<256:=aM3 _
  have hd:decide ((j:Int)<(n:Int))=true:=by simpa using hlt
  simp(disch:=omega)only[Bu,lO,gX,pC,lP,jT,lQ,jU,iW,iX,mW,mX,seval,hd,hcl,dP]
  refine(Zf _ 11 (by omega) _).mono ?_
  rintro r w1 ⟨rfl,rfl⟩
  simp(disch:=omega)only[seval]
  refine⟨n-(j+1),by omega,j+1,by omega,rfl, ?_⟩
  have hg:D.getD j 0=D[j]'(by omega):=by rw[aLv,aLp (by omega)]<;>rfl
  rw[e1,hg]
  rfl
 .have hd:decide ((j:Int)<(n:Int))=false:=by simpa using hlt
  have:j=D.length:=by omega
  subst this
  simp(disch:=omega)only[Bu,lO,gX,pC,lP,jT,lQ,jU,iW,iX,mW,mX,lO,seval,hd,decide_false]
  exact hR
theorem aEW(w:aOi)(R:aOj->aOi->Prop)(x:Int)(B:List UInt8)(v:aOj)(hv:Bs w v B)(hB:B.length<32)(hR:R (.int .u64 (aDV (aE0 x B))) w):
 iX R (.int .u64 x) v w:=by
 unfold iX iW
 refine aX.rule (λn t w'=>∃(j:Nat) (u:aOj),8*j<=B.length/\n=B.length-j/\t=(.int .u64 (e8 x B j),u)/\Bs w u (B.drop (8*j))/\w'=w) B.length ⟨0,v,by omega,rfl,rfl,hv,rfl⟩ ?_
 rintro n t w' ⟨j,u,hj,rfl,rfl,hu,rfl⟩
 have hu':=hu
 obtain⟨a,n,c,rfl,hn,hc,hcell⟩:=hu'
 rw[aLr,aLL]at hn
 by_cases h8:8<=n
 .obtain ⟨b',o',rfl,_⟩:=hcell (by omega)
  have hd:decide ((8:Int)<=(n:Int))=true:=by simp;omega
  have t8:(8:Int).toNat=8:=rfl
  simp(disch:=omega)only[zX,lO,gX,pC,lP,jT,lQ,jU,iW,iX,mW,mX,seval,hd,t8]
  have hs:=hu.take h8
  rw[<-aNc]at hs
  refine(W5 _ _ _ hs (by rw[aLz];omega)).mono ?_
  rintro r w1 ⟨rfl,rfl⟩
  refine(abS _ _ _).mono ?_
  rintro r w1 ⟨rfl,rfl⟩
  simp(disch:=omega)only[seval]
  refine(Zf _ 27 (by omega) _).mono ?_
  rintro r w1 ⟨rfl,rfl⟩
  simp(disch:=omega)only[seval,t8]
  have hs2:=hu.drop h8
  rw[<-aNt,aMG]at hs2
  exact⟨B.length-(j+1),by omega,j+1,_,by omega,rfl,rfl,by rw[aNS];exact hs2⟩
 .have hd:decide ((8:Int)<=(n:Int))=false:=by simp;omega
  have hj8:j=B.length/8:=by omega
  obtain⟨C,hC⟩:∃C,C=B.drop (8*j):=⟨_,rfl⟩
  have hCl:C.length=n:=by rw[hC,aLL,hn]
  have htail:aE0 x B=(let r:=Zj (e8 x B j) C;e1 r.1 r.2 r.2.length):=by rw[hC,hj8]<;>rfl
  rw[htail]at hR
  rw[<-hC]at hu
  simp(disch:=omega)only[zX,lO,gX,pC,lP,jT,lQ,jU,iW,iX,mW,mX,seval,hd,decide_false]
  by_cases h4:4<=n
  .obtain ⟨b',o',rfl,_⟩:=hcell (by omega)
   have hd:decide ((4:Int)<=(n:Int))=true:=by simp;omega
   have t4:(4:Int).toNat=4:=rfl
   have ha:Zj (e8 x B j) C=(aHp (e8 x B j) (Ea (C.take 4)),C.drop 4):=by unfold Zj;rw[if_pos (by omega)]
   rw[ha]at hR
   simp(disch:=omega)only[jU,lQ,seval,hd,t4]
   have hs:=hu.take h4
   rw[<-aNc]at hs
   refine(W5 _ _ _ hs (by rw[aLz];omega)).mono ?_
   rintro r w1 ⟨rfl,rfl⟩
   simp(disch:=omega)only[seval]
   refine(Zf _ 23 (by omega) _).mono ?_
   rintro r w1 ⟨rfl,rfl⟩
   simp(disch:=omega)only[seval,t4]
   have hs2:=hu.drop h4
   rw[<-aNt]at hs2
   exact avR _ _ _ _ _ hs2 (by rw[aLL];omega) hR
  .have hd:decide ((4:Int)<=(n:Int))=false:=by simp;omega
   have ha:Zj (e8 x B j) C=(e8 x B j,C):=by unfold Zj;rw[if_neg (by omega)]
   rw[ha]at hR
   simp(disch:=omega)only[jU,lQ,seval,hd]
   exact avR _ _ _ _ _ hu (by omega) hR
theorem aG0 (b:Nat)(L:List UInt8)(hlen:L.length<=1099511627776)(w:aOi)(h:Zi w b L):
 aK pg Cy #[.pointer (some ⟨b,0,none⟩)] w (λr w'=>r= .int .u64 (XXH L)/\aN w w' bJ):=by
 refine Zc ?_
 have h':=h
 obtain⟨kept,h2,hk,ho⟩:=h'
 have h1:=xY (L.length/32) L
 have hod:=Ze ho
 simp(disch:=omega)only[Zb,mX,mW,seval]
 refine(aAe b L hlen (dr w) ⟨kept,h2,hk,hod⟩).mono ?_
 rintro r w1 ⟨rfl,rfl⟩
 have hod2:=Ze hod
 have hr:L.length%32<32:=by omega
 have hbs:Bs (dr (dr w)) (.slice (some ⟨b,4,none⟩) (L.length%32-0) (32-0)) (L.drop (32*(L.length/32))):=by
  rw[<-hk]
  have e:(kept.take (L.length%32)).length=L.length%32:=by rw[aLz];omega
  rw[show L.length%32-0=(kept.take (L.length%32)).length from by omega]
  refine hod2.bs (by omega) λj hj=> ?_
  rw[R6 h1 j (by omega)]
  simp
 have t0:hJ ⟨b,4,none⟩ 32 0 1=⟨b,4,none⟩:=by rw[nO (by omega)]
 simp(disch:=omega)only[seval,hod.cell,hod2.cell,FK h1 h2,Kw h1 h2,t0]
 refine aEW _ _ _ _ _ hbs (by rw[aLL];omega) ⟨rfl,(aN.dr w _).seq (aN.dr _ _)⟩
theorem aFv(L:List UInt8)(hlen:L.length<=1099511627776)(v:aOj)(w:aOi)(hv:Bs w v L):
 aK pg Mc #[v] w (λr w'=>r= .int .u64 (XXH L)/\aN w w' bJ):=by
 refine awE ?_
 simp(disch:=omega)only[aFu,anS,seval]
 refine(aGZ w).mono ?_
 rintro r w1 ⟨rfl,h1,x1⟩
 have hnb:¬IY v (λx=>x=w.heap.size):=by
  intro hb
  refine hv.old ?_
  unfold IY at*
  split at hb
  .omega
  .exact hb
 have hv1:=hv.ext x1 (by unfold IY bJ;split<;>simp)
 refine(aCT _ [] L (by simpa using hlen) v w1 h1 hv1 hnb).mono ?_
 rintro r w2 ⟨rfl,h2,x2⟩
 refine(aG0 _ L hlen w2 h2).mono ?_
 rintro r w3 ⟨rfl,x3⟩
 exact⟨rfl,(x1.new x2 (aLw _)).seq x3⟩
end Go.Proofs.YtoecppploooloaaGreatDoor
namespace Go.Proofs.YtoecppploooloaaGreatDoor
open Go Go.En Go.Pu
set_option maxRecDepth 4000
def XN(L:List UInt8):Nat:=(XXH L).toNat
theorem abP(a b:Int):0<=WZ .u64 a b/\WZ .u64 a b<2^64:=by
 unfold WZ
 have h:(BitVec.ofInt IntKind.u64.bits a^^^BitVec.ofInt IntKind.u64.bits b).toNat<2^64:=BitVec.isLt _
 rw[gR (by omega) (by omega)]
 omega
theorem aG3 (L:List UInt8):XN L<2^64:=by
 have:=abP
 unfold XN XXH aDV
 simp only[]
 generalize IntKind.u64.wrap (WZ .u64 (IntKind.u64.wrap _) _*1609587929392839161)=y
 have:=abP y (y.fdiv (2^min (32:Int).toNat IntKind.u64.bits))
 omega
theorem aG4 (L:List UInt8):XXH L=(XN L:Int):=by
 have:0<=XXH L:=by
  unfold XXH aDV
  exact(abP _ _).1
 unfold XN
 omega
theorem aJo{x:Nat}(h:x<2^64):Cj .u64 (x:Int) 4294967295=((x%2^32:Nat):Int):=by
 unfold Cj
 have e:IntKind.u64.bits=64:=rfl
 have e2:(4294967295:Int)=((2^32-1:Nat):Int):=by decide
 rw[e2,e,BitVec.ofInt_natCast,BitVec.ofInt_natCast,BitVec.toNat_and,BitVec.toNat_ofNat,BitVec.toNat_ofNat,aLR h,aLR (by omega),aM8]
 exact gR (by omega) (by omega)
def aoL(l all:List UInt8):Except Int (List UInt8):=if l.length<4 then .error 10 else if jW (l.take 4)≠XN all%2^32 then .error 13 else .ok (l.drop 4)
def aJw(lo hi pr:Nat)(w:aOi)(r:aOj)(w':aOi):Except Int (List UInt8)->Prop
 | .error e=>e≠0/\r= .int .i64 e/\aN w w' (λy=>y=pr)
 | .ok l=>r= .int .i64 0/\NR w' lo hi pr l 0/\aN w w' (λy=>y=pr)
theorem aBE{p pr lo hi:Nat}{va:aOj}{all l:List UInt8}{cs:List aOj}{w:aOi}(o:aZ w p cs)(k0:cs[0]?=some (.pointer (some ⟨pr,0,none⟩)))(hr:NR w lo hi pr l 0)(ha:Bs w va all)(hv:¬IY va (λy=>y=pr))(hl:l.length<=1000000)(hall:all.length<=2000000):
 aK pg jY #[.pointer (some ⟨p,0,none⟩),va] w (λr w'=>aJw lo hi pr w r w' (aoL l all)):=by
 refine Li ?_
 unfold Hc CO
 refine(agX (n:=4) o k0 hr hl (by omega)).mono ?_
 unfold aoL
 rintro r w1 (⟨h1,rfl,h2⟩|⟨h1,v,rfl,hb1,hat,hr1,x1⟩)
 .rw [h2];clear h2 w1
  have n1:((10:Int) !=0)=true:=rfl
  rw[if_pos h1]
  simp(disch:=omega)only[seval,n1]
  exact⟨by decide,rfl,aN.refl _ _⟩
 rw[if_neg (by omega)]
 have n1:((0:Int) !=0)=false:=rfl
 simp(disch:=omega)only[seval,n1]
 refine(Gm hb1 (by rw[aLz];omega)).mono ?_
 rintro r w2 ⟨p2,rfl,hr2,x2⟩
 have z1:=x1.size
 have hz:=hr.lt
 refine(yF (n:=4) hr2 (by rw[aLz];omega) ⟨by omega,by omega⟩).mono ?_
 rintro r w3 ⟨rfl,hr3,x3⟩
 have ht:DO (l.take 4) 0 4=(l.take 4,[],0):=by
  unfold DO
  rw[if_neg (by decide),if_neg (by rw[aLz];omega),aLK (by rw[aLz];omega),aMD (by rw[aLz];omega)]
 rw[ht]
 have h2:w1.heap.size<=p2:=hr2.1
 have x13:aN w1 w3 bJ:=x2.trans x3 λy hy h=>by omega
 refine(aFv all (by omega) va w3 ((ha.ext x1 hv).ext x13 (aU _))).mono ?_
 rintro r w4 ⟨rfl,x4⟩
 rw[aG4]
 have a32:=aJo (aG3 all)
 obtain⟨q,hq⟩:∃q,q=jW (l.take 4):=⟨_,rfl⟩
 rw[<-hq]
 obtain⟨q2,hq2⟩:∃q,q=XN all%2^32:=⟨_,rfl⟩
 rw[<-hq2]at a32⊢
 by_cases he:q=q2
 .have n2:((q:Int) !=(q2:Int))=false:=by rw[he];simp
  rw[if_neg (by simpa using he)]
  simp(disch:=omega)only[seval,a32,n2]
  exact⟨rfl,(hr1.ext x13 λ_ _ _ h=>h).ext x4 λ_ _ _ h=>h,(x1.trans x13 λ_ _ h=>h.elim).trans x4 λ_ _ h=>h.elim⟩
 .have n2:((q:Int) !=(q2:Int))=true:=by simp;omega
  rw[if_pos he]
  simp(disch:=omega)only[seval,a32,n2]
  exact⟨by decide,rfl,(x1.trans x13 λ_ _ h=>h.elim).trans x4 λ_ _ h=>h.elim⟩
def ME(h:FH)(l all:List UInt8):Except Int (List UInt8×List UInt8):=
 if h.known=true/\all.length≠h.size then .error 11 else if h.sum=true then(match aoL l all with| .error e=> .error e| .ok l'=> .ok (all,l'))else .ok (all,l)
structure DM where
 l:List UInt8
 win:Nat
 most:Nat
 out:List UInt8
 fr:Nat
 sk:Nat
def tL(pr:Nat)(vo:aOj)(m:DM):List aOj:=[.pointer (some ⟨pr,0,none⟩),.int .u64 (m.win:Nat),.int .i64 (m.most:Nat),vo,.int .i64 (m.fr:Nat),.int .i64 (m.sk:Nat)]
def DSt(w:aOi)(base p:Nat)(m:DM):Prop:=
 ∃pr vo lo hi,∃O:Nat->Prop,aZ w p (tL pr vo m)/\NR w lo hi pr m.l 0/\Ab w O 1 vo m.out.length (m.out.map dP)/\base<=p/\base<=lo/\(∀b,O b->base<=b/\b≠p/\¬(lo<=b/\b<hi))/\¬(lo<=p/\p<hi)/\hi<=w.heap.size
theorem aGz{w:aOi}{S M:Nat->Prop}{n:Nat}{v:aOj}{l:List aOj}(h:Ab w S 1 v n l)(hM:∀b,S b->¬M b):¬IY v M:=by
 rcases h.2 with⟨rfl,rfl⟩|⟨b,c,rest,rfl,h2,_⟩
 .exact λh=>h
 .have:=hM b h2
  cases n<;>simp_all[IY]
def aBL(base p:Nat)(w:aOi)(dm:DM)(r:aOj)(w':aOi):Except Int (List UInt8×List UInt8)->Prop
 | .error e=>e≠0/\r= .int .i64 e/\aN w w' (λy=>base<=y)
 | .ok (all,l)=>r= .int .i64 0/\DSt w' base p ⟨l,dm.win,dm.most,dm.out++all,dm.fr+1,dm.sk⟩/\aN w w' (λy=>base<=y)
theorem amG{RR:aOj->aOi->Prop}{base p pr lo hi:Nat}{O:Nat->Prop}{vo va:aOj}{all:List UInt8}{m:DM}{w:aOi}
 (o:aZ w p (tL pr vo m)) (hr:NR w lo hi pr m.l 0) (oo:Ab w O 1 vo m.out.length (m.out.map dP)) (hp:base<=p) (hlo:base<=lo) (hO:∀b,O b->base<=b/\b≠p/\¬(lo<=b/\b<hi)) (q1:¬(lo<=p/\p<hi)) (hhi:hi<=w.heap.size)
 (ha:Bs w va all) (h1:m.out.length<=2000000) (h2:all.length<=2000000) (h3:m.fr<=2000000)
 (hk:∀w',DSt w' base p ⟨m.l,m.win,m.most,m.out++all,m.fr+1,m.sk⟩->aN w w' (λy=>base<=y)->RR (.int .i64 0) w'):
 gJ RR (.pointer (some ⟨p,0,none⟩)) va w:=by
 unfold gJ
 have hz:=o.lt
 have c3:=o.cell (off:=3)
 simp only[tL,aLq,aLs]at c3
 simp(disch:=omega)only[seval,c3]
 refine apB (S:=λb=>O b∨w.heap.size<=b) (YD oo λb h _=> .inl h) ha (λb h=> .inr h) (by omega) λv' w1 o1 x1=> ?_
 have hp1:¬(O p∨w.heap.size<=p):=by
  rintro(h|h)
  .exact (hO p h).2.1 rfl
  .omega
 have o2:=o.ext x1 hp1
 obtain⟨a',c',hv'⟩:=o1.len
 try simp(disch:=omega)only[seval]
 refine lH (off:=3) o2 (by rw[hv']<;>rfl) (by simp[tL]) λw3 o3 x3 s3=> ?_
 simp only[tL,aLu,aLx]at o3
 have c4:=o3.cell (off:=4)
 simp only[aLq,aLs]at c4
 have e4:(m.fr:Int)+1=((m.fr+1:Nat):Int):=by omega
 have w4:IntKind.i64.wrap ((m.fr+1:Nat):Int)=((m.fr+1:Nat):Int):=dA (by omega) (by omega)
 simp(disch:=omega)only[seval,c4,e4,w4]
 refine qX (off:=4) o3 rfl (by simp) λw5 o5 x5 s5=> ?_
 simp only[aLu,aLx]at o5
 have x35:=x3.seq x5
 have zz1:=x1.size
 have zz3:=x35.size
 have x05:aN w w5 (λy=>O y∨w.heap.size<=y∨y=p):=(x1.mono λy _ h=>h.elim .inl λh=> .inr (.inl h)).seq (x35.mono λy _ h=> .inr (.inr h))
 refine hk w5 ⟨pr,v',lo,hi,λb=>(O b∨w.heap.size<=b),o5, ?_,o1.ext x35 ?_,hp,hlo, ?_,q1,by omega⟩ (x05.mono ?_)
 .refine hr.ext x05 λb h1 h2 h=> ?_
  rcases h with h|h|h
  .exact (hO b h).2.2 ⟨h1,h2⟩
  .omega
  .exact q1 (h▸⟨h1,h2⟩)
 .intro b h e
  exact hp1 (e▸h)
 .rintro b (h|h)
  .exact hO b h
  .exact ⟨by omega,by omega,by omega⟩
 .rintro y hy (h|h|h)
  .exact (hO y h).1
  .omega
  .omega
theorem aBD{base p pr ph lo hi:Nat}{O A:Nat->Prop}{vo va:aOj}{all:List UInt8}{m dm:DM}{h:FH}{w0 w:aOi}
 (hdm:dm.win=m.win/\dm.most=m.most/\dm.out=m.out/\dm.fr=m.fr/\dm.sk=m.sk) (hx:aN w0 w (λy=>base<=y))
 (o:aZ w p (tL pr vo m)) (hr:NR w lo hi pr m.l 0) (oo:Ab w O 1 vo m.out.length (m.out.map dP)) (hp:base<=p) (hlo:base<=lo) (hO:∀b,O b->base<=b/\b≠p/\¬(lo<=b/\b<hi)) (q1:¬(lo<=p/\p<hi)) (hhi:hi<=w.heap.size)
 (oh:aZ w ph (MT h)) (ha:Ab w A 1 va all.length (all.map dP)) (hA:∀b,A b->¬(lo<=b/\b<hi)) (h1:m.out.length<=2000000) (h2:all.length<=2000000) (h3:m.fr<=2000000) (hl:m.l.length<=1000000) (hsz:h.size<2^64):
 kC (λr w'=>aBL base p w0 dm r w' (ME h m.l all)) (.pointer (some ⟨p,0,none⟩)) (.pointer (some ⟨ph,0,none⟩)) va w:=by
 obtain⟨RR,hRR⟩:∃RR:aOj->aOi->Prop,RR=λr w'=>aBL base p w0 dm r w' (ME h m.l all):=⟨_,rfl⟩
 rw[<-hRR]
 unfold kC D0
 have c2:=oh.cell (off:=2)
 have c1:=oh.cell (off:=1)
 have c3:=oh.cell (off:=3)
 simp only[MT,aLq,aLs]at c1 c2 c3
 obtain⟨a',c',hva⟩:=ha.len
 have hb:Bs w va all:=aaM ha
 have wl:IntKind.u64.wrap (all.length:Int)=all.length:=gR (by omega) (by omega)
 have hpr:lo<=pr/\pr<hi:=⟨hr.1,hr.2.1⟩
 have hnp:¬IY va (λy=>y=pr):=aGz ha λb hb e=>hA b hb (e▸hpr)
 have fin:¬(h.known=true/\all.length≠h.size)->bQ (.bool h.sum) (aK pg jY #[.pointer (some ⟨p,0,none⟩),va] w λt105 w=>aA pg (aD .neq 24 (.tmp 106) (.const (.int .i64 0)) t105 (.int .i64 0)) w λt107 w=>bQ t107 (RR t105 w) (gJ RR (.pointer (some ⟨p,0,none⟩)) va w)) (gJ RR (.pointer (some ⟨p,0,none⟩)) va w):=by
  intro hn
  cases hs:h.sum with
  |false=>
   simp(disch:=omega)only[seval]
   refine amG o hr oo hp hlo hO q1 hhi hb h1 h2 h3 λw' hd x=> ?_
   rw[hRR]
   unfold ME
   rw[if_neg hn,if_neg (by rw[hs];simp)]
   refine⟨rfl, ?_,hx.seq x⟩
   rw[hdm.1,hdm.2.1,hdm.2.2.1,hdm.2.2.2.1,hdm.2.2.2.2]
   exact hd
  |true=>
   simp(disch:=omega)only[seval]
   refine(aBE o (by rfl) hr hb hnp hl h2).mono ?_
   intro r w1 hs1
   have hdt:ME h m.l all=match aoL m.l all with| .error e=> .error e| .ok l'=> .ok (all,l'):=by
    unfold ME
    rw[if_neg hn,if_pos hs]
    try rfl
   cases hd:aoL m.l all with
   |error e=>
    rw[hd]at hs1
    obtain⟨he,rfl,x1⟩:=hs1
    have n1:(e !=0)=true:=by simp[he]
    simp(disch:=omega)only[seval,n1]
    rw[hRR,hdt,hd]
    exact⟨he,rfl,hx.seq (x1.mono λy _ h=>by omega)⟩
   |ok l'=>
    rw[hd]at hs1
    obtain⟨rfl,hr1,x1⟩:=hs1
    have n1:((0:Int) !=0)=false:=rfl
    simp(disch:=omega)only[seval,n1]
    have z1:=x1.size
    refine amG (m:=⟨l',m.win,m.most,m.out,m.fr,m.sk⟩) (o.ext x1 λe=>q1 (e▸hpr)) hr1 (oo.ext x1 λb hb e=>(hO b hb).2.2 (e▸hpr)) hp hlo hO q1 (by omega) (hb.ext x1 hnp) h1 h2 h3 λw' hd' x=> ?_
    rw[hRR,hdt,hd]
    refine⟨rfl, ?_,hx.seq ((x1.mono λy _ h=>by omega).seq x)⟩
    rw[hdm.1,hdm.2.1,hdm.2.2.1,hdm.2.2.2.1,hdm.2.2.2.2]
    exact hd'
 cases hkn:h.known with
 |false=>
  rw[hkn]at c2
  have:=fin (by rw[hkn];simp)
  subst hva
  simp(disch:=omega)only[seval,c2,c3]
  exact this
 |true=>
  rw[hkn]at c2
  subst hva
  by_cases he:all.length=h.size
  .have n1:((all.length:Int) !=(h.size:Int))=false:=by rw[he];simp
   have:=fin (by simp[he])
   simp(disch:=omega)only[seval,c2,c3,c1,wl,n1]
   exact this
  .have n1:((all.length:Int) !=(h.size:Int))=true:=by simp;omega
   simp(disch:=omega)only[seval,c2,c3,c1,wl,n1]
   rw[hRR]
   unfold ME
   rw[if_pos ⟨hkn,he⟩]
   exact⟨by decide,rfl,hx⟩
def Pq(h:FH)(room:Nat):Nat->List UInt8->List UInt8->Option (Except Int (List UInt8×List UInt8))
 |0,_,_=>none
 |f+1,l,all=>match XB l all h.window room with
  |none=>none
  |some (.error e)=>some (.error e)
  |some (.ok (a,l',b))=>if h.known=true/\h.size<a.length then some (.error 11)else if b then some (.ok (a,l'))else Pq h room f l' a
def aAv(h:FH):Except Int (List UInt8×List UInt8)->Except Int (List UInt8×List UInt8)
 | .error e=> .error e
 | .ok (a,l')=>ME h l' a
theorem aDz{l all:List UInt8}{win room:Nat}{e:Int}(h:XB l all win room=some (.error e)):e≠0:=by
 unfold XB at h
 repeat' split at h
 all_goals first|(cases h;decide)|cases h
theorem aAu{l all a l':List UInt8}{win room:Nat}{b:Bool}(h:XB l all win room=some (.ok (a,l',b))):a.length<=room/\l'.length<=l.length:=by
 unfold XB at h
 repeat' split at h
 all_goals first|cases h|skip
 rw[aLo,aLL]
 omega
theorem aBy{base p pr ph pq lo hi aB f:Nat}{O:Nat->Prop}{vo va:aOj}{all:List UInt8}{m dm:DM}{h:FH}{w0 w:aOi}{mm:Except Int (List UInt8×List UInt8)}
 (hdm:dm.win=m.win/\dm.most=m.most/\dm.out=m.out/\dm.fr=m.fr/\dm.sk=m.sk) (hx:aN w0 w (λy=>base<=y))
 (o:aZ w p (tL pr vo m)) (hr:NR w lo hi pr m.l 0) (oo:Ab w O 1 vo m.out.length (m.out.map dP)) (hp:base<=p) (hlo:base<=lo) (hO:∀b,O b->base<=b/\b≠p/\¬(lo<=b/\b<hi)/\b<aB) (hpq:base<=pq/\pq≠p/\pq≠ph/\¬O pq) (q1:¬(lo<=p/\p<hi)) (q2:¬(lo<=ph/\ph<hi)) (q3:¬(lo<=pq/\pq<hi)) (hb:p<aB/\ph<aB/\pq<aB/\hi<=aB/\base<=aB/\aB<=w.heap.size)
 (oh:aZ w ph (MT h)) (og:aZ w pq gL) (ha:Ab w (λb=>aB<=b) 1 va all.length (all.map dP)) (h1:m.out.length<=m.most) (h2:all.length<=2000000) (h3:m.fr<=2000000) (hmost:m.most<=2000000) (hl:m.l.length<=1000000) (hsz:h.size<2^64)
 (hm:Pq h (m.most-m.out.length) f m.l all=some mm):
 kD (λr w'=>aBL base p w0 dm r w' (aAv h mm)) (.pointer (some ⟨p,0,none⟩)) (.pointer (some ⟨ph,0,none⟩)) (.pointer (some ⟨pq,0,none⟩)) va w:=by
 obtain⟨RR,hRR⟩:∃RR:aOj->aOi->Prop,RR=λr w'=>aBL base p w0 dm r w' (aAv h mm):=⟨_,rfl⟩
 rw[<-hRR]
 unfold kD nV
 refine aX.rule (λf (va:aOj) w1=>∃all l,Pq h (m.most-m.out.length) f l all=some mm/\aN w w1 (λy=>aB<=y∨y=pr∨y=pq)/\NR w1 lo hi pr l 0/\Ab w1 (λb=>aB<=b) 1 va all.length (all.map dP)/\aZ w1 pq gL/\all.length<=2000000/\l.length<=1000000) f
  ⟨all,m.l,hm,aN.refl _ _,hr,ha,og,h2,hl⟩ ?_
 clear hm ha og hl h2 hr all
 rintro f va w1 ⟨all,l,hm,x1,hr,ha,og,h2,hl⟩
 have hpr:lo<=pr/\pr<hi:=⟨hr.1,hr.2.1⟩
 have z1:=x1.size
 have hnp:¬(aB<=p∨p=pr∨p=pq):=by omega
 have hnh:¬(aB<=ph∨ph=pr∨ph=pq):=by omega
 have hnO:∀b,O b->¬(aB<=b∨b=pr∨b=pq):=by
  rintro b hb (h|h|h)
  .have:=(hO b hb).2.2.2;omega
  .exact (hO b hb).2.2.1 (h▸hpr)
  .exact hpq.2.2.2 (h▸hb)
 have o1:=o.ext x1 hnp
 have oh1:=oh.ext x1 hnh
 have oo1:=oo.ext x1 hnO
 cases f with
 |zero=>cases hm
 |succ f=>
  rw[Pq]at hm
  unfold wA
  have hg:=EA (off:=0) og (by simp[gL])
  simp only[gL,aLA,aLy,aLG]at hg
  have c0:=oh1.cell (off:=0)
  have c1:=oh1.cell (off:=1)
  have c2:=oh1.cell (off:=2)
  simp only[MT,aLq,aLs]at c0 c1 c2
  simp(disch:=omega)only[seval,hg,c0]
  obtain⟨mb,hmb⟩:∃mb,XB l all h.window (m.most-m.out.length)=some mb:=by
   cases hd:XB l all h.window (m.most-m.out.length)with
   |none=>rw[hd]at hm;cases hm
   |some mb=>exact⟨mb,rfl⟩
  rw[hmb]at hm
  refine(aDD (n:=m.out.length) (most:=m.most) o1 rfl rfl rfl oo1.len hr ha (λb h=>⟨by omega,by omega⟩) (λb h=>by omega) (by omega) q1 h1 hl h2 hmost hmb).mono ?_
  intro r w2 hb2
  cases mb with
  |error e=>
   have he:=aDz hmb
   cases hm
   obtain⟨rfl,x2⟩:=hb2
   have n1:(e !=0)=true:=by simp[he]
   unfold gZv
   simp(disch:=omega)only[seval,n1]
   have og2:aZ w2 pq gL:=og.ext x2 (by omega)
   refine fY og2 rfl (by simp[one]) (by simp[gL]) λw3 o3 x3 s3=> ?_
   try simp(disch:=omega)only[seval,n1]
   rw[hRR]
   exact⟨he,rfl,hx.seq ((((x1.mono λy _ h=>by omega).seq (x2.mono λy _ h=>by omega))).seq (x3.mono λy _ h=>by omega))⟩
  |ok t=>
   obtain⟨a,l',b⟩:=t
   obtain⟨v,rfl,o2,hr2,x2⟩:=hb2
   have hlen:=aAu hmb
   have n1:((0:Int) !=0)=false:=rfl
   have z2:=x2.size
   have og2:=og.ext x2 (by omega)
   obtain⟨av,cv,hv⟩:=o2.len
   unfold gLv
   subst hv
   simp(disch:=omega)only[seval,n1]
   refine fY og2 rfl (by simp[one]) (by simp[gL]) λw3 o3 x3 s3=> ?_
   simp only[aT,gL,aLu,aLx]at o3
   have x13:aN w w3 (λy=>aB<=y∨y=pr∨y=pq):=(x1.seq (x2.mono λy _ h=>by omega)).seq (x3.mono λy _ h=>by omega)
   have oh3:=oh.ext x13 hnh
   have d0:=oh3.cell (off:=0)
   have d1:=oh3.cell (off:=1)
   have d2:=oh3.cell (off:=2)
   simp only[MT,aLq,aLs]at d0 d1 d2
   have o3':=o.ext x13 hnp
   have hr3:=hr2.ext x3 (λb h1 h2 h=>by omega)
   have o2':=o2.ext x3 (λb h1 h=>by omega)
   have wl:IntKind.u64.wrap (a.length:Int)=a.length:=gR (by omega) (by omega)
   have go:¬(h.known=true/\h.size<a.length)->bQ (.bool b) (kC RR (.pointer (some ⟨p,0,none⟩)) (.pointer (some ⟨ph,0,none⟩)) (.slice av a.length cv) w3) (∃m_1,m_1<f+1/\∃all l,Pq h (m.most-m.out.length) m_1 l all=some mm/\aN w w3 (λy=>aB<=y∨y=pr∨y=pq)/\NR w3 lo hi pr l 0/\Ab w3 (λb=>aB<=b) 1 (.slice av a.length cv) all.length (all.map dP)/\aZ w3 pq gL/\all.length<=2000000/\l.length<=1000000):=by
    intro hn
    simp only[if_neg hn]at hm
    cases b with
    |true=>
     cases hm
     simp(disch:=omega)only[seval]
     rw[hRR]
     exact aBD (m:=⟨l',m.win,m.most,m.out,m.fr,m.sk⟩) hdm (hx.seq (x13.mono λy _ h=>by omega)) o3' hr3 (oo.ext x13 hnO) hp hlo (λb hb=>⟨(hO b hb).1,(hO b hb).2.1,(hO b hb).2.2.1⟩) q1 (by omega) oh3 o2' (λb h=>by omega) (show m.out.length<=2000000 by omega) (by omega) h3 (show l'.length<=1000000 by omega) hsz
    |false=>
     simp(disch:=omega)only[seval]
     exact⟨f,by omega,a,l',hm,x13,hr3,o2',o3,by omega,by omega⟩
   cases hkn:h.known with
   |false=>
    rw[hkn]at d2
    have:=go (by rw[hkn];simp)
    simp(disch:=omega)only[seval,n1,d2]
    exact this
   |true=>
    rw[hkn]at d2
    by_cases hlt:h.size<a.length
    .have g1:decide ((a.length:Int)>(h.size:Int))=true:=decide_eq_true (by omega)
     have g2:decide ((h.size:Int)<(a.length:Int))=true:=decide_eq_true (by omega)
     simp only[if_pos (⟨hkn,hlt⟩:h.known=true/\h.size<a.length)]at hm
     cases hm
     simp(disch:=omega)only[seval,n1,d2,d1,wl,g1,g2]
     rw[hRR]
     exact⟨by decide,rfl,hx.seq (x13.mono λy _ h=>by omega)⟩
    .have g1:decide ((a.length:Int)>(h.size:Int))=false:=decide_eq_false (by omega)
     have g2:decide ((h.size:Int)<(a.length:Int))=false:=decide_eq_false (by omega)
     have:=go (by simp[hlt])
     simp(disch:=omega)only[seval,n1,d2,d1,wl,g1,g2]
     exact this
def aoK(l:List UInt8)(win room:Nat):Option (Except Int (List UInt8×List UInt8)):=
 match PB l with
 | .error e=>some (.error e)
 | .ok (h,n)=>if win<h.window∨(h.known=true/\room<h.size)then some (.error 12)else match Pq h room (l.length+1) (l.drop n) []with|none=>none|some mm=>some (aAv h mm)
theorem aDP{L dict:Nat}{s:List UInt8×Int}{h:FH}{e:Int}(hh:adX L s dict h= .error e):e≠0:=by
 unfold adX at hh
 split at hh
 .cases hh;assumption
 .split at hh
  .cases hh;decide
  .cases hh
theorem aBK{l:List UInt8}{e:Int}(h:PB l= .error e):e≠0:=by
 unfold PB at h
 split at h
 .cases h;assumption
 .split at h
  .cases h;decide
  .exact aDP h
theorem aIp(s:List UInt8×Int)(n:Nat)(hn:n<=8):opV s n<2^64:=by
 unfold opV
 split
 .have:=aiI s n
  have h2:256^n<=256^8:=aLB (by omega) hn
  have h3:(256:Nat)^8=2^64:=by decide
  omega
 .decide
theorem aHY(s:List UInt8×Int)(d:Nat)(hd:d<256):fSz d (opV s (W6 d))<2^64:=by
 have h4:d/64=0∨d/64=1∨d/64=2∨d/64=3:=by omega
 have h8:W6 d<=8:=by
  unfold W6
  rcases h4 with h|h|h|h<;>rw[h]<;>simp
  split<;>omega
 have:=aIp s (W6 d) h8
 unfold fSz
 split
 .rename_i h2
  rw[h2]at this⊢
  have h5:opV s 2<65536:=by
   unfold opV
   rw[if_pos (by omega)]
   exact aiI s 2
  omega
 .exact this
theorem aDR{l:List UInt8}{h:FH}{n:Nat}(hh:PB l= .ok (h,n)):h.size<2^64/\n<=l.length:=by
 unfold PB at hh
 split at hh
 .cases hh
 .split at hh
  .cases hh
  .unfold ahC adX at hh
   split at hh
   .cases hh
   .split at hh
    .cases hh
    .cases hh
     have hd:nvS (l,0) 1<256:=aiI (l,0) 1
     exact⟨aHY _ _ hd,by omega⟩
theorem aAB{w:aOi}:aK pg oY #[] w (λr w'=>r= .agg #[.int .u32 1,.int .u32 4,.int .u32 8]/\aN w w' bJ):=by
 refine Wb ?_
 unfold U1 MR
 refine dS λw1 o1 x1 s1=> ?_
 try simp(disch:=omega)only[seval]
 refine cB o1 rfl (by simp[one]) (by simp) λw2 o2 x2 s2=> ?_
 refine iK o2 (by simp[aT]) ?_
 exact⟨rfl,x1.new x2 (by omega)⟩
theorem aDI{base p:Nat}{dm:DM}{w:aOi}{mm:Except Int (List UInt8×List UInt8)}(hd:DSt w base p dm)(h1:dm.out.length<=dm.most)(h3:dm.fr<=2000000)(hmost:dm.most<=2000000)(hl:dm.l.length<=1000000)
 (hm:aoK dm.l dm.win (dm.most-dm.out.length)=some mm):
 aK pg pE #[.pointer (some ⟨p,0,none⟩)] w (λr w'=>aBL base p w dm r w' mm):=by
 refine MI ?_
 unfold Ix CN CM wB D1
 obtain⟨RR,hRR⟩:∃RR:aOj->aOi->Prop,RR=λr w'=>aBL base p w dm r w' mm:=⟨_,rfl⟩
 rw[<-hRR]
 obtain⟨pr,vo,lo,hi,O,o,hr,oo,hp,hlo,hO,q1,hhi⟩:=hd
 have hpr:lo<=pr/\pr<hi:=⟨hr.1,hr.2.1⟩
 have hzp:=o.lt
 have hO1:Ab w (λb=>O b/\b<w.heap.size) 1 vo dm.out.length (dm.out.map dP):=YD oo λb h h2=>⟨h,h2⟩
 have xd:=aN.dr w bJ
 have zd:=xd.size
 have c0:=(bV o).cell (off:=0)
 simp only[tL,aLq]at c0
 simp(disch:=omega)only[seval,c0]
 refine(Ry (hr.ext xd (λ_ _ _ h=>h))).mono ?_
 rintro r w1 ⟨rfl,hw1⟩
 rw[hw1];clear hw1 w1
 have o:=bV o
 have hr:=hr.ext xd (λ_ _ _ h=>h)
 have hO1:=hO1.ext xd (λ_ _ h=>h)
 obtain⟨wd,hwd⟩:∃x,x=dr w:=⟨_,rfl⟩
 rw[<-hwd]at o hr hO1 xd zd c0⊢
 simp(disch:=omega)only[seval,c0]
 refine(ZH hr (by omega) (by omega)).mono ?_
 rintro rest w1 ⟨hb1,hat,hr1,x1⟩
 have ht:DO dm.l 0 dm.l.length=(dm.l,[],0):=by
  unfold DO
  rw[if_neg (by decide),if_neg (by omega),aLK (by omega),aMD (by omega)]
 rw[ht]at hb1 hr1
 have hb1:Bs w1 rest dm.l:=hb1
 clear hr1
 have o1:=o.ext x1 (λe=>q1 (e▸hpr))
 have oo1:Ab w1 (λb=>O b/\b<w.heap.size) 1 vo dm.out.length (dm.out.map dP):=hO1.ext x1 λb h e=>(hO b h.1).2.2 (e▸hpr)
 have z1:=x1.size
 refine(asV hb1 hl).mono ?_
 rintro r w2 ⟨rfl,x2⟩
 unfold aoK at hm
 have z2:=x2.size
 cases hf:PB dm.l with
 |error e=>
  have he:=aBK hf
  rw[hf]at hm
  cases hm
  have n1:(e !=0)=true:=by simp[he]
  unfold fRV fhV
  simp(disch:=omega)only[seval]
  refine Be λw3 o3 x3 s3=> ?_
  refine iV o3 rfl (by simp[one]) (by simp) λw4 o4 x4 s4=> ?_
  simp(disch:=omega)only[seval,n1]
  rw[hRR]
  have x24:aN w2 w4 bJ:=x3.new x4 (by omega)
  exact⟨he,rfl,(((xd.mono λ_ _ h=>h.elim).seq (x1.mono λy _ h=>by omega)).seq ((x2.seq x24).mono λ_ _ h=>h.elim))⟩
 |ok t=>
  obtain⟨h,n⟩:=t
  have hok:=aDR hf
  rw[hf]at hm
  have n1:((0:Int) !=0)=false:=rfl
  unfold fRV fhV
  simp(disch:=omega)only[seval]
  refine Be λw3 o3 x3 s3=> ?_
  obtain⟨ph,hph⟩:∃p,p=w2.heap.size:=⟨_,rfl⟩
  rw[<-hph]at o3⊢
  refine iV o3 rfl (by simp[one]) (by simp) λw4 o4 x4 s4=> ?_
  simp only[aT,aLu,aLx]at o4
  have oh4:aZ w4 ph (MT h):=o4
  have x24:aN w2 w4 bJ:=x3.new x4 (by omega)
  have x14:aN w1 w4 bJ:=x2.seq x24
  have hz3:=o4.lt
  obtain⟨va,vc,hrest,hvc⟩:=hb1.len
  rw[aLr]at hrest hvc
  subst hrest
  have hb4:=hb1.ext x14 (aU _)
  have t0:(n:Int).toNat=n:=aLt _
  have hbd:Bs w4 (.slice (cW va vc n 1) (dm.l.length-n) (vc-n)) (dm.l.drop n):=by
   have:=hb4.drop' (k:=n) (by omega)
   rwa [<-aNt]at this
  simp(disch:=omega)only[seval,n1,t0]
  refine(Gm hbd (by rw[aLL];omega)).mono ?_
  rintro r w5 ⟨p5,rfl,hr5,x5⟩
  have z4:=x14.size
  have z5:=x5.size
  have o5:=(o1.ext x14 (λh=>h)).ext x5 (λh=>h)
  refine WR (off:=0) o5 rfl (by simp[tL]) λw6 o6 x6 s6=> ?_
  simp only[tL,aLu]at o6
  have x46:aN w4 w6 (λy=>y=p):=(x5.mono λ_ _ h=>h.elim).seq x6
  have x06:aN w w6 (λy=>base<=y):=((((xd.mono λ_ _ h=>h.elim).seq (x1.mono λy _ h=>by omega)).seq (x14.mono λ_ _ h=>h.elim)).seq (x46.mono λy _ h=>by omega))
  have hphp:ph≠p:=by omega
  have oh6:=oh4.ext x46 hphp
  have oo6:=(oo1.ext x14 λ_ _ h=>h).ext x46 λb h e=>(hO b h.1).2.1 e
  have h5lo:w4.heap.size<=p5/\p5<w5.heap.size:=⟨hr5.1,hr5.2.1⟩
  have hr6:=hr5.ext x6 (λb h1 h2 h=>by omega)
  have ch0:=oh6.cell (off:=0)
  have ch1:=oh6.cell (off:=1)
  have ch2:=oh6.cell (off:=2)
  have eh0:=(bV oh6).cell (off:=0)
  have eh1:=(bV oh6).cell (off:=1)
  have eh2:=(bV oh6).cell (off:=2)
  simp only[MT,aLq,aLs]at ch0 ch1 ch2 eh0 eh1 eh2
  have co1:=o6.cell (off:=1)
  have co2:=o6.cell (off:=2)
  have co3:=o6.cell (off:=3)
  have eo1:=(bV o6).cell (off:=1)
  have eo2:=(bV o6).cell (off:=2)
  have eo3:=(bV o6).cell (off:=3)
  simp only[aLq,aLs]at co1 co2 co3 eo1 eo2 eo3
  obtain⟨av,cv,hvo⟩:=oo6.len
  subst hvo
  have e9:(dm.most:Int)-(dm.out.length:Int)=((dm.most-dm.out.length:Nat):Int):=by omega
  have w9:IntKind.u64.wrap ((dm.most-dm.out.length:Nat):Int)=((dm.most-dm.out.length:Nat):Int):=gR (by omega) (by omega)
  by_cases hbig:dm.win<h.window∨(h.known=true/\dm.most-dm.out.length<h.size)
  .simp only[if_pos hbig]at hm
   cases hm
   have fin:RR (.int .i64 12) (dr w6):=by rw[hRR];exact⟨by decide,rfl,x06.seq (aN.dr w6 _)⟩
   by_cases hw:dm.win<h.window
   .have d1:decide ((h.window:Int)>(dm.win:Int))=true:=decide_eq_true (by omega)
    have d2:decide ((dm.win:Int)<(h.window:Int))=true:=decide_eq_true (by omega)
    have iu:bK undef true=false:=rfl
    simp(disch:=omega)only[seval,ch0,ch1,ch2,eh0,eh1,eh2,co1,co2,co3,eo1,eo2,eo3,d1,d2,iu]
    exact fin
   .have hks:=hbig.resolve_left hw
    have d1:decide ((h.window:Int)>(dm.win:Int))=false:=decide_eq_false (by omega)
    have d2:decide ((dm.win:Int)<(h.window:Int))=false:=decide_eq_false (by omega)
    have d3:decide ((h.size:Int)>((dm.most-dm.out.length:Nat):Int))=true:=decide_eq_true (by omega)
    have d4:decide (((dm.most-dm.out.length:Nat):Int)<(h.size:Int))=true:=decide_eq_true (by omega)
    rw[hks.1]at ch2 eh2
    simp(disch:=omega)only[seval,ch0,ch1,ch2,eh0,eh1,eh2,co1,co2,co3,eo1,eo2,eo3,d1,d2,d3,d4,e9,w9]
    exact fin
  .simp only[if_neg hbig]at hm
   have hw:¬dm.win<h.window:=λh=>hbig (.inl h)
   have d1:decide ((h.window:Int)>(dm.win:Int))=false:=decide_eq_false (by omega)
   have d2:decide ((dm.win:Int)<(h.window:Int))=false:=decide_eq_false (by omega)
   obtain⟨mb,hmb⟩:∃mb,Pq h (dm.most-dm.out.length) (dm.l.length+1) (dm.l.drop n) []=some mb:=by
    cases hd:Pq h (dm.most-dm.out.length) (dm.l.length+1) (dm.l.drop n) []with
    |none=>rw[hd]at hm;cases hm
    |some mb=>exact⟨mb,rfl⟩
   rw[hmb]at hm
   cases hm
   obtain⟨K,hK⟩:∃K:aOi->Prop,K=λw=>aK pg oY #[] w λt64 w=>aA pg (bH 110 [(2,t64)]) w λt65 w=>aA pg (bG 110) w λg_7 w=>aA pg (aM 110 g_7 t65) w λ_u w=>kD RR (.pointer (some ⟨p,0,none⟩)) (.pointer (some ⟨ph,0,none⟩)) g_7 LH w:=⟨_,rfl⟩
   have main:K (dr w6):=by
    rw[hK]
    refine aAB.mono ?_
    rintro r w7 ⟨rfl,x7⟩
    simp(disch:=omega)only[seval]
    refine Pl λw8 o8 x8 s8=> ?_
    obtain⟨pq,hpq⟩:∃q,q=w7.heap.size:=⟨_,rfl⟩
    rw[<-hpq]at o8⊢
    refine fY o8 rfl (by simp[one]) (by simp) λw9 o9 x9 s9=> ?_
    simp only[aT,aLu,aLx]at o9
    have x69:aN w6 w9 bJ:=(((aN.dr w6 bJ).seq x7).seq x8).trans x9 λy hy h=>by
     have:=(aN.dr w6 bJ).size
     have:=x7.size
     omega
    have zz:w6.heap.size<=w7.heap.size:=by
     have:=(aN.dr w6 bJ).size
     have:=x7.size
     omega
    have z6:=x6.size
    rw[hRR]
    have hz8:=o8.lt
    refine aBy (aB:=w9.heap.size) (m:=⟨dm.l.drop n,dm.win,dm.most,dm.out,dm.fr,dm.sk⟩) ⟨rfl,rfl,rfl,rfl,rfl⟩ (x06.seq (x69.mono λ_ _ h=>h.elim)) (o6.ext x69 (λh=>h)) (hr6.ext x69 λ_ _ _ h=>h) (oo6.ext x69 λ_ _ h=>h) hp (by omega) (λb hb=>⟨(hO b hb.1).1,(hO b hb.1).2.1,by omega,by omega⟩) ⟨by omega,by omega,by omega,λh=>by omega⟩ (by omega) (by omega) (by omega) (by omega) (oh6.ext x69 (λh=>h)) o9 ?_ h1 (by simp) h3 hmost (by show(dm.l.drop n).length<=_;rw[aLL];omega) hok.1 hmb
    exact⟨rfl,.inl ⟨rfl,rfl⟩⟩
   rw[hK]at main
   unfold LH at main
   cases hkn:h.known with
   |false=>
    rw[hkn]at ch2 eh2
    simp(disch:=omega)only[seval,ch0,ch1,ch2,eh0,eh1,eh2,co1,co2,co3,eo1,eo2,eo3,d1,d2]
    exact main
   |true=>
    rw[hkn]at ch2 eh2
    have hns:¬dm.most-dm.out.length<h.size:=λh'=>hbig (.inr ⟨hkn,h'⟩)
    have d3:decide ((h.size:Int)>((dm.most-dm.out.length:Nat):Int))=false:=decide_eq_false (by omega)
    have d4:decide (((dm.most-dm.out.length:Nat):Int)<(h.size:Int))=false:=decide_eq_false (by omega)
    simp(disch:=omega)only[seval,ch0,ch1,ch2,eh0,eh1,eh2,co1,co2,co3,eo1,eo2,eo3,d1,d2,d3,d4,e9,w9]
    exact main
def aBu(l:List UInt8):Except Int (List UInt8):=if l.length<4 then .error 10 else if l.length-4<jW (l.take 4)then .error 10 else .ok (l.drop (4+jW (l.take 4)))
def aJV(base p:Nat)(w:aOi)(dm:DM)(r:aOj)(w':aOi):Except Int (List UInt8)->Prop
 | .error e=>e≠0/\r= .int .i64 e/\aN w w' (λy=>base<=y)
 | .ok l=>r= .int .i64 0/\DSt w' base p ⟨l,dm.win,dm.most,dm.out,dm.fr,dm.sk+1⟩/\aN w w' (λy=>base<=y)
theorem aF5 {base p:Nat}{dm:DM}{w:aOi}(hd:DSt w base p dm)(h3:dm.sk<=2000000)(hl:dm.l.length<=1000000):
 aK pg rA #[.pointer (some ⟨p,0,none⟩)] w (λr w'=>aJV base p w dm r w' (aBu dm.l)):=by
 refine Oq ?_
 unfold Km Ga
 obtain⟨pr,vo,lo,hi,O,o,hr,oo,hp,hlo,hO,q1,hhi⟩:=hd
 have hpr:lo<=pr/\pr<hi:=⟨hr.1,hr.2.1⟩
 have c0:=o.cell (off:=0)
 simp only[tL,aLq]at c0
 simp(disch:=omega)only[seval,c0]
 refine(yF (n:=4) hr (by omega) ⟨by omega,by omega⟩).mono ?_
 rintro r w1 ⟨rfl,hr1,x1⟩
 have o1:=o.ext x1 (λe=>q1 (e▸hpr))
 have oo1:=oo.ext x1 λb h e=>(hO b h).2.2 (e▸hpr)
 have c1:=o1.cell (off:=0)
 simp only[tL,aLq]at c1
 simp(disch:=omega)only[seval,c1]
 refine(Kj hr1).mono ?_
 rintro r w2 ⟨rfl,h2⟩
 rw[h2];clear h2 w2
 unfold aBu
 by_cases h4:dm.l.length<4
 .have ht:DO dm.l 0 4=([],dm.l,10):=by unfold DO;rw[if_neg (by decide),if_pos h4]
  rw[ht,if_pos h4]
  have n1:((10:Int) !=0)=true:=rfl
  simp(disch:=omega)only[seval,n1]
  exact⟨by decide,rfl,x1.mono λy _ h=>by omega⟩
 have ht:DO dm.l 0 4=(dm.l.take 4,dm.l.drop 4,0):=by unfold DO;rw[if_neg (by decide),if_neg h4]
 rw[ht]at hr1⊢
 rw[if_neg h4]
 have hlt:jW (dm.l.take 4)<2^32:=by
  have:=KF (dm.l.take 4)
  rw[aLz,aMg (by omega)]at this
  exact this
 obtain⟨n,hn⟩:∃n,n=jW (dm.l.take 4):=⟨_,rfl⟩
 have en:jW (dm.l.take 4,dm.l.drop 4,(0:Int)).1=n:=hn.symm
 rw[<-hn]at hlt⊢
 have hr1:NR w1 lo hi pr (dm.l.drop 4) 0:=hr1
 have hl4:(dm.l.drop 4).length=dm.l.length-4:=aLL
 have n1:((0:Int) !=0)=false:=rfl
 have wl:IntKind.u64.wrap ((dm.l.drop 4).length:Int)=((dm.l.drop 4).length:Int):=gR (by omega) (by omega)
 have wn:IntKind.i64.wrap (n:Int)=n:=dA (by omega) (by omega)
 simp(disch:=omega)only[seval,n1,en,c1]
 refine(Ry hr1).mono ?_
 rintro r w2 ⟨rfl,h2⟩
 rw[h2];clear h2 w2
 by_cases hs:dm.l.length-4<n
 .have d1:decide ((n:Int)>((dm.l.drop 4).length:Int))=true:=decide_eq_true (by omega)
  have d2:decide (((dm.l.drop 4).length:Int)<(n:Int))=true:=decide_eq_true (by omega)
  rw[if_pos hs]
  simp(disch:=omega)only[seval,wl,d1,d2]
  exact⟨by decide,rfl,x1.mono λy _ h=>by omega⟩
 have d1:decide ((n:Int)>((dm.l.drop 4).length:Int))=false:=decide_eq_false (by omega)
 have d2:decide (((dm.l.drop 4).length:Int)<(n:Int))=false:=decide_eq_false (by omega)
 rw[if_neg hs]
 simp(disch:=omega)only[seval,wl,d1,d2,c1,wn]
 refine(ZH hr1 (by omega) (by omega)).mono ?_
 rintro rest w3 ⟨hb3,hat,hr3,x3⟩
 have ht3:DO (dm.l.drop 4) 0 n=((dm.l.drop 4).take n,dm.l.drop (4+n),0):=by unfold DO;rw[if_neg (by decide),if_neg (by omega),aMG]
 rw[ht3]at hr3
 have hr3:NR w3 lo hi pr (dm.l.drop (4+n)) 0:=hr3
 have o3:=o1.ext x3 (λe=>q1 (e▸hpr))
 have oo3:=oo1.ext x3 λb h e=>(hO b h).2.2 (e▸hpr)
 have c5:=o3.cell (off:=5)
 simp only[tL,aLq,aLs]at c5
 have e5:(dm.sk:Int)+1=((dm.sk+1:Nat):Int):=by omega
 have w5:IntKind.i64.wrap ((dm.sk+1:Nat):Int)=((dm.sk+1:Nat):Int):=dA (by omega) (by omega)
 simp(disch:=omega)only[seval,c5,e5,w5]
 refine qX (off:=5) o3 rfl (by simp[tL]) λw6 o6 x6 s6=> ?_
 simp only[tL,aLu,aLx]at o6
 have z1:=x1.size
 have z3:=x3.size
 have z6:=x6.size
 refine⟨rfl,⟨pr,vo,lo,hi,O,o6,hr3.ext x6 (λb h1 h2 h=>q1 (h▸⟨h1,h2⟩)),oo3.ext x6 (λb h e=>(hO b h).2.1 e),hp,hlo,hO,q1,by omega⟩,((x1.mono λy _ h=>by omega).seq (x3.mono λy _ h=>by omega)).seq (x6.mono λy _ h=>by omega)⟩
def aoJ(win most:Nat):Nat->List UInt8->List UInt8->Nat->Nat->Option (Except Int (List UInt8×Nat×Nat))
 |0,_,_,_,_=>none
 |f+1,l,out,fr,sk=>if l.length=0 then some (.ok (out,fr,sk))else if l.length<4 then some (.error 10)
  else if jW (l.take 4)=4247762216 then(match aoK (l.drop 4) win (most-out.length)with|none=>none|some (.error e)=>some (.error e)|some (.ok (a,l'))=>aoJ win most f l' (out++a) (fr+1) sk)
  else if 407710288<=jW (l.take 4)/\jW (l.take 4)<407710304 then(match aBu (l.drop 4)with| .error e=>some (.error e)| .ok l'=>aoJ win most f l' out fr (sk+1))
  else some (.error 11)
theorem asJ{h:FH}{room:Nat}:∀{f:Nat} {l all a l':List UInt8},Pq h room f l all=some (.ok (a,l'))->a.length<=room/\l'.length<=l.length
 |0,_,_,_,_,hh=>by cases hh
 |f+1,l,all,a,l',hh=>by
  rw[Pq]at hh
  cases hd:XB l all h.window room with
  |none=>rw[hd]at hh;cases hh
  |some m=>
   rw[hd]at hh
   cases m with
   |error e=>cases hh
   |ok t=>
    obtain⟨a1,l1,b⟩:=t
    have h1:=aAu hd
    simp only at hh
    split at hh
    .cases hh
    .split at hh
     .cases hh;exact h1
     .have:=asJ hh
      exact⟨this.1,by omega⟩
theorem aFU{l a l':List UInt8}{win room:Nat}(hh:aoK l win room=some (.ok (a,l'))):a.length<=room/\l'.length<=l.length:=by
 unfold aoK at hh
 cases hf:PB l with
 |error e=>rw[hf]at hh;cases hh
 |ok t=>
  obtain⟨h,n⟩:=t
  rw[hf]at hh
  simp only at hh
  split at hh
  .cases hh
  .cases hb:Pq h room (l.length+1) (l.drop n) []with
   |none=>rw[hb]at hh;cases hh
   |some mm=>
    rw[hb]at hh
    cases mm with
    |error e=>cases hh
    |ok t=>
     obtain⟨a1,l1⟩:=t
     have h1:=asJ hb
     rw[aLL]at h1
     have hh:ME h l1 a1= .ok (a,l'):=by injection hh
     unfold ME aoL at hh
     repeat' split at hh
     all_goals first|cases hh|skip
     all_goals rename_i hq
     all_goals first|(repeat' split at hq)|skip
     all_goals first|cases hq|skip
     all_goals(try rw[aLL])
     all_goals omega
def aHJ(base p:Nat)(w:aOi)(win most:Nat)(r:aOj)(w':aOi):Except Int (List UInt8×Nat×Nat)->Prop
 | .error e=>e≠0/\r= .tuple #[.pointer none,.int .i64 e]/\aN w w' (λy=>base<=y)
 | .ok (out,fr,sk)=>r= .tuple #[.pointer (some ⟨p,0,none⟩),.int .i64 0]/\(∃l,DSt w' base p ⟨l,win,most,out,fr,sk⟩)/\aN w w' (λy=>base<=y)
theorem aFX{RR:aOj->aOi->Prop}{base p win most f:Nat}{l:List UInt8}{w0 w:aOi}{mm:Except Int (List UInt8×Nat×Nat)}(hx:aN w0 w (λy=>base<=y))(hd:DSt w base p ⟨l,win,most,[],0,0⟩)(hf:f<=2000000)(hl:l.length<=1000000)(hmost:most<=2000000)(hm:aoJ win most f l [] 0 0=some mm)(hR:∀r w',aHJ base p w0 win most r w' mm->RR r w'):
 CL RR (.pointer (some ⟨p,0,none⟩)) w:=by
 unfold CL Fz
 refine aX.rule (λf (t:Unit) w1=>∃l out fr sk,aoJ win most f l out fr sk=some mm/\DSt w1 base p ⟨l,win,most,out,fr,sk⟩/\aN w0 w1 (λy=>base<=y)/\out.length<=most/\fr+f<=2000000/\sk+f<=2000000/\l.length<=1000000) f
  ⟨l,[],0,0,hm,hd,hx,by simp,by omega,by omega,hl⟩ ?_
 clear hm hd hx hl hf l w
 rintro f t w ⟨l,out,fr,sk,hm,hd,hx,hout,hfr,hsk,hl⟩
 cases f with
 |zero=>cases hm
 |succ f=>
  rw[aoJ]at hm
  unfold Lf UZ
  have hd0:=hd
  obtain⟨pr,vo,lo,hi,O,o,hr,oo,hp,hlo,hO,q1,hhi⟩:=hd
  have hpr:lo<=pr/\pr<hi:=⟨hr.1,hr.2.1⟩
  have c0:=o.cell (off:=0)
  simp only[tL,aLq]at c0
  simp(disch:=omega)only[seval,c0]
  refine(Ry hr).mono ?_
  rintro r w1 ⟨rfl,h2⟩
  rw[h2];clear h2 w1
  by_cases h0:l.length=0
  .rw [if_pos h0]at hm
   cases hm
   have d1:decide ((l.length:Int)>0)=false:=decide_eq_false (by omega)
   have d2:decide ((0:Int)<(l.length:Int))=false:=decide_eq_false (by omega)
   simp(disch:=omega)only[seval,d1,d2]
   unfold Ld
   refine hR _ _ ?_
   exact⟨rfl,⟨l,hd0⟩,hx⟩
  rw[if_neg h0]at hm
  have d1:decide ((l.length:Int)>0)=true:=decide_eq_true (by omega)
  have d2:decide ((0:Int)<(l.length:Int))=true:=decide_eq_true (by omega)
  simp(disch:=omega)only[seval,d1,d2]
  unfold Le UY
  simp(disch:=omega)only[seval,c0]
  refine(yF (n:=4) hr (by show l.length<=_;omega) ⟨by omega,by omega⟩).mono ?_
  rintro r w1 ⟨rfl,hr1,x1⟩
  have o1:=o.ext x1 (λe=>q1 (e▸hpr))
  have oo1:=oo.ext x1 λb h e=>(hO b h).2.2 (e▸hpr)
  have z1:=x1.size
  have hx1:aN w0 w1 (λy=>base<=y):=hx.seq (x1.mono λy _ h=>by omega)
  have c1:=o1.cell (off:=0)
  simp only[tL,aLq]at c1
  simp(disch:=omega)only[seval,c1]
  refine(Kj hr1).mono ?_
  rintro r w2 ⟨rfl,h2⟩
  rw[h2];clear h2 w2
  by_cases h4:l.length<4
  .have ht:DO l 0 4=([],l,10):=by unfold DO;rw[if_neg (by decide),if_pos h4]
   rw[if_pos h4]at hm
   cases hm
   have hr1:NR w1 lo hi pr (DO l 0 4).2.1 (DO l 0 4).2.2:=hr1
   have hl':(DM.mk l win most out fr sk).l=l:=rfl
   rw[hl',ht]
   rw[ht]at hr1
   have n1:((10:Int) !=0)=true:=rfl
   simp(disch:=omega)only[seval,n1,c1]
   refine(Kj hr1).mono ?_
   rintro r w2 ⟨rfl,h2⟩
   rw[h2];clear h2 w2
   refine hR _ _ ?_
   exact⟨by decide,rfl,hx1⟩
  rw[if_neg h4]at hm
  have ht:DO l 0 4=(l.take 4,l.drop 4,0):=by unfold DO;rw[if_neg (by decide),if_neg h4]
  have hr1:NR w1 lo hi pr (DO l 0 4).2.1 (DO l 0 4).2.2:=hr1
  have hl':(DM.mk l win most out fr sk).l=l:=rfl
  rw[hl',ht]
  rw[ht]at hr1
  have hr1:NR w1 lo hi pr (l.drop 4) 0:=hr1
  have hd1:DSt w1 base p ⟨l.drop 4,win,most,out,fr,sk⟩:=⟨pr,vo,lo,hi,O,o1,hr1,oo1,hp,hlo,hO,q1,by omega⟩
  have hl4:(l.drop 4).length=l.length-4:=aLL
  obtain⟨n,hn⟩:∃n,n=jW (l.take 4):=⟨_,rfl⟩
  have en:jW (l.take 4,l.drop 4,(0:Int)).1=n:=hn.symm
  rw[<-hn]at hm
  have n0:((0:Int) !=0)=false:=rfl
  by_cases hmg:n=4247762216
  .have g1:((n:Int)==4247762216)=true:=by rw[hmg]<;>rfl
   rw[if_pos hmg]at hm
   obtain⟨mb,hmb⟩:∃mb,aoK (l.drop 4) win (most-out.length)=some mb:=by
    cases hd:aoK (l.drop 4) win (most-out.length)with
    |none=>rw[hd]at hm;cases hm
    |some mb=>exact⟨mb,rfl⟩
   rw[hmb]at hm
   simp(disch:=omega)only[seval,en,n0,g1]
   refine(aDI hd1 hout (show fr<=2000000 by omega) hmost (by show(l.drop 4).length<=_;omega) hmb).mono ?_
   intro r w2 hq
   unfold AR
   cases mb with
   |error e=>
    obtain⟨he,rfl,x2⟩:=hq
    cases hm
    have n1:(e !=0)=true:=by simp[he]
    simp(disch:=omega)only[seval,n1]
    refine hR _ _ ?_
    exact⟨he,rfl,hx1.seq x2⟩
   |ok t=>
    obtain⟨a,l'⟩:=t
    obtain⟨rfl,hd2,x2⟩:=hq
    have hok:=aFU hmb
    simp(disch:=omega)only[seval,n0]
    exact⟨f,by omega,l',out++a,fr+1,sk,hm,hd2,hx1.seq x2,by rw[aLo];omega,by omega,by omega,by omega⟩
  have g1:((n:Int)==4247762216)=false:=by simp;omega
  rw[if_neg hmg]at hm
  by_cases hs:407710288<=n/\n<407710304
  .have g2:decide ((n:Int)≥407710288)=true:=decide_eq_true (by omega)
   have g3:decide ((407710288:Int)<=(n:Int))=true:=decide_eq_true (by omega)
   have g4:decide ((n:Int)<407710304)=true:=decide_eq_true (by omega)
   rw[if_pos hs]at hm
   simp(disch:=omega)only[seval,en,n0,g1,g2,g3,g4]
   refine(aF5 hd1 (show sk<=2000000 by omega) (by show(l.drop 4).length<=_;omega)).mono ?_
   intro r w2 hq
   unfold AR
   have hq:aJV base p w1 ⟨l.drop 4,win,most,out,fr,sk⟩ r w2 (aBu (l.drop 4)):=hq
   cases hk:aBu (l.drop 4)with
   |error e=>
    rw[hk]at hq hm
    obtain⟨he,rfl,x2⟩:=hq
    cases hm
    have n1:(e !=0)=true:=by simp[he]
    simp(disch:=omega)only[seval,n1]
    refine hR _ _ ?_
    exact⟨he,rfl,hx1.seq x2⟩
   |ok l'=>
    rw[hk]at hq hm
    obtain⟨rfl,hd2,x2⟩:=hq
    have hle:l'.length<=(l.drop 4).length:=by
     unfold aBu at hk
     repeat' split at hk
     all_goals first|cases hk|skip
     rw[aLL]
     omega
    simp(disch:=omega)only[seval,n0]
    exact⟨f,by omega,l',out,fr,sk+1,hm,hd2,hx1.seq x2,hout,by omega,by omega,by omega⟩
  .rw [if_neg hs]at hm
   cases hm
   have n1:((11:Int) !=0)=true:=rfl
   unfold AR
   by_cases h1:407710288<=n
   .have g2:decide ((n:Int)≥407710288)=true:=decide_eq_true (by omega)
    have g3:decide ((407710288:Int)<=(n:Int))=true:=decide_eq_true (by omega)
    have g4:decide ((n:Int)<407710304)=false:=decide_eq_false (by omega)
    simp(disch:=omega)only[seval,en,n0,g1,g2,g3,g4,n1]
    refine hR _ _ ?_
    exact⟨by decide,rfl,hx1⟩
   .have g2:decide ((n:Int)≥407710288)=false:=decide_eq_false (by omega)
    have g3:decide ((407710288:Int)<=(n:Int))=false:=decide_eq_false (by omega)
    simp(disch:=omega)only[seval,en,n0,g1,g2,g3,n1]
    refine hR _ _ ?_
    exact⟨by decide,rfl,hx1⟩
def dec(l:List UInt8)(log most:Nat):Option (Except Int (List UInt8×Nat×Nat)):=aoJ (2^log) most (l.length+1) l [] 0 0
theorem aDE{v:aOj}{l:List UInt8}{log most:Nat}{w:aOi}{mm:Except Int (List UInt8×Nat×Nat)}(hb:Bs w v l)(hl:l.length<=1000000)(hlog:10<=log/\log<=22)(hmost:most<=2000000)(hm:dec l log most=some mm):
 aK pg HH #[v,.int .i64 (log:Nat),.int .i64 (most:Nat)] w (λr w'=>∃p,aHJ w.heap.size p w (2^log) most r w' mm):=by
 refine adW ?_
 obtain⟨RR,hRR⟩:∃RR:aOj->aOi->Prop,RR=λr w'=>∃p,aHJ w.heap.size p w (2^log) most r w' mm:=⟨_,rfl⟩
 rw[<-hRR]
 unfold agY RA Rz
 have d1:decide ((log:Int)<10)=false:=decide_eq_false (by omega)
 have d2:decide ((log:Int)>22)=false:=decide_eq_false (by omega)
 have d3:decide ((22:Int)<(log:Int))=false:=decide_eq_false (by omega)
 have d4:decide ((most:Int)<0)=false:=decide_eq_false (by omega)
 have hlb:2^log<=2^22:=aLB (by omega) hlog.2
 have e1:(1:Int)*2^min log IntKind.u64.bits=((2^log:Nat):Int):=by
  rw[aMg (by have:IntKind.u64.bits=64:=rfl;omega)]
  simp
 have e2:IntKind.u64.wrap ((2^log:Nat):Int)=((2^log:Nat):Int):=by
  have:∀W:Nat,W<=2^22->IntKind.u64.wrap (W:Int)=(W:Int):=λW hW=>gR (by omega) (by omega)
  exact this _ hlb
 have t0:(log:Int).toNat=log:=aLt _
 have g0:(0:Int)<=(log:Int):=by omega
 simp(disch:=omega)only[seval,d1,d2,d3,d4]
 have hb1:=hb.ext (aN.dr w bJ) (aU _)
 refine(Gm hb1 (by omega)).mono ?_
 rintro r w1 ⟨pr,rfl,hr,x1⟩
 have zd:=(aN.dr w bJ).size
 have z1:=x1.size
 simp(disch:=omega)only[seval,e1,e2,t0,g0]
 refine fA λw2 o2 x2 s2=> ?_
 have o2:aZ w2 w1.heap.size (tL pr LH ⟨l,2^log,most,[],0,0⟩):=o2
 have hz:=o2.lt
 have hpr:(dr w).heap.size<=pr/\pr<w1.heap.size:=⟨hr.1,hr.2.1⟩
 refine aFX (base:=w.heap.size) (p:=w1.heap.size) (w0:=w) (w:=w2) (f:=l.length+1) (l:=l) (win:=2^log) (most:=most) (mm:=mm) ((((aN.dr w bJ).seq x1).seq x2).mono λ_ _ h=>h.elim) ⟨pr,LH,(dr w).heap.size,w1.heap.size,(λb=>False),o2,hr.ext x2 (λ_ _ _ h=>h),⟨rfl,.inl ⟨rfl,rfl⟩⟩,by omega,by omega,λb h=>h.elim,by omega,by omega⟩ (by omega) hl hmost hm λr w' h=> ?_
 rw[hRR]
 exact⟨_,h⟩
def aKz(w:aOi)(r:aOj)(w':aOi):Except Int (List UInt8×Nat×Nat)->Prop
 | .error e=>r= .tuple #[LH,.int .i64 e]/\aN w w' bJ
 | .ok (out,fr,sk)=>∃v,r= .tuple #[v,.int .i64 0]/\Bs w' v out/\aN w w' bJ
theorem aDF{v:aOj}{l:List UInt8}{log most:Nat}{w:aOi}{mm:Except Int (List UInt8×Nat×Nat)}(hb:Bs w v l)(hl:l.length<=1000000)(hlog:10<=log/\log<=22)(hmost:most<=2000000)(hm:dec l log most=some mm):
 aK pg A9 #[v,.int .i64 (log:Nat),.int .i64 (most:Nat)] w (λr w'=>aKz w r w' mm):=by
 refine V9 ?_
 unfold UX MF
 refine(aDE hb hl hlog hmost hm).mono ?_
 rintro r w1 ⟨p,hq⟩
 cases mm with
 |error e=>
  obtain⟨he,rfl,x⟩:=hq
  have n1:(e !=0)=true:=by simp[he]
  simp(disch:=omega)only[seval,n1]
  exact⟨rfl,x.mono λy hy h=>by omega⟩
 |ok t=>
  obtain⟨out,fr,sk⟩:=t
  obtain⟨rfl,⟨l',hd⟩,x⟩:=hq
  obtain⟨pr,vo,lo,hi,O,o,hr,oo,hp,hlo,hO,q1,hhi⟩:=hd
  have n1:((0:Int) !=0)=false:=rfl
  have c3:=o.cell (off:=3)
  simp only[tL,aLq,aLs]at c3
  simp(disch:=omega)only[seval,n1,c3]
  exact⟨vo,rfl,aaM oo,x.mono λy hy h=>by omega⟩
def skF(k:UInt8)(b:List UInt8):List UInt8:=UInt8.ofNat (80+k.toNat%16)::42::77::24::UInt8.ofNat b.length::0::0::0::b
def aEO:List (UInt8×List UInt8)->List UInt8
 |[]=>[]
 |(k,b)::L=>skF k b++aEO L
def azM:Nat->List (UInt8×List UInt8)->List Nat
 |_,[]=>[]
 |n,(k,b)::L=>(n+(8+b.length))::azM (n+(8+b.length)) L
def RwS(w:aOi)(v:aOj)(ls:List (List UInt8)):Prop:=∃vs:List aOj,Sl w v vs/\vs.length=ls.length/\∀i (h:i<ls.length) (h':i<vs.length),Bs w vs[i] ls[i]
theorem RwS.ext {w w':aOi}{v:aOj}{ls:List (List UInt8)}(h:RwS w v ls)(x:aN w w' bJ):RwS w' v ls:=by
 obtain⟨vs,h1,h2,h3⟩:=h
 exact⟨vs,h1.ext x (aU _),h2,λi a b=>(h3 i a b).ext x (aU _)⟩
theorem RwS.len {w:aOi}{v:aOj}{ls:List (List UInt8)}(h:RwS w v ls):∃a c,v= .slice a ls.length c:=by
 obtain⟨vs,⟨a,n,c,rfl,hn,hc,_⟩,h2,h3⟩:=h
 exact⟨a,c,by rw[<-h2,hn]⟩
theorem RwS.at {w:aOi}{v:aOj}{ls:List (List UInt8)}(h:RwS w v ls){i:Nat}(hi:i<ls.length):∃b o c u,v= .slice (some ⟨b,o,none⟩) ls.length c/\w.cell? ⟨b,o+i,none⟩=some u/\Bs w u (ls[i]'hi):=by
 obtain⟨vs,⟨a,n,c,rfl,hn,hc,hh⟩,h2,h3⟩:=h
 obtain⟨b,o,rfl,h4⟩:=hh (by omega)
 have h5:=h4 i (by omega)
 rw[aLp (by omega)]at h5
 exact⟨b,o,c,_,by rw[<-h2,hn],h5,h3 i hi (by omega)⟩
theorem aIq{w:aOi}{b:Nat}{l:List UInt8}(h:aZ w b (l.map dP)):Bs w (.slice (some ⟨b,0,none⟩) l.length l.length) l:=
 h.bs (off:=0) (c:=l.length) (aLw _) (λi hi=>by rw[aLE,aLN,aLp hi]<;>rfl)
def iv(n:Nat):aOj:= .int .i64 (n:Nat)
def aHH(base:Nat)(w:aOi)(va ve:aOj)(L:List (UInt8×List UInt8)):Prop:=
 ∃S T:Nat->Prop,Ab w S 1 va (aEO L).length ((aEO L).map dP)/\Ab w T 1 ve (azM 0 L).length ((azM 0 L).map iv)/\(∀b,S b->base<=b/\¬T b)/\(∀b,T b->base<=b)
theorem aHH.ext {base:Nat}{w w':aOi}{va ve:aOj}{L:List (UInt8×List UInt8)}(h:aHH base w va ve L)(x:aN w w' bJ):aHH base w' va ve L:=by
 obtain⟨S,T,h1,h2,h3,h4⟩:=h
 exact⟨S,T,h1.ext x (λ_ _ h=>h),h2.ext x (λ_ _ h=>h),h3,h4⟩
theorem ofN{n:Nat}(h:n<256):(UInt8.ofNat n).toNat=n:=by rw[aNJ];omega
def b3 (x:Nat):List UInt8:=[UInt8.ofNat (x%256),UInt8.ofNat (x/256%256),UInt8.ofNat (x/65536%256)]
theorem aGp{x:Nat}(h:x<2^24):jW (b3 x)=x:=by
 simp only[b3,jW]
 rw[ofN (by omega),ofN (by omega),ofN (by omega)]
 omega
theorem aJs{x:Nat}{r:List UInt8}(h:x<2^24):bx (b3 x++r)=x:=by
 have:(b3 x++r).take 3=b3 x:=rfl
 unfold bx
 rw[this,aGp h]
def smX(n:Nat)(b:Bool):Nat:=8*n+2+(if b then 1 else 0)
def aII(n:Nat)(c:UInt8)(b:Bool):List UInt8:=b3 (smX n b)++[c]
def Dc(n:Nat)(s:Bool):List UInt8:=if n<256 then[40,181,47,253]++dM (32+(if s then 4 else 0)) 1++dM n 1 else[40,181,47,253]++dM (32+(if s then 4 else 0)+64) 1++dM (n-256) 2
theorem aiP(n:Nat)(s:Bool):(Dc n s).length<=7:=by
 unfold Dc
 split
 .rw [aLo,aLo,bS,bS];simp
 .rw [aLo,aLo,bS,bS];simp
theorem aJ1 (l r:List UInt8):DO (l++r) 0 l.length=(l,r,0):=by
 unfold DO
 rw[if_neg (by simp),if_neg (by rw[aLo];omega),List.take_left,aNx]
theorem aHl{l r:List UInt8}{n:Nat}(h:l.length=n):nxS (l++r,0) n=(r,0)/\nvS (l++r,0) n=jW l:=by
 subst h
 unfold nxS nvS
 rw[aJ1]
 exact⟨rfl,rfl⟩
theorem aDA{n win room:Nat}{b:Bool}{m r all:List UInt8}(hm:m.length=n)(hn:n<=win)(hn2:n<=131072)(hr:all.length+n<=room):XB (b3 (8*n+(if b then 1 else 0))++(m++r)) all win room=some (.ok (all++m,r,b)):=by
 obtain⟨x,hx⟩:∃x,x=8*n+(if b then 1 else 0):=⟨_,rfl⟩
 have hx2:x<2^24:=by rw[hx];split<;>omega
 rw[<-hx]
 unfold XB
 have hl:(b3 x++(m++r)).length=3+n+r.length:=by simp[b3,hm];omega
 have hb:=aJs (r:=m++r) hx2
 have hk:Kh (b3 x++(m++r))=0:=by unfold Kh;rw[hb,hx];split<;>omega
 have hs:Mo (b3 x++(m++r))=n:=by unfold Mo;rw[hb,hx];split<;>omega
 have hd:Xp (b3 x++(m++r))=n:=by unfold Xp;rw[hk,hs]<;>rfl
 have hdr:(b3 x++(m++r)).drop 3=m++r:=rfl
 have hmm:arY (b3 x++(m++r))=m:=by unfold arY;rw[hk,hs,hdr,if_neg (by omega),<-hm,List.take_left]
 have hq:(bx (b3 x++(m++r))%2==1)=b:=by
  rw[hb,hx]
  cases b
  .have:(8*n+(if false=true then 1 else 0))%2=0:=by simp;omega
   rw[this]<;>rfl
  .have:(8*n+(if true=true then 1 else 0))%2=1:=by simp;omega
   rw[this]<;>rfl
 rw[hl,hk,hs,hd,hmm,hq,hm,if_neg (by omega),if_neg (by omega),if_neg (by omega),if_neg (by omega),if_neg (by omega),if_neg (by omega),<-aMG,hdr,<-hm,aNx]
def plD(n:Nat)(s:Bool):Nat:=32+(if s then 4 else 0)+(if n<256 then 0 else 64)
def plS(n:Nat):List UInt8:=if n<256 then dM n 1 else dM (n-256) 2
theorem afS(n:Nat)(s:Bool):Dc n s=[40,181,47,253]++(dM (plD n s) 1++plS n):=by
 unfold Dc plD plS
 split<;>rw[aLF]<;>rfl
theorem aJO{n:Nat}(s:Bool)(hn:n<65792):plD n s<256/\Uh (plD n s)=true/\fDn (plD n s)=0/\W6 (plD n s)=(if n<256 then 1 else 2)/\(plD n s/8%2=0)/\(plD n s/4%2==1)=s/\(plS n).length=(if n<256 then 1 else 2)/\fSz (plD n s) (jW (plS n))=n:=by
 unfold plD plS
 by_cases h:n<256
 .simp only[if_pos h]
  have e:jW (dM n 1)=n:=by rw[H3];exact aLR (by omega)
  rw[e]
  cases s<;>refine⟨by decide,by decide,by decide,by decide,by decide,by decide,bS _ _, ?_⟩<;>·unfold fSz;rw[if_neg (by decide)]
 .simp only[if_neg h]
  have e:jW (dM (n-256) 2)=n-256:=by rw[H3];exact aLR (by omega)
  rw[e]
  cases s<;>refine⟨by decide,by decide,by decide,by decide,by decide,by decide,bS _ _, ?_⟩<;>·unfold fSz;rw[if_pos (by decide)];omega
theorem aDS{n:Nat}{s:Bool}(hn:n<65792)(r:List UInt8):PB (dM (plD n s) 1++(plS n++r))= .ok (⟨n,n,true,s⟩,1+(plS n).length):=by
 obtain⟨f1,f2,f3,f4,f5,f6,f7,f8⟩:=aJO s hn
 have h1:=aHl (l:=dM (plD n s) 1) (r:=plS n++r) (n:=1) (bS _ _)
 have h2:=aHl (l:=plS n) (r:=r) (n:=(plS n).length) rfl
 have e1:jW (dM (plD n s) 1)=plD n s:=by rw[H3];exact aLR (by omega)
 unfold PB
 rw[h1.1,h1.2,e1,if_neg (by simp),if_neg (by omega)]
 unfold ahC fS2
 rw[f2,f3,f4,<-f7]
 have hp:0<(plS n).length:=by rw[f7];split<;>omega
 have o1:opS (plS n++r,0) 0=(plS n++r,0):=rfl
 have o2:opV (plS n++r,0) 0=0:=rfl
 have o3:opS (plS n++r,0) (plS n).length=(r,0):=by unfold opS;rw[if_pos hp];exact h2.1
 have o4:opV (plS n++r,0) (plS n).length=jW (plS n):=by unfold opV;rw[if_pos hp];exact h2.2
 simp only[if_true,o1,o2,o3,o4,f8,f6]
 unfold adX
 rw[if_neg (by simp),if_neg (by simp),decide_eq_true hp]
 have e9:(dM (plD n s) 1++(plS n++r)).length-r.length=1+(plS n).length:=by
  rw[aLo,aLo,bS]
  omega
 rw[e9]
theorem aIe:jW [40,181,47,253]=4247762216:=by decide
theorem aDC{b T:List UInt8}{s:Bool}:ME ⟨b.length,b.length,true,s⟩ T b=if s then(match aoL T b with| .error e=> .error e| .ok l'=> .ok (b,l'))else .ok (b,T):=by
 unfold ME
 rw[if_neg (by simp)]
 all_goals(cases s<;>rfl)
theorem aFV{b r:List UInt8}:aoL (dM (XN b) 4++r) b= .ok r:=by
 unfold aoL
 have hl:(dM (XN b) 4).length=4:=bS _ _
 have e1:(dM (XN b) 4++r).take 4=dM (XN b) 4:=by rw[aMQ (by omega),aLK (by omega)]
 have e2:(dM (XN b) 4++r).drop 4=r:=aNE hl
 have e3:jW (dM (XN b) 4)=XN b%2^32:=H3 4 (XN b)
 rw[e1,e2,e3,if_neg (by rw[aLo,hl];omega),if_neg (by simp)]
def enT(b:List UInt8)(s:Bool):List UInt8:=if s then dM (XN b) 4 else[]
def enF(b blk:List UInt8)(s:Bool):List UInt8:=Dc b.length s++(blk++enT b s)
theorem aDB{b blk T:List UInt8}{win room:Nat}{s:Bool}(hb:b.length<65792)(hw:b.length<=win)(hr:b.length<=room)(hblk:XB (blk++T) [] b.length room=some (.ok (b,T,true))):
 aoK ((Dc b.length s).drop 4++(blk++T)) win room=some (ME ⟨b.length,b.length,true,s⟩ T b):=by
 have e0:(Dc b.length s).drop 4++(blk++T)=dM (plD b.length s) 1++(plS b.length++(blk++T)):=by
  rw[afS]
  show(dM (plD b.length s) 1++plS b.length)++_=_
  rw[aLF]
 rw[e0]
 unfold aoK
 rw[aDS hb]
 have:¬(win<b.length∨(true=true/\room<b.length)):=by rintro(h|h)<;>omega
 show(if win<b.length∨(true=true/\room<b.length)then _ else _)=_
 rw[if_neg this]
 have hd:(dM (plD b.length s) 1++(plS b.length++(blk++T))).drop (1+(plS b.length).length)=blk++T:=by
  rw[<-aLF,aNE (by rw[aLo,bS])]
 rw[hd,Pq]
 simp only[hblk]
 simp[aAv]
theorem aBv{b r:List UInt8}{s:Bool}:ME ⟨b.length,b.length,true,s⟩ (enT b s++r) b= .ok (b,r):=by
 rw[aDC]
 unfold enT
 cases s with
 |false=>rfl
 |true=>
  simp only[if_true]
  rw[aFV]
theorem aFY{b blk:List UInt8}{log most:Nat}{s:Bool}(hb:b.length<65792)(hw:b.length<=2^log)(hr:b.length<=most)(hblk:∀T,XB (blk++T) [] b.length most=some (.ok (b,T,true))):
 dec (enF b blk s) log most=some (.ok (b,1,0)):=by
 unfold dec enF
 have h4:(Dc b.length s++(blk++enT b s)).take 4=[40,181,47,253]:=by rw[afS]<;>rfl
 have hd:(Dc b.length s++(blk++enT b s)).drop 4=(Dc b.length s).drop 4++(blk++enT b s):=by rw[afS]<;>rfl
 have hl:4<=(Dc b.length s++(blk++enT b s)).length:=by rw[afS];simp
 have ht:=aBv (b:=b) (r:=[]) (s:=s)
 rw[aMb]at ht
 rw[aoJ,if_neg (by omega),if_neg (by omega),h4,aIe,if_pos rfl,hd,aDB hb hw (by simpa using hr) (by simpa using hblk _),ht]
 obtain⟨q,hq⟩:∃q,(Dc b.length s++(blk++enT b s)).length=q+1:=⟨(Dc b.length s++(blk++enT b s)).length-1,by omega⟩
 rw[hq]
 show aoJ _ _ (q+1) [] ([]++b) (0+1) 0=_
 rw[aoJ]
 simp
def aID(b:List UInt8):List UInt8:=b3 (8*b.length+1)++b
theorem aFZ{b:List UInt8}{log most:Nat}{s:Bool}(hn:b.length<65792)(hw:b.length<=2^log)(hr:b.length<=most):dec (enF b (aID b) s) log most=some (.ok (b,1,0)):=by
 refine aFY hn hw hr λT=> ?_
 have:=aDA (n:=b.length) (win:=b.length) (room:=most) (b:=true) (m:=b) (r:=T) (all:=[]) rfl (aLw _) (by omega) (by simpa using hr)
 unfold aID
 rw[aLF]
 simp only[if_true,aL5]at this
 exact this
theorem aF7 {b blk:List UInt8}{s:Bool}:(enF b blk s).length<=11+blk.length:=by
 unfold enF enT
 have:=aiP b.length s
 rw[aLo,aLo]
 split
 .rw [bS];omega
 .simp;omega
theorem OS{a b:Nat}(k:Nat)(h:b<2^k):a*2^k|||b=a*2^k+b:=by
 rw[<-Nat.shiftLeft_eq,Nat.shiftLeft_add_eq_or_of_lt h]
def qR(k n:Nat):List UInt8:=if n<32 then dM (n*8+k) 1 else if n<4096 then dM (n*16+4+k) 2 else dM (n*16+12+k) 3
theorem OU(k n:Nat):(qR k n).length<=3:=by
 unfold qR;split
 .simp [bS]
 .split<;>simp[bS]
end Go.Proofs.YtoecppploooloaaGreatDoor
namespace Go.Pu
def UI(w:Nat):Nat:=if w=0 then 0 else 2^(w-1)
def dO(l:List Nat):Nat:=(l.map UI).sum
def xZ(d:Nat)(l:List Nat):Bool:=l.all λw=>decide (w<=d)
def fF(l:List Nat):Nat:=
 if xZ 11 l=true/\2<=l.length/\l.length<=256/\l.getLast?≠some 0/\2^(dO l).log2=dO l/\(dO l).log2<=11/\xZ (dO l).log2 l=true then(dO l).log2 else 0
theorem alT(a b:List Nat):dO (a++b)=dO a+dO b:=by simp[dO]
theorem jS(w:Nat)(l:List Nat):dO (w::l)=UI w+dO l:=by simp[dO]
theorem aBb{w:Nat}(h:w<=11):UI w<=1024:=by
 unfold UI
 split
 .omega
 .have:2^(w-1)<=2^10:=aLB (by omega) (by omega)
  omega
theorem abN:∀{l:List Nat},(∀w∈l,w<=11)->dO l<=1024*l.length
 |[],_=>by simp[dO]
 |w::l,h=>by
  have h1:=aBb (h w (aL6 ..))
  have h2:=abN λx hx=>h x (aLJ _ hx)
  rw[jS,aLO];omega
theorem awC{w:Nat}:∀{l:List Nat},w∈l->UI w<=dO l
 |[],h=>by cases h
 |x::l,h=>by
  rw[jS]
  rcases aL9.1 h with rfl|h
  .omega
  .have:=awC h;omega
theorem zC{d:Nat}{l:List Nat}:xZ d l=true↔∀w∈l,w<=d:=by simp[xZ]
theorem aDj:∀(s:Nat),0<s->((s&&&(s-1)=0)↔2^s.log2=s):=by
 intro s
 induction s using Nat.strongRecOn with
 |ind s ih=>
  intro h
  by_cases h1:s=1
  .subst h1;decide
  .have hl:s.log2=(s/2).log2+1:=by
    rw[Nat.log2_def,if_pos (by omega)]
   have hd:(s&&&(s-1))/2=s/2&&&(s-1)/2:=Nat.and_div_two
   have hm:(s&&&(s-1))%2=0:=by
    rcases Nat.mod_two_eq_zero_or_one (s&&&(s-1))with h'|h'
    .exact h'
    .rw [Nat.and_mod_two_eq_one]at h';omega
   rw[hl,aMa]
   rcases Nat.mod_two_eq_zero_or_one s with h2|h2
   .have he:(s-1)/2=s/2-1:=by omega
    rw[he]at hd
    have:=ih (s/2) (by omega) (by omega)
    constructor
    .intro h0
     rw[h0]at hd
     have:=this.1 (by omega)
     omega
    .intro h0
     have:=this.2 (by omega)
     omega
   .have he:(s-1)/2=s/2:=by omega
    rw[he,Nat.and_self]at hd
    constructor
    .intro h0;omega
    .intro h0;omega
theorem MJ{l:List Nat}{d:Nat}(h:fF l=d)(hd:d≠0):(∀w∈l,w<=d)/\d<=11/\2<=l.length/\l.length<=256/\l.getLast?≠some 0/\dO l=2^d:=by
 unfold fF at h
 split at h
 .rename_i hh
  obtain⟨h1,h2,h3,h4,h5,h6,h7⟩:=hh
  subst h
  exact⟨zC.1 h7,h6,h2,h3,h4,h5.symm⟩
 .exact absurd h.symm hd
theorem aBC{l:List Nat}{d:Nat}(h1:∀w∈l,w<=d)(h2:d<=11)(h3:2<=l.length)(h4:l.length<=256)(h5:l.getLast?≠some 0)(h6:dO l=2^d):fF l=d:=by
 unfold fF
 have hl:(dO l).log2=d:=by rw[h6,Nat.log2_two_pow]
 rw[hl,if_pos ⟨zC.2 λw hw=>aMq (h1 w hw) h2,h3,h4,h5,h6.symm,h2,zC.2 h1⟩]
def sO(l:List Nat)(w:Nat):Nat:=dO (l.filter λx=>decide (x<w))
def JX(l:List Nat)(s:Nat):Nat:=sO l (l.getD s 0)+(l.take s).count (l.getD s 0)*2^(l.getD s 0-1)
def Ej(l:List Nat)(d s:Nat):Nat×Nat:=if l.getD s 0=0 then(0,0)else(d+1-l.getD s 0,JX l s/2^(l.getD s 0-1))
theorem KB(l:List Nat)(w:Nat)(hw:1<=w):sO l (w+1)=sO l w+l.count w*2^(w-1):=by
 unfold sO
 induction l with
 |nil=>simp[dO]
 |cons x l ih=>
  rw[aM5,aNy,aNy]
  by_cases h1:x<w
  .rw [if_pos (by simp;omega),if_pos (by simp;omega),jS,jS,ih]
   have:(x==w)=false:=by simp;omega
   rw[this];simp;omega
  .by_cases h2:x=w
   .subst h2
    rw[if_pos (by simp),if_neg (by simp),jS,ih]
    have:UI x=2^(x-1):=by unfold UI;rw[if_neg (by omega)]
    rw[this];simp[aMh];omega
   .rw [if_neg (by simp;omega),if_neg (by simp;omega),ih]
    have:(x==w)=false:=by simpa using h2
    rw[this];simp
theorem aiB(l:List Nat):sO l 1=0:=by
 unfold sO
 induction l with
 |nil=>rfl
 |cons x l ih=>
  rw[aNy]
  split
  .rename_i h
   have:x=0:=by simp at h;omega
   subst this
   rw[jS,ih]<;>rfl
  .exact ih
theorem Wp{l:List Nat}{d:Nat}(h:∀w∈l,w<=d):sO l (d+1)=dO l:=by
 unfold sO
 rw[List.filter_eq_self.2 λa ha=>by have:=h a ha;simp;omega]
theorem aiA{l:List Nat}{d w:Nat}(hs:dO l=2^d)(hw:w<=d+1)(h1:1<=w):2^(w-1)∣sO l w:=by
 have hsplit:∀l:List Nat,dO l=sO l w+dO (l.filter λx=>decide (w<=x)):=by
  intro l
  unfold sO
  induction l with
  |nil=>rfl
  |cons x l ih=>
   rw[aNy,aNy,jS,ih]
   by_cases h:x<w
   .rw [if_pos (by simpa using h),if_neg (by simp;omega),jS];omega
   .rw [if_neg (by simpa using h),if_pos (by simp;omega),jS];omega
 have hhigh:2^(w-1)∣dO (l.filter λx=>decide (w<=x)):=by
  generalize hL:l.filter (λx=>decide (w<=x))=L
  have hge:∀x∈L,w<=x:=λx hx=>by rw[<-hL]at hx;simpa using(aNW.1 hx).2
  clear hL
  induction L with
  |nil=>exact Nat.dvd_zero _
  |cons x L ih=>
   rw[jS]
   refine Nat.dvd_add ?_ (ih λy hy=>hge y (aLJ _ hy))
   have:=hge x (aL6 ..)
   unfold UI
   rw[if_neg (by omega)]
   exact aOg 2 (by omega)
 have htot:2^(w-1)∣dO l:=by rw[hs];exact aOg 2 (by omega)
 rw[hsplit l]at htot
 exact(Nat.dvd_add_left hhigh).1 htot
theorem C4 {l:List Nat}{s:Nat}(h:s<l.length):l.getD s 0∈l:=by
 rw[aLv,aLp h];exact aLP h
theorem aDv{l:List Nat}{s:Nat}(h:s<l.length):(l.take s).count (l.getD s 0)+1<=l.count (l.getD s 0):=by
 have hg:l.getD s 0=l[s]:=by rw[aLv,aLp h]<;>rfl
 have e:l=l.take s++l[s]::l.drop (s+1):=by rw[<-aL4 h,aMu]
 rw[hg]
 have:l.count l[s]=(l.take s++l[s]::l.drop (s+1)).count l[s]:=by rw[<-e]
 rw[this,aMK,aM5];simp
theorem Sm{l:List Nat}{a b:Nat}(h1:1<=a)(h:a<=b):sO l a<=sO l b:=by
 obtain⟨c,rfl⟩:=Nat.exists_eq_add_of_le h
 induction c with
 |zero=>exact aLw _
 |succ c ih=>
  have:=KB l (a+c) (by omega)
  rw[<-aMI]
  have:=ih (by omega)
  omega
theorem aDl{l:List Nat}{s:Nat}(h:s<l.length)(h0:l.getD s 0≠0):JX l s+2^(l.getD s 0-1)<=sO l (l.getD s 0+1):=by
 have h1:=aDv h
 rw[KB l _ (by omega)]
 unfold JX
 have:=aLX (2^(l.getD s 0-1)) h1
 rw[aMh]at this
 omega
theorem aDk{l:List Nat}{s d:Nat}(h:s<l.length)(h0:l.getD s 0≠0)(hs:dO l=2^d)(hd:l.getD s 0<=d):2^(l.getD s 0-1)∣JX l s:=
 Nat.dvd_add (aiA hs (by omega) (by omega)) (Nat.dvd_mul_left _ _)
theorem aBr{l:List Nat}{s d:Nat}(h:s<l.length)(h0:l.getD s 0≠0)(hs:dO l=2^d)(hall:∀w∈l,w<=d):JX l s/2^(l.getD s 0-1)<2^(d+1-l.getD s 0):=by
 have hd:=hall _ (C4 h)
 have h1:=aDl h h0
 have h2:=Sm (l:=l) (a:=l.getD s 0+1) (b:=d+1) (by omega) (by omega)
 rw[Wp hall,hs]at h2
 rw[aMT (aLV _),<-aMA,show d+1-l.getD s 0+(l.getD s 0-1)=d from by omega]
 have:=aLV (l.getD s 0-1)
 omega
theorem amD{l:List Nat}{s t d:Nat}(hsl:s<l.length)(htl:t<l.length)(hst:s≠t)(hs0:l.getD s 0≠0)(ht0:l.getD t 0≠0)(hw:l.getD t 0<=l.getD s 0)(hs:dO l=2^d)(hall:∀w∈l,w<=d):
 JX l t/2^(l.getD t 0-1)/2^(l.getD s 0-l.getD t 0)≠JX l s/2^(l.getD s 0-1):=by
 rw[aMP,<-aMA,show l.getD t 0-1+(l.getD s 0-l.getD t 0)=l.getD s 0-1 from by omega]
 have hp:=aLV (l.getD s 0-1)
 obtain⟨q,hq⟩:=aDk hsl hs0 hs (hall _ (C4 hsl))
 rw[hq,aNC _ hp]
 rcases aLH (l.getD t 0) (l.getD s 0)with hlt|hge
 .have h1:=aDl htl ht0
  have h2:=Sm (l:=l) (a:=l.getD t 0+1) (b:=l.getD s 0) (by omega) (by omega)
  have h3:sO l (l.getD s 0)<=JX l s:=Nat.le_add_right _ _
  have hp2:=aLV (l.getD t 0-1)
  have:JX l t/2^(l.getD s 0-1)<q:=by
   rw[aMT hp,aL7]
   omega
  omega
 .have he:l.getD t 0=l.getD s 0:=by omega
  have hne:(l.take t).count (l.getD t 0)≠(l.take s).count (l.getD s 0):=by
   have key:∀{a b:Nat},a<b->b<l.length->l.getD a 0=l.getD b 0->(l.take a).count (l.getD a 0)<(l.take b).count (l.getD b 0):=by
    intro a b hab hb hab2
    have h1:=aDv (l:=l.take b) (s:=a) (by rw[aLz];omega)
    have h2:(l.take b).getD a 0=l.getD a 0:=by
     rw[aLv,aLv,aLT hab]
    rw[h2,List.take_take,aMg (by omega)]at h1
    rw[<-hab2];omega
   rcases Nat.lt_or_gt_of_ne hst with h|h
   .have:=key h htl he.symm;omega
   .have:=key h hsl he;omega
  intro h
  apply hne
  unfold JX at hq h
  rw[he]at h⊢
  obtain⟨r,hr⟩:=aiA hs (by have:=hall _ (C4 hsl);omega) (by omega:1<=l.getD s 0)
  rw[hr]at hq h
  generalize 2^(l.getD s 0-1)=p at*
  generalize(l.take t).count (l.getD s 0)=x at*
  generalize(l.take s).count (l.getD s 0)=y at*
  rw[aL7 x p,<-aNS,aNC _ hp]at h
  rw[aL7 y p,<-aNS]at hq
  have:=Nat.eq_of_mul_eq_mul_left hp hq
  omega
def pX(o:Nat):Nat:=if o=0 then 0 else 2^(11-o)
def dX(out:List Nat):Nat:=(out.map pX).sum
theorem nI(o:Nat)(l:List Nat):dX (o::l)=pX o+dX l:=by simp[dX]
theorem TH:∀{l:List Nat} {i:Nat} (o:Nat) (h:i<l.length),dX (l.set i o)+pX l[i]=dX l+pX o
 |[],i,o,h=>by simp at h
 |x::l,0,o,h=>by rw[aLu,nI,nI,aNg];omega
 |x::l,i+1,o,h=>by
  rw[aLx,nI,nI,aME]
  have:=TH (l:=l) (i:=i) o (by simpa using h)
  omega
theorem Ye:∀{l:List Nat},(∀o∈l,o=0∨o=11)->dX l<=l.length
 |[],_=>by simp[dX]
 |x::l,h=>by
  have h1:=h x (aL6 ..)
  have h2:=Ye λy hy=>h y (aLJ _ hy)
  rw[nI,aLO]
  have:pX x<=1:=by
   rcases h1 with rfl|rfl<;>decide
  omega
theorem amS{M:Nat}(hM:M<=11):∀{l:List Nat},(∀o∈l,o<=M)->2^(11-M)∣dX l
 |[],_=>Nat.dvd_zero _
 |x::l,h=>by
  rw[nI]
  refine Nat.dvd_add ?_ (amS hM λy hy=>h y (aLJ _ hy))
  have:=h x (aL6 ..)
  unfold pX
  split
  .exact Nat.dvd_zero _
  .exact aOg 2 (by omega)
theorem amT{o:Nat}:∀{l:List Nat},o∈l->pX o<=dX l
 |[],h=>by cases h
 |x::l,h=>by
  rw[nI]
  rcases aL9.1 h with rfl|h
  .omega
  .have:=amT h;omega
theorem aBR{o:Nat}(h:o≠0):1<=pX o:=by
 unfold pX;rw[if_neg h];exact aN0
theorem Z7:∀{l:List Nat} {i j:Nat} (hi:i<l.length) (hj:j<l.length),i<j->pX l[i]+pX l[j]<=dX l
 |[],i,j,hi,hj,h=>by simp at hi
 |x::l,0,j+1,hi,hj,h=>by
  have:=amT (l:=l) (aLP (show j<l.length by simpa using hj))
  rw[nI,aNg,aME];omega
 |x::l,i+1,j+1,hi,hj,h=>by
  have:=Z7 (l:=l) (i:=i) (j:=j) (by simpa using hi) (by simpa using hj) (by omega)
  rw[nI,aME,aME];omega
def wOf(d o:Nat):Nat:=if o=0 then 0 else d+1-o
theorem adH{d:Nat}(hd:d<=11):∀{l:List Nat},(∀o∈l,o<=d)->dO (l.map (wOf d))*2^(11-d)=dX l
 |[],_=>by simp[dO,dX]
 |x::l,h=>by
  have h1:=h x (aL6 ..)
  rw[aL3,jS,nI,aMh,adH hd λy hy=>h y (aLJ _ hy)]
  congr 1
  unfold UI wOf pX
  by_cases h0:x=0
  .subst h0;simp
  .rw [if_neg h0,if_neg h0,if_neg (by omega),<-aMA]
   congr 1;omega
theorem aFf{d:Nat}{l:List Nat}(hd:d<=11)(h:∀o∈l,o<=d)(hk:dX l=2048):dO (l.map (wOf d))=2^d:=by
 have:=adH hd h
 rw[hk,show(2048:Nat)=2^d*2^(11-d)from by rw[<-aMA,show d+(11-d)=11 from by omega]]at this
 exact Nat.eq_of_mul_eq_mul_right (aLV _) this
end Go.Pu
namespace Go.Proofs.YtoecppploooloaaGreatDoor
open Go Go.En Go.Pu
set_option maxRecDepth 4000
abbrev bU(l:List UInt8):List Nat:=l.map (·.toNat)
theorem eF(l:List UInt8):(bU l).length=l.length:=by simp
theorem atW{l:List UInt8}{i:Nat}(h:i<l.length):(bU l)[i]?=some (l[i].toNat):=by rw[aLN,aLp h]<;>rfl
theorem TK{l:List UInt8}{i:Nat}(h:i<l.length):bU (l.take (i+1))=bU (l.take i)++[l[i].toNat]:=by
 unfold bU
 rw[aMB,aLp h,aLY]<;>rfl
theorem aB3 {l:List UInt8}(h:0<l.length):(bU l).getLast?=some 0↔l[l.length-1].toNat=0:=by
 rw[aM7,eF,atW (by omega)]
 simp
theorem aGl(l:List UInt8):∀w∈bU l,w<256:=λw hw=>by
 obtain⟨x,_,rfl⟩:=aL1.1 hw
 exact aM3 x
theorem awL{d:Nat}{l:List Nat}{x:Nat}:xZ d (l++[x])=(xZ d l&&decide (x<=d)):=by
 unfold xZ;rw[List.all_append];simp
theorem awM{d:Nat}{l:List Nat}{i:Nat}(h:xZ d (l.take i)=false):xZ d l=false:=by
 cases hq:xZ d l with
 |false=>rfl
 |true=>
  rw[zC]at hq
  have:xZ d (l.take i)=true:=zC.2 λw hw=>hq w (aMt hw)
  rw[this]at h;cases h
theorem aGX{v:aOj}{l:List UInt8}{w:aOi}(h:Bs w v l)(hl:l.length<=100000):
 aK pg Bd #[v] w (λr w'=>r= .tuple #[.int .i64 (if xZ 11 (bU l)=true then dO (bU l)else 0:Nat),.bool (xZ 11 (bU l))]/\w'=w):=by
 refine WY ?_
 obtain⟨a,n,c,rfl,hn,hc,hh⟩:=id h
 rw[aLr]at hn
 subst hn
 unfold VI KN KM Fp Fo NL
 simp(disch:=omega)only[seval]
 unfold zV
 refine aX.rule (λm (t:aOj×aOj) w'=>∃i:Nat,m=l.length-i/\t=(.int .i64 (dO (bU (l.take i)):Nat),.int .i64 i)/\i<=l.length/\xZ 11 (bU (l.take i))=true/\w'=w) l.length
  ⟨0,rfl,by simp[dO],by omega,by simp[xZ],rfl⟩ ?_
 rintro m t w1 ⟨i,rfl,rfl,hi,hle,rfl⟩
 unfold Fm NK
 by_cases hlt:i<l.length
 .have d1:decide ((i:Int)<(l.length:Int))=true:=by simp;omega
  obtain⟨b,off,rfl,hcell⟩:=slA h (by omega)
  have g1:=hcell i hlt
  rw[aLN,aLp hlt]at g1
  simp only[aL2,dP]at g1
  have ht:=TK hlt
  have hx:(l[i]).toNat<256:=aM3 _
  have hwl:=abN (zC.1 hle)
  rw[eF,aLz]at hwl
  have hsn:xZ 11 (bU (l.take (i+1)))=(xZ 11 (bU (l.take i))&&decide ((l[i]).toNat<=11)):=by rw[ht,awL]
  have hwn:dO (bU (l.take (i+1)))=dO (bU (l.take i))+UI (l[i]).toNat:=by rw[ht,alT,jS]<;>rfl
  have hbad:xZ 11 (bU (l.take (i+1)))=false->xZ 11 (bU l)=false:=λh=>awM (i:=i+1) (by rw[<-aNc];exact h)
  generalize(l[i]).toNat=x at*
  unfold Fl
  by_cases h11:11<x
  .have d2:decide ((11:Int)<(x:Int))=true:=by simp;omega
   have hf:=hbad (by rw[hsn,hle,decide_eq_false (by omega)]<;>rfl)
   simp(disch:=omega)only[seval,d1,g1,d2]
   rw[hf];simp
  .have d2:decide ((11:Int)<(x:Int))=false:=by simp;omega
   have hle1:xZ 11 (bU (l.take (i+1)))=true:=by rw[hsn,hle,decide_eq_true (by omega)]<;>rfl
   have hwp:=aBb (w:=x) (by omega)
   by_cases h0:0<x
   .have d3:decide ((0:Int)<(x:Int))=true:=by simp;omega
    have e1:(x:Int)-1=((x-1:Nat):Int):=by omega
    have hsh:=afH (n:=x-1) (by omega)
    have hpw:UI x=2^(x-1):=by unfold UI;rw[if_neg (by omega)]
    have e2:((dO (bU (l.take i)):Nat):Int)+((2^(x-1):Nat):Int)=((dO (bU (l.take i))+2^(x-1):Nat):Int):=by omega
    rw[hpw]at hwp hwn
    simp(disch:=omega)only[seval,d1,g1,d2,d3,e1,hsh,e2]
    exact⟨l.length-(i+1),by omega,i+1,rfl,by rw[hwn]<;>rfl,by omega,hle1⟩
   .have d3:decide ((0:Int)<(x:Int))=false:=by simp;omega
    have hpw:UI x=0:=by unfold UI;rw[if_pos (by omega)]
    simp(disch:=omega)only[seval,d1,g1,d2,d3]
    exact⟨l.length-(i+1),by omega,i+1,rfl,by rw[hwn,hpw]<;>rfl,by omega,hle1⟩
 .have d1:decide ((i:Int)<(l.length:Int))=false:=by simp;omega
  obtain rfl:i=l.length:=by omega
  rw[aNr]at*
  unfold Fk
  simp(disch:=omega)only[seval,d1]
  rw[hle];simp
end Go.Proofs.YtoecppploooloaaGreatDoor

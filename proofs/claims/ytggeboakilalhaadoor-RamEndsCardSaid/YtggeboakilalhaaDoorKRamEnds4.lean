/- Nothing that has ended is got; behind a sweep there is nothing that has ended, and all else is as it was. (part 4 of 8) -/
import Derived.Test.YtggeboakilalhaaDoorKRamEnds3
import Derived.LaidEql
import Derived.RowKitTokens
import Derived.Stop.Asserts
import Derived.Test.YtggeboakilalhaaDoorProg
import Derived.WalkKit
namespace Go.Proofs.YtggeboakilalhaaDoor
open Go Go.Va
set_option linter.unusedVariables false
set_option linter.unusedSimpArgs false
set_option maxRecDepth 20000
noncomputable def ram_New_b0 (c8 : slab_Budget) (c84 : lists_Lists) (v120 : List Int) (v125 : List Int) (v130 : List aEn) (v137 : Int) (c138 : Int) (c139 : List Int) : Option ((Int × (List Int)) ⊕ ((List Int))) :=
 lt (decide (c138 < v137)) fun v150 =>
 if v150 = true then
  (chk (c139).length c138).bind fun v153 =>
  (updA (c139).length c139 c138 (fun _ => (-1 : Int))).bind fun c155 =>
  lt (w64 (c138 + (1 : Int))) fun v158 =>
  some (.inl (v158, c155))
 else
  some (.inr c139)
noncomputable def ram_New_l0 (c8 : slab_Budget) (c84 : lists_Lists) (v120 : List Int) (v125 : List Int) (v130 : List aEn) (v137 : Int) (s : Int × (List Int)) : Option ((List Int)) := loopO (fun s => ram_New_b0 c8 c84 v120 v125 v130 v137 s.1 s.2) s
noncomputable def ram_New (x0 : Int) : Option ((Option ram_Ram) × Err) :=
 lt (decide (x0 > (1048576 : Int))) fun v2 =>
 if v2 = true then
  (trouble_New ([114#8, 97#8, 109#8] : List (BitVec 8)) x0 (2 : Int)).bind fun v5 =>
  some (none, v5)
 else
  (slab_New x0).bind fun v7 =>
  Option.elim v7.1 (
   lt (!Err.isNil v7.2) fun v13 =>
   if v13 = true then
    (trouble_Wrap ([114#8, 97#8, 109#8] : List (BitVec 8)) x0 v7.2).bind fun v16 =>
    some (none, v16)
   else
    lt (quo64 x0 (32 : Int)) fun v18 =>
    lt ((if (1 : Int) > v18 then (1 : Int) else v18)) fun v20 =>
    (lists_New (9 : Int) v20).bind fun v22 =>
    Option.elim v22.1 (
     lt (!Err.isNil v22.2) fun v28 =>
     if v28 = true then
      (trouble_Wrap ([114#8, 97#8, 109#8] : List (BitVec 8)) x0 v22.2).bind fun v31 =>
      some (none, v31)
     else
      lt ((if (256 : Int) < v20 then (256 : Int) else v20)) fun v33 =>
      (mkS 8 v33 (0 : Int)).bind fun v36 =>
      (mkS 8 v20 (0 : Int)).bind fun v41 =>
      (mkS 64 v20 z_aEn).bind fun v46 =>
      none
    ) (fun c23 =>
     lt (!Err.isNil v22.2) fun v51 =>
     if v51 = true then
      (trouble_Wrap ([114#8, 97#8, 109#8] : List (BitVec 8)) x0 v22.2).bind fun v54 =>
      some (none, v54)
     else
      lt ((if (256 : Int) < v20 then (256 : Int) else v20)) fun v56 =>
      (mkS 8 v56 (0 : Int)).bind fun v59 =>
      (mkS 8 v20 (0 : Int)).bind fun v64 =>
      (mkS 64 v20 z_aEn).bind fun v69 =>
      none
    )
  ) (fun c8 =>
   lt (!Err.isNil v7.2) fun v74 =>
   if v74 = true then
    (trouble_Wrap ([114#8, 97#8, 109#8] : List (BitVec 8)) x0 v7.2).bind fun v77 =>
    some (none, v77)
   else
    lt (quo64 x0 (32 : Int)) fun v79 =>
    lt ((if (1 : Int) > v79 then (1 : Int) else v79)) fun v81 =>
    (lists_New (9 : Int) v81).bind fun v83 =>
    Option.elim v83.1 (
     lt (!Err.isNil v83.2) fun v89 =>
     if v89 = true then
      (trouble_Wrap ([114#8, 97#8, 109#8] : List (BitVec 8)) x0 v83.2).bind fun v92 =>
      some (none, v92)
     else
      lt ((if (256 : Int) < v81 then (256 : Int) else v81)) fun v94 =>
      (mkS 8 v94 (0 : Int)).bind fun v97 =>
      (mkS 8 v81 (0 : Int)).bind fun v102 =>
      (mkS 64 v81 z_aEn).bind fun v107 =>
      none
    ) (fun c84 =>
     lt (!Err.isNil v83.2) fun v112 =>
     if v112 = true then
      (trouble_Wrap ([114#8, 97#8, 109#8] : List (BitVec 8)) x0 v83.2).bind fun v115 =>
      some (none, v115)
     else
      lt ((if (256 : Int) < v81 then (256 : Int) else v81)) fun v117 =>
      (mkS 8 v117 (0 : Int)).bind fun v120 =>
      (mkS 8 v81 (0 : Int)).bind fun v125 =>
      (mkS 64 v81 z_aEn).bind fun v130 =>
      lt ((((v120).length : Nat) : Int)) fun v137 =>
      (ram_New_l0 c8 c84 v120 v125 v130 v137 ((0 : Int), v120)).bind fun s147 =>
       some (some ({ (⟨c8, c84, v120, v125, v130, (0 : Int)⟩ : ram_Ram) with budget := c8, lists := c84, heads := s147, next_ := v125, things := v130 } : ram_Ram), Err.nil)
    )
  )
noncomputable def L11_works : Option (Bool) :=
 (ram_New (100 : Int)).bind fun v2 =>
 Option.elim v2.1 (
  (ram_New (0 : Int)).bind fun v8 =>
  some false
 ) (fun c3 =>
  (ram_New (0 : Int)).bind fun v10 =>
  lt (!Err.isNil v2.2) fun v12 =>
  if v12 = true then
   some false
  else
   (ram_Ram_Set c3 (⟨[97#8], 1, 1, 0, []⟩ : aEn) (0 : Int)).bind fun v15 =>
   (mkS 1 (40 : Int) 0#8).bind fun v17 =>
   lt ((⟨[98#8], 1, 1, 0, v17⟩ : aEn)) fun v21 =>
   (ram_Ram_Set v15.2.2 v21 (0 : Int)).bind fun v23 =>
   (ram_Ram_Get v23.2.2 ([97#8] : List (BitVec 8)) (0 : Int)).bind fun v25 =>
   (ram_Ram_Set v25.2.2 (⟨[99#8], 1, 1, 0, []⟩ : aEn) (0 : Int)).bind fun v30 =>
   (mkS 1 (70 : Int) 0#8).bind fun v32 =>
   lt ((⟨[100#8], 1, 1, 0, v32⟩ : aEn)) fun v36 =>
   (ram_Ram_Set v30.2.2 v36 (0 : Int)).bind fun v38 =>
   (trouble_Of v10.2).bind fun v40 =>
   lt (v40 == (2 : Int)) fun v42 =>
   if v42 = true then
    lt (Err.isNil v15.2.1) fun v45 =>
    if v45 = true then
     lt (Err.isNil v23.2.1) fun v48 =>
     if v48 = true then
      lt (Err.isNil v30.2.1) fun v51 =>
      if v51 = true then
       if v25.2.1 = true then
        lt (((v15.1).length : Int)) fun v55 =>
        lt (v55 == (0 : Int)) fun v57 =>
        if v57 = true then
         lt (((v23.1).length : Int)) fun v60 =>
         lt (v60 == (0 : Int)) fun v62 =>
         if v62 = true then
          lt (((v30.1).length : Int)) fun v65 =>
          lt (v65 == (1 : Int)) fun v67 =>
          if v67 = true then
           (ix v30.1 (0 : Int)).bind fun v70 =>
           lt (v70.Key == ([98#8] : List (BitVec 8))) fun v72 =>
           if v72 = true then
            (trouble_Of v38.2.1).bind fun v75 =>
            lt (v75 == (3 : Int)) fun v77 =>
            if v77 = true then
             (ram_Ram_Used v38.2.2).bind fun v80 =>
             lt (v80 == (64 : Int)) fun v82 =>
             if v82 = true then
              (ram_Ram_Len v38.2.2).bind fun v85 =>
              lt (v85 == (2 : Int)) fun v87 =>
              if v87 = true then
               (ram_Ram_Limit v38.2.2).bind fun v90 =>
               lt (v90 == (100 : Int)) fun v92 =>
               some v92
              else
               some false
             else
              some false
            else
             some false
           else
            some false
          else
           some false
         else
          some false
        else
         some false
       else
        some false
      else
       some false
     else
      some false
    else
     some false
   else
    some false
 )
noncomputable def R11_New (x0 : Int) : Option (R11_Ram × Int) :=
 (
  lt (decide (x0 < (1 : Int))) fun v8 =>
  if v8 = true then
   some true
  else
   lt (decide (x0 > (1048576 : Int))) fun v11 =>
   some v11
 : Option (Bool)).bind fun s3 =>
  if s3 = true then
   some (((⟨(0 : Int), ([] : List aEn)⟩ : R11_Ram) : R11_Ram), (2 : Int))
  else
   some (((⟨x0, ([] : List aEn)⟩ : R11_Ram) : R11_Ram), (0 : Int))
noncomputable def L11_RamEnds_b0 (x1 : List L11_Op) (x2 : Int) (x3 : List (BitVec 8)) (c58 : Int) (c59 : R11_Ram) (c60 : ram_Ram) (c61 : slab_Budget) (c62 : lists_Lists) (c63 : List lists_link) (c64 : List Int) (c65 : List Int) (c66 : List Int) (c67 : List Int) (c68 : List Int) (c69 : List aEn) : Option ((Int × R11_Ram × ram_Ram × slab_Budget × lists_Lists × (List lists_link) × (List Int) × (List Int) × (List Int) × (List Int) × (List Int) × (List aEn)) ⊕ (R11_Ram × ram_Ram × slab_Budget × lists_Lists × (List lists_link) × (List Int) × (List Int) × (List Int) × (List Int) × (List Int) × (List aEn))) :=
 lt (((x1).length : Int)) fun v80 =>
 lt (decide (c58 < v80)) fun v82 =>
 if v82 = true then
  (ix x1 c58).bind fun v85 =>
  (L11_do ({ c60 with budget := c61, lists := ({ c62 with nodes := c63, first_ := c64, last_ := c65, count := c66 } : lists_Lists), heads := c67, next_ := c68, things := c69 } : ram_Ram) c59 v85).bind fun v87 =>
  lt ((v87.1 : R11_Ram)) fun c89 =>
  lt (w64 (c58 + (1 : Int))) fun v92 =>
  some (.inl (v92, c89, v87.2.2, v87.2.2.budget, v87.2.2.lists, v87.2.2.lists.nodes, v87.2.2.lists.first_, v87.2.2.lists.last_, v87.2.2.lists.count, v87.2.2.heads, v87.2.2.next_, v87.2.2.things))
 else
  some (.inr (c59, c60, c61, c62, c63, c64, c65, c66, c67, c68, c69))
noncomputable def L11_RamEnds_l0 (x1 : List L11_Op) (x2 : Int) (x3 : List (BitVec 8)) (s : Int × R11_Ram × ram_Ram × slab_Budget × lists_Lists × (List lists_link) × (List Int) × (List Int) × (List Int) × (List Int) × (List Int) × (List aEn)) : Option (R11_Ram × ram_Ram × slab_Budget × lists_Lists × (List lists_link) × (List Int) × (List Int) × (List Int) × (List Int) × (List Int) × (List aEn)) := loopO (fun s => L11_RamEnds_b0 x1 x2 x3 s.1 s.2.1 s.2.2.1 s.2.2.2.1 s.2.2.2.2.1 s.2.2.2.2.2.1 s.2.2.2.2.2.2.1 s.2.2.2.2.2.2.2.1 s.2.2.2.2.2.2.2.2.1 s.2.2.2.2.2.2.2.2.2.1 s.2.2.2.2.2.2.2.2.2.2.1 s.2.2.2.2.2.2.2.2.2.2.2) s
noncomputable def L11_RamEnds_b1 (x2 : Int) (s77 : R11_Ram × ram_Ram × slab_Budget × lists_Lists × (List lists_link) × (List Int) × (List Int) × (List Int) × (List Int) × (List Int) × (List aEn)) (v95 : List aEn) (v97 : aEn × Bool × ram_Ram) (v144 : Int × ram_Ram) (v146 : List aEn) (c147 : Int) : Option ((Int) ⊕ (Unit ⊕ (Bool))) :=
 lt (((v146).length : Int)) fun v158 =>
 lt (decide (c147 < v158)) fun v160 =>
 if v160 = true then
  (ix v146 c147).bind fun v163 =>
  (R06_Live v163 x2).bind fun v165 =>
  lt (!v165) fun v167 =>
  if v167 = true then
   some (.inr (.inr false))
  else
   lt (w64 (c147 + (1 : Int))) fun v171 =>
   some (.inl v171)
 else
  some (.inr (.inl ()))
noncomputable def L11_RamEnds_l1 (x2 : Int) (s77 : R11_Ram × ram_Ram × slab_Budget × lists_Lists × (List lists_link) × (List Int) × (List Int) × (List Int) × (List Int) × (List Int) × (List aEn)) (v95 : List aEn) (v97 : aEn × Bool × ram_Ram) (v144 : Int × ram_Ram) (v146 : List aEn) (s : Int) : Option (Unit ⊕ (Bool)) := loopO (fun s => L11_RamEnds_b1 x2 s77 v95 v97 v144 v146 s) s
noncomputable def L11_RamEnds_b2 (x2 : Int) (s77 : R11_Ram × ram_Ram × slab_Budget × lists_Lists × (List lists_link) × (List Int) × (List Int) × (List Int) × (List Int) × (List Int) × (List aEn)) (v95 : List aEn) (v97 : aEn × Bool × ram_Ram) (v144 : Int × ram_Ram) (v146 : List aEn) (c173 : Int) : Option ((Int) ⊕ (Unit ⊕ (Bool))) :=
 lt (((v95).length : Int)) fun v184 =>
 lt (decide (c173 < v184)) fun v186 =>
 if v186 = true then
  (
   (ix v95 c173).bind fun v193 =>
   (R06_Live v193 x2).bind fun v195 =>
   if v195 = true then
    (ix v95 c173).bind fun v198 =>
    (R06_Find v146 v198.Key).bind fun v200 =>
    lt (decide (v200 < (0 : Int))) fun v202 =>
    some v202
   else
    some false
  : Option (Bool)).bind fun s188 =>
   if s188 = true then
    some (.inr (.inr false))
   else
    lt (w64 (c173 + (1 : Int))) fun v207 =>
    some (.inl v207)
 else
  some (.inr (.inl ()))
noncomputable def L11_RamEnds_l2 (x2 : Int) (s77 : R11_Ram × ram_Ram × slab_Budget × lists_Lists × (List lists_link) × (List Int) × (List Int) × (List Int) × (List Int) × (List Int) × (List aEn)) (v95 : List aEn) (v97 : aEn × Bool × ram_Ram) (v144 : Int × ram_Ram) (v146 : List aEn) (s : Int) : Option (Unit ⊕ (Bool)) := loopO (fun s => L11_RamEnds_b2 x2 s77 v95 v97 v144 v146 s) s
noncomputable def L11_RamEnds (x0 : BitVec 16) (x1 : List L11_Op) (x2 : Int) (x3 : List (BitVec 8)) : Option (Bool) :=
 (
  (L11_light x1).bind fun v6 =>
  lt (!v6) fun v8 =>
  if v8 = true then
   some true
  else
   lt (((x3).length : Int)) fun v11 =>
   lt (decide (v11 > (200 : Int))) fun v13 =>
   some v13
 : Option (Bool)).bind fun s1 =>
  if s1 = true then
   (L11_works).bind fun v17 =>
   some v17
  else
   lt ((BitVec.toNat x0 : Int)) fun v19 =>
   lt (Int.tmod v19 (9000 : Int)) fun v21 =>
   lt (w64 ((1 : Int) + v21)) fun v23 =>
   (ram_New v23).bind fun v25 =>
   Option.elim v25.1 (
    (
     lt (!Err.isNil v25.2) fun v35 =>
     if v35 = true then
      some ()
     else
      some ()
    : Option (Unit)).bind fun s30 =>
     some false
   ) (fun c26 =>
    (
     lt (!Err.isNil v25.2) fun v43 =>
     if v43 = true then
      some true
     else
      some false
    : Option (Bool)).bind fun s38 =>
     if s38 = true then
      some false
     else
      lt ((BitVec.toNat x0 : Int)) fun v48 =>
      lt (Int.tmod v48 (9000 : Int)) fun v50 =>
      lt (w64 ((1 : Int) + v50)) fun v52 =>
      (R11_New v52).bind fun v54 =>
      (L11_RamEnds_l0 x1 x2 x3 ((0 : Int), (v54.1 : R11_Ram), c26, c26.budget, c26.lists, c26.lists.nodes, c26.lists.first_, c26.lists.last_, c26.lists.count, c26.heads, c26.next_, c26.things)).bind fun s77 =>
       (ram_Ram_All ({ s77.2.1 with budget := s77.2.2.1, lists := ({ s77.2.2.2.1 with nodes := s77.2.2.2.2.1, first_ := s77.2.2.2.2.2.1, last_ := s77.2.2.2.2.2.2.1, count := s77.2.2.2.2.2.2.2.1 } : lists_Lists), heads := s77.2.2.2.2.2.2.2.2.1, next_ := s77.2.2.2.2.2.2.2.2.2.1, things := s77.2.2.2.2.2.2.2.2.2.2 } : ram_Ram)).bind fun v95 =>
       (ram_Ram_Get ({ s77.2.1 with budget := s77.2.2.1, lists := ({ s77.2.2.2.1 with nodes := s77.2.2.2.2.1, first_ := s77.2.2.2.2.2.1, last_ := s77.2.2.2.2.2.2.1, count := s77.2.2.2.2.2.2.2.1 } : lists_Lists), heads := s77.2.2.2.2.2.2.2.2.1, next_ := s77.2.2.2.2.2.2.2.2.2.1, things := s77.2.2.2.2.2.2.2.2.2.2 } : ram_Ram) x3 x2).bind fun v97 =>
       (
        if v97.2.1 = true then
         (R06_Live (v97.1 : aEn) x2).bind fun v107 =>
         lt (!v107) fun v109 =>
         if v109 = true then
          some true
         else
          (R06_Find v95 x3).bind fun v112 =>
          lt (decide (v112 ≥ (0 : Int))) fun v114 =>
          if v114 = true then
           (R06_Find v95 x3).bind fun v117 =>
           (ix v95 v117).bind fun v119 =>
           (R06_Live v119 x2).bind fun v121 =>
           lt (true != v121) fun v123 =>
           some v123
          else
           lt (true != false) fun v125 =>
           some v125
        else
         (R06_Find v95 x3).bind fun v127 =>
         lt (decide (v127 ≥ (0 : Int))) fun v129 =>
         if v129 = true then
          (R06_Find v95 x3).bind fun v132 =>
          (ix v95 v132).bind fun v134 =>
          (R06_Live v134 x2).bind fun v136 =>
          lt (false != v136) fun v138 =>
          some v138
         else
          lt (false != false) fun v140 =>
          some v140
       : Option (Bool)).bind fun s101 =>
        if s101 = true then
         some false
        else
         (ram_Ram_Sweep v97.2.2 x2).bind fun v144 =>
         (ram_Ram_All v144.2).bind fun v146 =>
         (L11_RamEnds_l1 x2 s77 v95 v97 v144 v146 (0 : Int)).bind fun o148 =>
          Sum.elim (fun s155 : Unit =>
           (L11_RamEnds_l2 x2 s77 v95 v97 v144 v146 (0 : Int)).bind fun o174 =>
            Sum.elim (fun s181 : Unit =>
             lt (decide (v144.1 ≥ (0 : Int))) fun v210 =>
             if v210 = true then
              lt (((v146).length : Int)) fun v213 =>
              lt (((v95).length : Int)) fun v215 =>
              lt (decide (v213 ≤ v215)) fun v217 =>
              if v217 = true then
               (L11_works).bind fun v220 =>
               some v220
              else
               some false
             else
              some false
             ) (fun y => some y) o174
           ) (fun y => some y) o148
   )
end Go.Proofs.YtggeboakilalhaaDoor
namespace Go.Proofs.YtggeboakilalhaaDoor
open Go.RowKit Go.Extern.Stop Go.Stop Go.Extern
theorem Tryd.valueOf27 (t : Addr) (w : World) : (ReflectliteValue.unpack (.iface 96 (.pointer (some t)))).run Tryd.prog w
    = .ok (.agg #[.pointer (some ⟨1, 96, none⟩), .pointer (some ⟨w.heap.size, 0, none⟩), .int .u64 150]) (w.alloc (.cells #[.pointer (some t)] 96)) := by kernel_rfl
theorem Tryd.type27 (a : Addr) (w : World) : (ReflectliteValue.methodAny (ReflectliteValue.valueError "reflectlite.Value.Type" 0) (fun t _ _ _ => ReflectliteType.toType t) #[.agg #[.pointer (some ⟨1, 96, none⟩), .pointer (some a), .int .u64 150]]).run Tryd.prog w
    = .ok (.iface 139 (.agg #[.pointer (some ⟨1, 96, none⟩)])) w := by kernel_rfl
theorem Tryd.methodKind (h : Value) (w : World) : (Go.method 281 139 (.agg #[h]) "Kind").run Tryd.prog w = .ok (102, h) w := by kernel_rfl
theorem Tryd.kind27 (w : World) : ((ReflectliteType.abiMethod fun t => (fun a : Nat => Value.int IntKind.u8 (a : Int)) <$> Rtype.kind t) #[.pointer (some ⟨1, 96, none⟩)]).run Tryd.prog w = .ok (.int .u8 22) w := by kernel_rfl
theorem Tryd.kind25 (w : World) : ((ReflectliteType.abiMethod fun t => (fun a : Nat => Value.int IntKind.u8 (a : Int)) <$> Rtype.kind t) #[.pointer (some ⟨1, 94, none⟩)]).run Tryd.prog w = .ok (.int .u8 22) w := by kernel_rfl

theorem rlm (z : Sem Value) (f : TypeId → Addr → Nat → Nat → Sem Value) (v : Value) :
    ReflectliteValue.method z f #[v] = (do match ← ReflectliteValue.parts v with | none => z | some (t, a, fl) => f t a fl (fl % 32)) := rfl
theorem Tryd.parts27 (a : Addr) (w : World) : (ReflectliteValue.parts (.agg #[.pointer (some ⟨1, 96, none⟩), .pointer (some a), .int .u64 150])).run Tryd.prog w = .ok (some (96, a, 150)) w := by kernel_rfl
theorem Tryd.isNil27 (a p : Addr) (W : World) (ha : W.cell? a = some (.pointer (some p))) :
    (ReflectliteValue.method (ReflectliteValue.valueError "reflectlite.Value.IsNil" 0) ReflectliteValue.isNil #[.agg #[.pointer (some ⟨1, 96, none⟩), .pointer (some a), .int .u64 150]]).run Tryd.prog W = .ok (.bool false) W := by
  rw [rlm]
  simp only [Sem.run_bind, Tryd.parts27, Result.andThen]
  simp [ReflectliteValue.isNil, loadVar, isAgg, underlying, Tryd.underlying96, ha, Result.andThen]

theorem Tryd.methodElem (h : Value) (w : World) : (Go.method 281 139 (.agg #[h]) "Elem").run Tryd.prog w = .ok (113, .agg #[h]) w := by kernel_rfl
theorem Tryd.methodImplements (h : Value) (w : World) : (Go.method 281 139 (.agg #[h]) "Implements").run Tryd.prog w = .ok (114, .agg #[h]) w := by kernel_rfl
theorem Tryd.methodAssignableTo (h : Value) (w : World) : (Go.method 281 139 (.agg #[h]) "AssignableTo").run Tryd.prog w = .ok (111, .agg #[h]) w := by kernel_rfl
theorem Tryd.elem27 (w : World) : (ReflectliteType.method ReflectliteType.elem #[.agg #[.pointer (some ⟨1, 96, none⟩)]]).run Tryd.prog w = .ok (.iface 139 (.agg #[.pointer (some ⟨1, 94, none⟩)])) w := by kernel_rfl
theorem Tryd.implements25 (w : World) : (ReflectliteType.relation "Implements" ReflectliteType.implements_ #[.agg #[.pointer (some ⟨1, 94, none⟩)], .iface 139 (.agg #[.pointer (some ⟨1, 28, none⟩)])]).run Tryd.prog w = .ok (.bool true) w := by kernel_rfl
theorem Tryd.typeOf25 (v : Value) (w : World) : (ReflectliteType.typeOf #[.iface 94 v]).run Tryd.prog w = .ok (.iface 139 (.agg #[.pointer (some ⟨1, 94, none⟩)])) w := by kernel_rfl
theorem Tryd.assignable25 (w : World) : (ReflectliteType.relation "AssignableTo" ReflectliteType.assignableTo #[.agg #[.pointer (some ⟨1, 94, none⟩)], .iface 139 (.agg #[.pointer (some ⟨1, 94, none⟩)])]).run Tryd.prog w = .ok (.bool true) w := by kernel_rfl
theorem Tryd.valueOf25 (e : Addr) (w : World) : (ReflectliteValue.unpack (.iface 94 (.pointer (some e)))).run Tryd.prog w
    = .ok (.agg #[.pointer (some ⟨1, 94, none⟩), .pointer (some ⟨w.heap.size, 0, none⟩), .int .u64 150]) (w.alloc (.cells #[.pointer (some e)] 94)) := by kernel_rfl

theorem Tryd.elemOf27 (w : World) : (Rtype.elem? 96).run Tryd.prog w = .ok (some 94) w := by kernel_rfl
theorem Tryd.mk25 (p : Addr) (w : World) : (ReflectliteValue.mk 94 p ReflectliteValue.flagAddr).run Tryd.prog w = .ok (.agg #[.pointer (some ⟨1, 94, none⟩), .pointer (some p), .int .u64 406]) w := by kernel_rfl
theorem Tryd.elemV27 (a p : Addr) (W : World) (ha : W.cell? a = some (.pointer (some p))) :
    (ReflectliteValue.method (ReflectliteValue.valueError "reflectlite.Value.Elem" 0) ReflectliteValue.elem #[.agg #[.pointer (some ⟨1, 96, none⟩), .pointer (some a), .int .u64 150]]).run Tryd.prog W
      = .ok (.agg #[.pointer (some ⟨1, 94, none⟩), .pointer (some p), .int .u64 406]) W := by
  rw [rlm]
  simp only [Sem.run_bind, Tryd.parts27, Result.andThen]
  simp [ReflectliteValue.elem, loadVar, isAgg, underlying, Tryd.underlying96, ha, Result.andThen, Tryd.elemOf27, Tryd.mk25]
theorem rls (v x : Value) : ReflectliteValue.set #[v, x] = (do
    let (some (dst, a, fl), some (src, b, _)) := (← ReflectliteValue.parts v, ← ReflectliteValue.parts x)
      | unsupported (.noEntry "extern/(internal/reflectlite.Value).Set.zeroValue")
    if fl / ReflectliteValue.flagAddr % 2 == 0 then unsupported (.noEntry "extern/(internal/reflectlite.Value).Set.unaddressable")
    let val ← loadVar src b
    if ← Rtype.directlyAssignable dst src then storeVar dst a val
    else if ← Rtype.implements dst src then
      if (← Rtype.kind src) == 20 then
        match val with
        | .nilIface => unsupported (.noEntry "extern/reflectlite: a nil value of one interface type handed on as a value of another")
        | _ => storeVar dst a val
      else storeVar dst a (.iface src val)
    else panicString ("reflectlite.Set: value of type " ++ (← Rtype.spelt src) ++ " is not assignable to type " ++ (← Rtype.spelt dst))
    pure (.tuple #[])) := rfl
theorem Tryd.parts25a (a : Addr) (w : World) : (ReflectliteValue.parts (.agg #[.pointer (some ⟨1, 94, none⟩), .pointer (some a), .int .u64 406])).run Tryd.prog w = .ok (some (94, a, 406)) w := by kernel_rfl
theorem Tryd.parts25 (a : Addr) (w : World) : (ReflectliteValue.parts (.agg #[.pointer (some ⟨1, 94, none⟩), .pointer (some a), .int .u64 150])).run Tryd.prog w = .ok (some (94, a, 150)) w := by kernel_rfl
theorem Tryd.direct25 (w : World) : (Rtype.directlyAssignable 94 94).run Tryd.prog w = .ok true w := by kernel_rfl
theorem Tryd.set25 (ta b e : Addr) (old : Value) (W : World) (hb : W.cell? b = some (.pointer (some e))) (ht : W.cell? ta = some old) (hf : W.frozen? ta = false) :
    (ReflectliteValue.set #[.agg #[.pointer (some ⟨1, 94, none⟩), .pointer (some ta), .int .u64 406], .agg #[.pointer (some ⟨1, 94, none⟩), .pointer (some b), .int .u64 150]]).run Tryd.prog W
      = .ok (.tuple #[]) (W.setCell ta (.pointer (some e))) := by
  rw [rls]
  simp only [Sem.run_bind, Tryd.parts25a, Tryd.parts25, Result.andThen]
  simp [ReflectliteValue.flagAddr, loadVar, isAgg, underlying, Tryd.underlying94, hb, Result.andThen, Tryd.direct25, storeVar, Value.cells, storeCells, Addr.add]
  rw [run_store Tryd.prog W ta _ _ (by rfl)]
  simp [ht, hf]

set_option maxHeartbeats 8000000 in
set_option maxRecDepth 100000 in
theorem as_hit (e t : Addr) (old : Value) (w : World) (hg : w.cell? ⟨0, 0, none⟩ = some (.iface 139 (.agg #[.pointer (some ⟨1, 28, none⟩)]))) (ht0 : w.cell? t = some old) (hf0 : w.frozen? t = false) :
    Calls Tryd.prog 57 #[.iface 94 (.pointer (some e)), .iface 96 (.pointer (some t))] w fun ev w' => ev = .returned (.bool true) ∧ w' = ((((w.alloc (.cells #[.pointer (some t)] 96)).alloc (.cells #[.pointer (some ⟨1, 96, none⟩), .pointer (some ⟨w.heap.size, 0, none⟩), .int .u64 150] 125)).alloc (.cells #[.pointer (some ⟨1, 96, none⟩), .pointer (some ⟨w.heap.size, 0, none⟩), .int .u64 150] 125)).alloc (.cells #[.pointer (some e)] 94)).setCell t (.pointer (some e)) := by
  have h6 := @run_callFunc_extern Tryd.prog 76 _ (fun args => ReflectliteValue.unpack (args.getD 0 (.tuple #[]))) Tryd.func76 (by kernel_rfl) (by kernel_rfl) (by kernel_rfl) (by kernel_rfl)
  have h7 := @run_callFunc_extern Tryd.prog 77 _ (ReflectliteValue.methodAny (ReflectliteValue.valueError "reflectlite.Value.Type" 0) (fun t _ _ _ => ReflectliteType.toType t)) Tryd.func77 (by kernel_rfl) (by kernel_rfl) (by kernel_rfl) (by kernel_rfl)
  have h8 := @run_callFunc_extern Tryd.prog 78 _ (ReflectliteValue.method (ReflectliteValue.valueError "reflectlite.Value.IsNil" 0) ReflectliteValue.isNil) Tryd.func78 (by kernel_rfl) (by kernel_rfl) (by kernel_rfl) (by kernel_rfl)
  have h27 := @run_callFunc_extern Tryd.prog 102 _ (ReflectliteType.abiMethod fun t => do pure (.int .u8 (← Rtype.kind t))) Tryd.func102 (by kernel_rfl) (by kernel_rfl) (by kernel_rfl) (by kernel_rfl)
  have h37 := @run_callFunc_extern Tryd.prog 113 _ (ReflectliteType.method ReflectliteType.elem) Tryd.func113 (by kernel_rfl) (by kernel_rfl) (by kernel_rfl) (by kernel_rfl)
  have h38 := @run_callFunc_extern Tryd.prog 114 _ (ReflectliteType.relation "Implements" ReflectliteType.implements_) Tryd.func114 (by kernel_rfl) (by kernel_rfl) (by kernel_rfl) (by kernel_rfl)
  have h10 := @run_callFunc_extern Tryd.prog 84 _ ReflectliteType.typeOf Tryd.func84 (by kernel_rfl) (by kernel_rfl) (by kernel_rfl) (by kernel_rfl)
  have h35 := @run_callFunc_extern Tryd.prog 111 _ (ReflectliteType.relation "AssignableTo" ReflectliteType.assignableTo) Tryd.func111 (by kernel_rfl) (by kernel_rfl) (by kernel_rfl) (by kernel_rfl)
  have h11 := @run_callFunc_extern Tryd.prog 85 _ (ReflectliteValue.method (ReflectliteValue.valueError "reflectlite.Value.Elem" 0) ReflectliteValue.elem) Tryd.func85 (by kernel_rfl) (by kernel_rfl) (by kernel_rfl) (by kernel_rfl)
  have h12 := @run_callFunc_extern Tryd.prog 86 _ ReflectliteValue.set Tryd.func86 (by kernel_rfl) (by kernel_rfl) (by kernel_rfl) (by kernel_rfl)
  have tO := Tryd.typeOf25
  have mA := Tryd.methodAssignableTo
  have a25 := Tryd.assignable25
  have v25 := Tryd.valueOf25
  have f6 := Tryd.valueOf27
  have f7 := Tryd.type27
  have mK := Tryd.methodKind
  have mE := Tryd.methodElem
  have mI := Tryd.methodImplements
  have k27 := Tryd.kind27
  have k25 := Tryd.kind25
  have e27 := Tryd.elem27
  have i25 := Tryd.implements25
  have n8 := Tryd.isNil27 ⟨w.heap.size, 0, none⟩ t ((w.alloc (.cells #[.pointer (some t)] 96)).alloc (.cells #[.pointer (some ⟨1, 96, none⟩), .pointer (some ⟨w.heap.size, 0, none⟩), .int .u64 150] 125)) (by simp)
  have hlt : 0 < w.heap.size := by
    rcases Nat.eq_zero_or_pos w.heap.size with h0 | h
    · simp [World.cell?, h0] at hg
    · exact h
  have hg2 : ((w.alloc (.cells #[.pointer (some t)] 96)).alloc (.cells #[.pointer (some ⟨1, 96, none⟩), .pointer (some ⟨w.heap.size, 0, none⟩), .int .u64 150] 125)).cell? ⟨0, 0, none⟩ = some (.iface 139 (.agg #[.pointer (some ⟨1, 28, none⟩)])) := by
    rw [World.cell?_alloc_lt _ _ ⟨0, 0, none⟩ (by simp), World.cell?_alloc_lt _ _ ⟨0, 0, none⟩ hlt]; exact hg
  have htl : t.block < w.heap.size := by
    rcases Nat.lt_or_ge t.block w.heap.size with h | h
    · exact h
    · simp [World.cell?, Array.getElem?_eq_none h] at ht0
  have el := Tryd.elemV27 ⟨w.heap.size, 0, none⟩ t (((w.alloc (.cells #[.pointer (some t)] 96)).alloc (.cells #[.pointer (some ⟨1, 96, none⟩), .pointer (some ⟨w.heap.size, 0, none⟩), .int .u64 150] 125)).alloc (.cells #[.pointer (some ⟨1, 96, none⟩), .pointer (some ⟨w.heap.size, 0, none⟩), .int .u64 150] 125)) (by rw [World.cell?_alloc_lt _ _ ⟨w.heap.size, 0, none⟩ (by simp; omega)]; simp)
  have st := Tryd.set25 t ⟨w.heap.size + 1 + 1 + 1, 0, none⟩ e old ((((w.alloc (.cells #[.pointer (some t)] 96)).alloc (.cells #[.pointer (some ⟨1, 96, none⟩), .pointer (some ⟨w.heap.size, 0, none⟩), .int .u64 150] 125)).alloc (.cells #[.pointer (some ⟨1, 96, none⟩), .pointer (some ⟨w.heap.size, 0, none⟩), .int .u64 150] 125)).alloc (.cells #[.pointer (some e)] 94))
    (by rw [World.cell?_alloc_at _ _ _ _ (by simp)]; rfl)
    (by rw [World.cell?_alloc_lt _ _ t (by simp; omega), World.cell?_alloc_lt _ _ t (by simp; omega), World.cell?_alloc_lt _ _ t (by simp; omega), World.cell?_alloc_lt _ _ t htl]; exact ht0)
    (by rw [World.frozen?_alloc_old _ _ t (by simp; omega), World.frozen?_alloc_old _ _ t (by simp; omega), World.frozen?_alloc_old _ _ t (by simp; omega), World.frozen?_alloc_old _ _ t (Nat.ne_of_lt htl)]; exact hf0)
  go_enter Tryd.func57, Tryd.ntmps57
  go_wp2
  refine wp_loop_rounds 1 ?_
  rw [rounds_succ]
  go_wp2
  go_ret
  exact ⟨rfl, rfl⟩
end Go.Proofs.YtggeboakilalhaaDoor
namespace Go.Proofs.YtggeboakilalhaaDoor
open Go Go.Va
set_option linter.unusedVariables false
set_option linter.unusedSimpArgs false
def gls : List (Addr × Value) := [(⟨0, 0, none⟩, .iface 139 (.agg #[.pointer (some ⟨1, 28, none⟩)]))]
section
variable {P : Program} {Ty : TypeId → Option TI} {fr : Nat → AV} {d : Option Tmp} {t : TypeId} {pos : String} {af : Array Edge} {g : Option (Nat × Bool)} {ox oy : Operand} {T T' : TypeId}
theorem o_err_eql (hT : TyOk P Ty) {x : Err} (ht : tdOf Ty T = .iface) (hx : aeval fr ox = eErr x) (hy : oy = .const .nilIface) : OpP P ⟨d, .binOp .eql T ox oy T', t, pos, af, g⟩ fr (eB x.isNil) := by
  subst hy
  refine OpP.of_aop' hT (mu := false) rfl (fun τ => ?_)
  have h2 : aeval fr (.const .nilIface) = .nili := rfl
  simp only [aop, hx, h2]
  cases x with
  | nil => simp [eErr, abin', abin, ht, isC, aeq, pairO, Err.isNil, eB]
  | fault o a c u => simp [eErr, abin', abin, ht, isC, aeq, pairO, Err.isNil, eB]
theorem o_err_neq (hT : TyOk P Ty) {x : Err} (ht : tdOf Ty T = .iface) (hx : aeval fr ox = eErr x) (hy : oy = .const .nilIface) : OpP P ⟨d, .binOp .neq T ox oy T', t, pos, af, g⟩ fr (eB (!x.isNil)) := by
  subst hy
  refine OpP.of_aop' hT (mu := false) rfl (fun τ => ?_)
  have h2 : aeval fr (.const .nilIface) = .nili := rfl
  simp only [aop, hx, h2]
  cases x with
  | nil => simp [eErr, abin', abin, ht, isC, aeq, pairO, Err.isNil, eB]
  | fault o a c u => simp [eErr, abin', abin, ht, isC, aeq, pairO, Err.isNil, eB]
end
def Err.ptr : Err → AV
  | .nil => .nilp
  | .fault o a c u => .fptr [eS o, eI a, eI c, eErr u] 0
theorem as_ok {x : Err} (hx : x.isNil = false) {σ : St} {id : Nat} (ho : σ.objs[id]? = some [.nilp]) (hg : σ.gl = gls) : ACall Tryd.prog 57 [eErr x, .iface 96 (.ref id 0)] σ (fun a τ => a = eB true ∧ τ = σ.puts [(id, [x.ptr])]) := by
  cases x with
  | nil => cases hx
  | fault o a c u =>
    refine ⟨⟨_, Tryd.func57, by decide, rfl⟩, fun w0 G w vs hI hr => ?_⟩
    obtain ⟨v0, h0, r0⟩ := hr.get (i := 0) rfl
    obtain ⟨v1, h1, r1⟩ := hr.get (i := 1) rfl
    have hvs : vs = #[v0, v1] := by
      obtain ⟨l⟩ := vs
      have hl := hr.len
      simp only [List.length_cons, List.length_nil] at hl h0 h1
      match l, hl, h0, h1 with
      | [x, y], _, h0, h1 => simp at h0 h1; subst h0; subst h1; rfl
    subst hvs
    simp only [eErr] at r0
    cases r0 with | iface _ v0 _ r0 =>
    cases r1 with | iface _ v1 _ r1 =>
    cases r0 with | fptr b o' off _ val hf hv =>
    cases r1 with | ref _ _ b1 hl =>
    obtain ⟨b2, T, cs, e1, e2, e3, e4, e5, e6⟩ := hI.loc id _ ho (by simp) rfl
    rw [hl] at e1
    cases e1
    obtain ⟨u1, hu1, ru1⟩ := e4.rel.get (i := 0) rfl
    have hcs : cs[0]? = some (.pointer none) := by
      cases ru1
      rw [List.getElem?_take] at hu1
      simpa using hu1
    have hsz : 1 ≤ cs.size := e4.le
    have hglob := hI.below
    have hg0 : w0.cell? ⟨0, 0, none⟩ = some (.iface 139 (.agg #[.pointer (some ⟨1, 28, none⟩)])) := hI.gl _ (by rw [hg]; exact List.mem_singleton.2 rfl)
    have hg1 : w.cell? ⟨0, 0, none⟩ = some (.iface 139 (.agg #[.pointer (some ⟨1, 28, none⟩)])) := by
      have hb := World.block_lt_of_cell? w0 _ hg0
      simp only [World.cell?] at hg0 ⊢
      rw [hI.below.block _ hb]; exact hg0
    have hc : w.cell? ⟨b1, 0, none⟩ = some (.pointer none) := by simp [World.cell?, e3, hcs]
    have hfz : w.frozen? ⟨b1, 0, none⟩ = false := by simp [World.frozen?, e3]
    refine (as_hit ⟨b, o' + 0, none⟩ ⟨b1, 0, none⟩ (.pointer none) w hg1 hc hfz).mono ?_
    rintro e w' ⟨rfl, rfl⟩
    have k1 := hI.alloc_fz #[.pointer (some ⟨b1, 0, none⟩)] 96 (by simp [Value.oneCell']) (0, 0)
    have k2 := k1.2.alloc_fz #[.pointer (some ⟨1, 96, none⟩), .pointer (some ⟨w.heap.size, 0, none⟩), .int .u64 150] 125 (by simp [Value.oneCell']) (0, 0)
    have k3 := k2.2.alloc_fz #[.pointer (some ⟨1, 96, none⟩), .pointer (some ⟨w.heap.size, 0, none⟩), .int .u64 150] 125 (by simp [Value.oneCell']) (0, 0)
    have k4 := k3.2.alloc_fz #[.pointer (some ⟨b, o' + 0, none⟩)] 94 (by simp [Value.oneCell']) (0, 0)
    have hle := k1.1.trans (k2.1.trans (k3.1.trans k4.1))
    have hb1 : b1 < w.heap.size := (Array.getElem?_eq_some_iff.1 e3).1
    have k5 := k4.2.write (id := id) (off := 0) (news := [.pointer (some ⟨b, o' + 0, none⟩)]) (nc := [.fptr [eS o, eI a, eI c, eErr u] 0]) ho (hle.loc _ _ hl) (by simp) rfl ((RelL.nil _).cons (.fptr b o' 0 _ val (fun j a h1 => hle.fz _ _ _ (hf j a h1)) (fun j a h1 => (hv j a h1).mono hle))) (by simp [Value.oneCell']) (by simp) (by rw [hle.bsz _ _ hl, ← e6]; simpa using hsz)
    refine ⟨.bool true, eB true, _, _, rfl, hle, ?_, .bool true, rfl, rfl⟩
    simp only [World.setCells, List.take_zero, List.nil_append, List.length_cons, List.length_nil, List.drop_succ_cons, List.drop_zero, List.drop_nil, List.append_nil] at k5
    exact k5
end Go.Proofs.YtggeboakilalhaaDoor
namespace Go.Proofs.YtggeboakilalhaaDoor
open Go Go.Va
set_option linter.unusedVariables false
set_option linter.unusedSimpArgs false
set_option maxRecDepth 20000
theorem trouble_New_ok {x0 : List (BitVec 8)} {x1 : Int} {x2 : Int} {r : Err} (H : trouble_New x0 x1 x2 = some r) (σ : St)  : ACall Tryd.prog 26 [(eS x0), (eI x1), (eI x2)] σ (fun a τ => a = eErr r ∧ τ = σ) := by
 unfold trouble_New at H
 refine ACall.pure (acall_start tk Tryd.func26 (by decide) rfl (nb rfl) ?_)
 have hH := Holds.init σ
 refine sr rfl (ma tk (eErr Err.nil) rfl rfl (wpo_nil (awp_seq (sr rfl (mm tk (eI x2) rfl rfl ?_)))))
 refine l_ H eB rfl (o_ar tk rfl rfl rfl) fun v2 H1 => ?_
 refine wpo_nil ?_
 refine awp_if H1 rfl (fun H3 => ?_) (fun H3 => ?_)
 ·refine sr rfl (ma tk (eErr Err.nil) rfl rfl (wpo_nil (awp_ret ?_)))
  obtain rfl := oi H3
  exact ⟨_, (eErr Err.nil), rfl, wr, .of_eq (encErr.cut _ _ _), hH.noT⟩
 ·refine awp_skip (sr rfl (mm tk (eS x0) rfl rfl (mm tk (eI x1) rfl rfl (mm tk (eI x2) rfl rfl ?_))))
  refine l_ H3 e_trouble_fault rfl (o_c tk false rfl (fun _ => rfl)) fun v5 H4 => ?_
  refine m_ (.fptr (c_trouble_fault v5) 0) rfl (o_boxf tk rfl wr (b := (e_trouble_fault v5)) (enc98.flat _)) (mc tk (eErr (Err.fault v5.op v5.at_ v5.code v5.under)) rfl rfl (fun _ => rfl) (ma tk (eErr (Err.fault v5.op v5.at_ v5.code v5.under)) rfl rfl (wpo_nil (awp_ret ?_))))
  obtain rfl := oi H4
  exact ⟨_, (eErr (Err.fault v5.op v5.at_ v5.code v5.under)), rfl, wr, .of_eq (encErr.cut _ _ _), hH.noT⟩
theorem trouble_Wrap_ok {x0 : List (BitVec 8)} {x1 : Int} {x2 : Err} {r : Err} (H : trouble_Wrap x0 x1 x2 = some r) (σ : St)  : ACall Tryd.prog 28 [(eS x0), (eI x1), (eErr x2)] σ (fun a τ => a = eErr r ∧ τ = σ) := by
 unfold trouble_Wrap at H
 refine ACall.pure (acall_start tk Tryd.func28 (by decide) rfl (nb rfl) ?_)
 have hH := Holds.init σ
 refine sr rfl (ma tk (eErr Err.nil) rfl rfl (wpo_nil (awp_seq (sr rfl (mm tk (eErr x2) rfl rfl ?_)))))
 refine l_ H eB rfl (o_err_eql tk rfl rfl rfl) fun v2 H1 => ?_
 refine wpo_nil ?_
 refine awp_if H1 rfl (fun H3 => ?_) (fun H3 => ?_)
 ·refine sr rfl (ma tk (eErr Err.nil) rfl rfl (wpo_nil (awp_ret ?_)))
  obtain rfl := oi H3
  exact ⟨_, (eErr Err.nil), rfl, wr, .of_eq (encErr.cut _ _ _), hH.noT⟩
 ·refine awp_skip (sr rfl (mm tk (eS x0) rfl rfl (mm tk (eI x1) rfl rfl (mm tk (eErr x2) rfl rfl ?_))))
  refine l_ H3 e_trouble_fault rfl (o_c tk false rfl (fun _ => by generalize x2 = z0; cases z0 <;> rfl)) fun v5 H4 => ?_
  refine m_ (.fptr (c_trouble_fault v5) 0) rfl (o_boxf tk rfl wr (b := (e_trouble_fault v5)) (enc98.flat _)) (mc tk (eErr (Err.fault v5.op v5.at_ v5.code v5.under)) rfl rfl (fun _ => rfl) (ma tk (eErr (Err.fault v5.op v5.at_ v5.code v5.under)) rfl rfl (wpo_nil (awp_ret ?_))))
  obtain rfl := oi H4
  exact ⟨_, (eErr (Err.fault v5.op v5.at_ v5.code v5.under)), rfl, wr, .of_eq (encErr.cut _ _ _), hH.noT⟩
theorem octets_Key_ok {x0 : List (BitVec 8)} {r : Int} (H : octets_Key x0 = some r) (σ : St)  : ACall Tryd.prog 58 [(eS x0)] σ (fun a τ => a = eI r ∧ τ = σ) := by
 unfold octets_Key at H
 refine ACall.pure (acall_start tk Tryd.func58 (by decide) rfl (nb rfl) ?_)
 have hH := Holds.init σ
 refine sr rfl (ma tk (eI (0 : Int)) rfl rfl (wpo_nil (awp_seq (sr rfl (mm tk (eS x0) rfl rfl ?_)))))
 refine l_ H eI rfl (o_len_s tk td9 rfl) fun v2 H1 => ?_
 refine ma tk (eI v2) rfl rfl (wpo_nil (awp_block (sr rfl (mm tk (eI v2) rfl rfl ?_))))
 refine l_ H1 eB rfl (o_ar tk rfl rfl rfl) fun v4 H3 => ?_
 refine ma tk (eB v4) rfl rfl (wpo_nil ?_)
 refine awp_if H3 rfl (fun H5 => ?_) (fun H5 => ?_)
 ·refine sr rfl (ma tk (eI (1 : Int)) rfl rfl (wpo_nil (awp_ret ?_)))
  obtain rfl := oi H5
  exact ⟨_, (eI (1 : Int)), rfl, wr, .of_eq ((enc_i64 td34 sz34).cut _ _ _), hH.noT⟩
 ·refine sr rfl (mm tk (eI v2) rfl rfl ?_)
  refine l_ H5 eB rfl (o_ar tk rfl rfl rfl) fun v7 H6 => ?_
  refine ma tk (eB v7) rfl rfl (wpo_nil ?_)
  refine awp_if H6 rfl (fun H8 => ?_) (fun H8 => ?_)
  ·refine sr rfl (ma tk (eI (3 : Int)) rfl rfl (wpo_nil (awp_ret ?_)))
   obtain rfl := oi H8
   exact ⟨_, (eI (3 : Int)), rfl, wr, .of_eq ((enc_i64 td34 sz34).cut _ _ _), hH.noT⟩
  ·refine awp_skip (sr rfl (ma tk (eI (0 : Int)) rfl rfl (wpo_nil (awp_ret ?_))))
   obtain rfl := oi H8
   exact ⟨_, (eI (0 : Int)), rfl, wr, .of_eq ((enc_i64 td34 sz34).cut _ _ _), hH.noT⟩
theorem item_Check_1_c_ok {x0 : List (BitVec 8)} {x1 : Int} {x2 : Int} {x3 : Err} {r : Err} (H : item_Check_1_c x0 x1 x2 x3 = some r) (σ : St) {p3 : Nat} (h3 : σ.objs[p3]? = some [eErr x3]) : ACall Tryd.prog 59 [(eS x0), (eI x1), (eI x2), (.ref p3 0)] σ (fun a τ => a = .tup [] ∧ τ = σ.puts [(p3, [eErr r])]) := by
 unfold item_Check_1_c at H
 refine ACall.out [(p3, [eErr r])] (by simp only [List.mem_cons, List.not_mem_nil, or_false]; rintro _ (rfl) ρ κ <;> exact (by simp only [cutL, encErr.cut ρ κ])) (acall_start tk Tryd.func59 (by decide) rfl (nb rfl) ?_)
 have hH := Holds.init σ
 have hH := hH.bring h3 (fun _ h => by cases h)
 refine awp_seq ?_
 obtain ⟨s1, hs3, hj4⟩ := ob H
 refine awp_cutn (fun fr τ => WkF fr (fm [(0, (eS x0)), (1, (eI x1)), (3, (.ref p3 0)), (17, (eB s1))]) ∧ Holds σ [(p3, [eErr x3])] [] τ) ?_ ?_
 ·rintro fr τ ⟨hfr, hH⟩
  have H13 := hj4
  refine AWP.fm [(0, (eS x0)), (1, (eI x1)), (3, (.ref p3 0)), (17, (eB s1))] hfr ?_
  refine awp_if H13 rfl (fun H14 => ?_) (fun H14 => ?_)
  ·refine awp_region rfl (mm tk (eS x0) rfl rfl (mm tk (eI x1) rfl rfl ?_))
   refine b_ H14 eErr rfl (fun v16 hv => OpP.of_call rfl rfl (.cons wr (.cons wr (.cons wr .nil))) (trouble_New_ok hv)) fun v16 hv16 H15 => ?_
   obtain ⟨c18, hc19, H17⟩ := lt_ex H15
   refine wpo_z rfl rfl (h_st tk hH 0 rfl ty28 (by simp) rfl rfl wr (b := (eErr v16)) (encErr.flat _) (by rw [show (eErr _).cells = [eErr _] from encErr.one rfl _]; rfl) (nb rfl) [eErr c18] (by rw [← hc19, show (eErr _).cells = [eErr _] from encErr.one rfl _]; rfl) (hsp := nsp_err _)) fun τ hH => ?_
   refine wpo_nil ?_
   obtain rfl := oi H17
   exact ⟨_, (.tup []), rfl, wr, .of_eq rfl, hH.noT⟩
  ·refine awp_skip ?_
   obtain rfl := oi H14
   exact ⟨_, (.tup []), rfl, wr, .of_eq rfl, hH.noT⟩
 ·refine awp_region rfl (wpo_rd (a := (eErr x3)) rfl rfl rfl (h_ld tk hH 0 rfl rfl rfl (hsp := nsp_err _)) ?_)
  refine l_ hs3 eB rfl (o_err_eql tk rfl rfl rfl) fun v6 H5 => ?_
  refine mm tk (eB v6) rfl rfl ?_
  refine if_split H5 (fun hb H7 => ?_) (fun hb H7 => ?_)
  ·subst hb
   refine mm tk (eI x1) rfl rfl (mm tk (eI x2) rfl rfl ?_)
   refine l_ H7 eB rfl (o_ar tk rfl rfl rfl) fun v9 H8 => ?_
   refine mm tk (eB v9) rfl rfl ?_
   refine if_split H8 (fun hb H10 => ?_) (fun hb H10 => ?_)
   ·subst hb
    refine k_ rfl (k_ rfl (pt tk (eB true) rfl rfl rfl (pt tk (eB true) rfl rfl rfl (wpo_nil ?_))))
    have e := oi H10
    subst e
    exact ⟨(wc (wc (wc (wc (wkf_nil _))))), hH⟩
   ·subst hb
    refine mm tk (eI x1) rfl rfl ?_
    refine l_ H10 eB rfl (o_ar tk rfl rfl rfl) fun v12 H11 => ?_
    refine pf tk (eB v12) rfl rfl rfl (pt tk (eB v12) rfl rfl rfl (wpo_nil ?_))
    have e := oi H11
    subst e
    exact ⟨(wc (wc (wc (wc (wkf_nil _))))), hH⟩
  ·subst hb
   refine k_ rfl (k_ rfl (k_ rfl (k_ rfl (k_ rfl (k_ rfl (k_ rfl (pf tk (eB false) rfl rfl rfl (wpo_nil ?_))))))))
   have e := oi H7
   subst e
   exact ⟨(wc (wc (wc (wc (wkf_nil _))))), hH⟩
theorem item_Check_ok {x0 : aEn} {r : Err} (H : item_Check x0 = some r) (σ : St)  : ACall Tryd.prog 30 [(e_aEn x0)] σ (fun a τ => a = eErr r ∧ τ = σ) := by
 unfold item_Check at H
 refine ACall.pure (acall_start tk Tryd.func30 (by decide) rfl (nb rfl) ?_)
 have hH := Holds.init σ
 refine sr rfl (m_ (.fptr (c_aEn x0) 0) rfl (o_boxf tk rfl wr (b := (e_aEn x0)) (enc39.flat _)) (ma tk (eErr Err.nil) rfl rfl (wpo_nil (awp_seq (sr rfl (mc tk (.fptr (c_aEn x0) 0) rfl rfl (fun _ => rfl) (m_ (eS x0.Key) rfl (o_ld tk rfl rfl) ?_)))))))
 refine b_ H eI rfl (fun v2 hv => OpP.of_call rfl rfl (.cons wr .nil) (octets_Key_ok hv)) fun v2 hv2 H1 => ?_
 refine ma tk (eI v2) rfl rfl (wpo_nil (sr rfl (mm tk (eI v2) rfl rfl ?_)))
 refine l_ H1 eB rfl (o_ar tk rfl rfl rfl) fun v4 H3 => ?_
 refine wpo_nil ?_
 refine awp_if H3 rfl (fun H5 => ?_) (fun H5 => ?_)
 ·refine sr rfl (mc tk (.fptr (c_aEn x0) 0) rfl rfl (fun _ => rfl) (m_ (eS x0.Key) rfl (o_ld tk rfl rfl) ?_))
  refine l_ H5 eI rfl (o_len_s tk td9 rfl) fun v7 H6 => ?_
  refine mm tk (eI v2) rfl rfl ?_
  refine b_ H6 eErr rfl (fun v9 hv => OpP.of_call rfl rfl (.cons wr (.cons wr (.cons wr .nil))) (trouble_New_ok hv)) fun v9 hv9 H8 => ?_
  refine ma tk (eErr v9) rfl rfl (wpo_nil (awp_ret ?_))
  obtain rfl := oi H8
  exact ⟨_, (eErr v9), rfl, wr, .of_eq (encErr.cut _ _ _), hH.noT⟩
 ·refine awp_skip (sr rfl ?_)
  refine wpo_a (av := fun id => .ref id 0) rfl rfl rfl (h_alloc tk hH ty28 [eErr Err.nil] rfl) fun id10 τ ⟨hH, n11⟩ => ?_
  refine wpo_nil (sr rfl (mc tk (.fn (.func 59) [] [(.ref id10 0)]) rfl rfl (fun _ => rfl) (ma tk (.fn (.func 59) [] [(.ref id10 0)]) rfl rfl (wpo_nil (sr rfl (mm tk (.fn (.func 59) [] [(.ref id10 0)]) rfl rfl (mc tk (.fptr (c_aEn x0) 1) rfl rfl (fun _ => rfl) (m_ (eI x0.Version) rfl (o_ld tk rfl rfl) ?_))))))))
  refine wpo_cb H5 (fun x _ => .tup []) rfl rfl rfl (fun v13 hv => h_call1 hH [(0, (id10, [eErr v13]))] ⟨⟨_, rfl⟩, trivial⟩ rfl rfl (.cons wr (.cons wr (.cons wr (.cons wr .nil)))) (item_Check_1_c_ok hv _ (hH.at_ 0 rfl))) fun v13 _ τ hv13 H12 hH => ?_
  refine wpo_nil (sr rfl (mm tk (.fn (.func 59) [] [(.ref id10 0)]) rfl rfl (mc tk (.fptr (c_aEn x0) 2) rfl rfl (fun _ => rfl) (m_ (eI x0.AsOf) rfl (o_ld tk rfl rfl) (mc tk (.fptr (c_aEn x0) 1) rfl rfl (fun _ => rfl) (m_ (eI x0.Version) rfl (o_ld tk rfl rfl) ?_))))))
  refine wpo_cb H12 (fun x _ => .tup []) rfl rfl rfl (fun v15 hv => h_call1 hH [(0, (id10, [eErr v15]))] ⟨⟨_, rfl⟩, trivial⟩ rfl rfl (.cons wr (.cons wr (.cons wr (.cons wr .nil)))) (item_Check_1_c_ok hv _ (hH.at_ 0 rfl))) fun v15 _ τ hv15 H14 hH => ?_
  refine wpo_nil (sr rfl (mm tk (.fn (.func 59) [] [(.ref id10 0)]) rfl rfl (mc tk (.fptr (c_aEn x0) 3) rfl rfl (fun _ => rfl) (m_ (eI x0.Ends) rfl (o_ld tk rfl rfl) ?_))))
  refine wpo_cb H14 (fun x _ => .tup []) rfl rfl rfl (fun v17 hv => h_call1 hH [(0, (id10, [eErr v17]))] ⟨⟨_, rfl⟩, trivial⟩ rfl rfl (.cons wr (.cons wr (.cons wr (.cons wr .nil)))) (item_Check_1_c_ok hv _ (hH.at_ 0 rfl))) fun v17 _ τ hv17 H16 hH => ?_
  refine wpo_nil (awp_seq (awp_seq ?_))
  obtain ⟨s18, hs20, hj21⟩ := ob H16
  refine awp_cutn (fun fr τ => WkF fr (fm [(1, (.fptr (c_aEn x0) 0)), (4, (.ref id10 0)), (38, (eB s18))]) ∧ Holds σ [(id10, [eErr v17])] [] τ) ?_ ?_
  ·rintro fr τ ⟨hfr, hH⟩
   have H29 := hj21
   refine AWP.fm [(1, (.fptr (c_aEn x0) 0)), (4, (.ref id10 0)), (38, (eB s18))] hfr ?_
   refine awp_if H29 rfl (fun H30 => ?_) (fun H30 => ?_)
   ·refine awp_region rfl (mc tk (.fptr (c_aEn x0) 4) rfl rfl (fun _ => rfl) (m_ ((eL 1 (@eU .u8 8)) x0.Value) rfl (o_ld tk rfl rfl) ?_))
    refine l_ H30 eI rfl (o_len tk td37 rfl) fun v32 H31 => ?_
    refine b_ H31 eErr rfl (fun v34 hv => OpP.of_call rfl rfl (.cons wr (.cons wr (.cons wr .nil))) (trouble_New_ok hv)) fun v34 hv34 H33 => ?_
    obtain ⟨c36, hc37, H35⟩ := lt_ex H33
    refine wpo_z rfl rfl (h_st tk hH 0 rfl ty28 (by simp) rfl rfl wr (b := (eErr v34)) (encErr.flat _) (by rw [show (eErr _).cells = [eErr _] from encErr.one rfl _]; rfl) (nb rfl) [eErr c36] (by rw [← hc37, show (eErr _).cells = [eErr _] from encErr.one rfl _]; rfl) (hsp := nsp_err _)) fun τ hH => ?_
    refine wpo_nil (sr rfl (wpo_rd (a := (eErr c36)) rfl rfl rfl (h_ld tk hH 0 rfl rfl rfl (hsp := nsp_err _)) (ma tk (eErr c36) rfl rfl (wpo_nil (awp_ret ?_)))))
    obtain rfl := oi H35
    exact ⟨_, (eErr c36), rfl, wr, .of_eq (encErr.cut _ _ _), (hH.noT.drop n11)⟩
   ·refine awp_skip (sr rfl (wpo_rd (a := (eErr v17)) rfl rfl rfl (h_ld tk hH 0 rfl rfl rfl (hsp := nsp_err _)) (ma tk (eErr v17) rfl rfl (wpo_nil (awp_ret ?_)))))
    obtain rfl := oi H30
    exact ⟨_, (eErr v17), rfl, wr, .of_eq (encErr.cut _ _ _), (hH.noT.drop n11)⟩
  ·refine awp_region rfl (wpo_rd (a := (eErr v17)) rfl rfl rfl (h_ld tk hH 0 rfl rfl rfl (hsp := nsp_err _)) ?_)
   refine l_ hs20 eB rfl (o_err_eql tk rfl rfl rfl) fun v23 H22 => ?_
   refine mm tk (eB v23) rfl rfl ?_
   refine if_split H22 (fun hb H24 => ?_) (fun hb H24 => ?_)
   ·subst hb
    refine mc tk (.fptr (c_aEn x0) 4) rfl rfl (fun _ => rfl) (m_ ((eL 1 (@eU .u8 8)) x0.Value) rfl (o_ld tk rfl rfl) ?_)
    refine l_ H24 eI rfl (o_len tk td37 rfl) fun v26 H25 => ?_
    refine l_ H25 eB rfl (o_ar tk rfl rfl rfl) fun v28 H27 => ?_
    refine pt tk (eB v28) rfl rfl rfl (wpo_nil ?_)
    have e := oi H27
    subst e
    exact ⟨(wc (wc (wc (wkf_nil _)))), hH⟩
   ·subst hb
    refine k_ rfl (k_ rfl (k_ rfl (k_ rfl (pf tk (eB false) rfl rfl rfl (wpo_nil ?_)))))
    have e := oi H24
    subst e
    exact ⟨(wc (wc (wc (wkf_nil _)))), hH⟩
theorem octets_Len_n_ok : ∀ (k : Nat) {x0 : Int} {r : Int} (H : octets_Len_n k x0 = some r) (σ : St) , ACall Tryd.prog 60 [(eI x0)] σ (fun a τ => a = eI r ∧ τ = σ) := by
 intro k
 induction k with
 | zero => intro x0 r H; cases H
 | succ k ih =>
  intro x0 r H σ
  replace H : octets_Len_F (octets_Len_n k) x0 = some r := H
  unfold octets_Len_F at H
  refine ACall.pure (acall_start tk Tryd.func60 (by decide) rfl (nb rfl) ?_)
  have hH := Holds.init σ
  refine sr rfl (ma tk (eI (0 : Int)) rfl rfl (wpo_nil (sr rfl (ma tk (eI (1 : Int)) rfl rfl (wpo_nil (awp_seq (awp_block (awp_seq ?_))))))))
  refine awp_block (awp_seq (awp_block (awp_seq (awp_block (awp_seq (awp_block (awp_seq (awp_block ?_))))))))
  refine awp_seq (awp_seq (sr rfl (mm tk (eI x0) rfl rfl ?_)))
  refine l_ H eB rfl (o_ar tk rfl rfl rfl) fun v2 H1 => ?_
  refine ma tk (eB v2) rfl rfl (wpo_nil ?_)
  refine awp_if H1 rfl (fun H3 => ?_) (fun H3 => ?_)
  ·refine awp_exit (awp_seq (sr rfl (mm tk (eI x0) rfl rfl ?_)))
   refine l_ H3 eI rfl (o_shr tk (y := (35 : Int)) rfl rfl rfl) fun v5 H4 => ?_
   refine b_ H4 eI rfl (fun v7 hv => OpP.of_call rfl rfl (.cons wr .nil) (ih hv)) fun v7 hv7 H6 => ?_
   refine l_ H6 eI rfl (o_ar tk rfl rfl rfl) fun v9 H8 => ?_
   refine ma tk (eI v9) rfl rfl (wpo_nil (awp_ret ?_))
   obtain rfl := oi H8
   exact ⟨_, (eI v9), rfl, wr, .of_eq ((enc_i64 td3 sz3).cut _ _ _), hH.noT⟩
  ·refine awp_skip (awp_seq (sr rfl (mm tk (eI x0) rfl rfl ?_)))
   refine l_ H3 eB rfl (o_ar tk rfl rfl rfl) fun v11 H10 => ?_
   refine ma tk (eB v11) rfl rfl (wpo_nil ?_)
   refine awp_if H10 rfl (fun H12 => ?_) (fun H12 => ?_)
   ·refine awp_exit (awp_region rfl (mm tk (eI (1 : Int)) rfl rfl ?_))
    refine l_ H12 eI rfl (o_ar tk rfl rfl rfl) fun v14 H13 => ?_
    refine ma tk (eI v14) rfl rfl (wpo_nil (awp_region rfl (mm tk (eI v14) rfl rfl ?_)))
    refine l_ H13 eI rfl (o_ar tk rfl rfl rfl) fun v16 H15 => ?_
    refine ma tk (eI v16) rfl rfl (wpo_nil (awp_region rfl (mm tk (eI v16) rfl rfl ?_)))
    refine l_ H15 eI rfl (o_ar tk rfl rfl rfl) fun v18 H17 => ?_
    refine ma tk (eI v18) rfl rfl (wpo_nil (sr rfl (mm tk (eI v18) rfl rfl ?_)))
    refine l_ H17 eI rfl (o_ar tk rfl rfl rfl) fun v20 H19 => ?_
    refine ma tk (eI v20) rfl rfl (wpo_nil (awp_exit (sr rfl (mm tk (eI v20) rfl rfl (ma tk (eI v20) rfl rfl (wpo_nil (awp_ret ?_)))))))
    obtain rfl := oi H19
    exact ⟨_, (eI v20), rfl, wr, .of_eq ((enc_i64 td3 sz3).cut _ _ _), hH.noT⟩
   ·refine awp_skip (awp_seq (sr rfl (mm tk (eI x0) rfl rfl ?_)))
    refine l_ H12 eB rfl (o_ar tk rfl rfl rfl) fun v22 H21 => ?_
    refine ma tk (eB v22) rfl rfl (wpo_nil ?_)
    refine awp_if H21 rfl (fun H23 => ?_) (fun H23 => ?_)
    ·refine awp_exit (awp_region rfl (mm tk (eI (1 : Int)) rfl rfl ?_))
     refine l_ H23 eI rfl (o_ar tk rfl rfl rfl) fun v25 H24 => ?_
     refine ma tk (eI v25) rfl rfl (wpo_nil (awp_region rfl (mm tk (eI v25) rfl rfl ?_)))
     refine l_ H24 eI rfl (o_ar tk rfl rfl rfl) fun v27 H26 => ?_
     refine ma tk (eI v27) rfl rfl (wpo_nil (sr rfl (mm tk (eI v27) rfl rfl ?_)))
     refine l_ H26 eI rfl (o_ar tk rfl rfl rfl) fun v29 H28 => ?_
     refine ma tk (eI v29) rfl rfl (wpo_nil (awp_exit (sr rfl (mm tk (eI v29) rfl rfl (ma tk (eI v29) rfl rfl (wpo_nil (awp_ret ?_)))))))
     obtain rfl := oi H28
     exact ⟨_, (eI v29), rfl, wr, .of_eq ((enc_i64 td3 sz3).cut _ _ _), hH.noT⟩
    ·refine awp_skip (awp_seq (sr rfl (mm tk (eI x0) rfl rfl ?_)))
     refine l_ H23 eB rfl (o_ar tk rfl rfl rfl) fun v31 H30 => ?_
     refine ma tk (eB v31) rfl rfl (wpo_nil ?_)
     refine awp_if H30 rfl (fun H32 => ?_) (fun H32 => ?_)
     ·refine awp_exit (awp_region rfl (mm tk (eI (1 : Int)) rfl rfl ?_))
      refine l_ H32 eI rfl (o_ar tk rfl rfl rfl) fun v34 H33 => ?_
      refine ma tk (eI v34) rfl rfl (wpo_nil (sr rfl (mm tk (eI v34) rfl rfl ?_)))
      refine l_ H33 eI rfl (o_ar tk rfl rfl rfl) fun v36 H35 => ?_
      refine ma tk (eI v36) rfl rfl (wpo_nil (awp_exit (sr rfl (mm tk (eI v36) rfl rfl (ma tk (eI v36) rfl rfl (wpo_nil (awp_ret ?_)))))))
      obtain rfl := oi H35
      exact ⟨_, (eI v36), rfl, wr, .of_eq ((enc_i64 td3 sz3).cut _ _ _), hH.noT⟩
     ·refine awp_skip (sr rfl (mm tk (eI x0) rfl rfl ?_))
      refine l_ H32 eB rfl (o_ar tk rfl rfl rfl) fun v38 H37 => ?_
      refine ma tk (eB v38) rfl rfl (wpo_nil ?_)
      refine awp_if H37 rfl (fun H39 => ?_) (fun H39 => ?_)
      ·refine awp_exit (sr rfl (mm tk (eI (1 : Int)) rfl rfl ?_))
       refine l_ H39 eI rfl (o_ar tk rfl rfl rfl) fun v41 H40 => ?_
       refine ma tk (eI v41) rfl rfl (wpo_nil (awp_exit (sr rfl (mm tk (eI v41) rfl rfl (ma tk (eI v41) rfl rfl (wpo_nil (awp_ret ?_)))))))
       obtain rfl := oi H40
       exact ⟨_, (eI v41), rfl, wr, .of_eq ((enc_i64 td3 sz3).cut _ _ _), hH.noT⟩
      ·refine awp_skip (awp_exit (sr rfl (mm tk (eI (1 : Int)) rfl rfl (ma tk (eI (1 : Int)) rfl rfl (wpo_nil (awp_ret ?_))))))
       obtain rfl := oi H39
       exact ⟨_, (eI (1 : Int)), rfl, wr, .of_eq ((enc_i64 td3 sz3).cut _ _ _), hH.noT⟩
theorem octets_Len_ok {x0 : Int} {r : Int} (H : octets_Len x0 = some r) (σ : St)  : ACall Tryd.prog 60 [(eI x0)] σ (fun a τ => a = eI r ∧ τ = σ) := octets_Len_n_ok _ H σ
theorem item_Size_ok {x0 : aEn} {r : Int} (H : item_Size x0 = some r) (σ : St)  : ACall Tryd.prog 31 [(e_aEn x0)] σ (fun a τ => a = eI r ∧ τ = σ) := by
 unfold item_Size at H
 refine ACall.pure (acall_start tk Tryd.func31 (by decide) rfl (nb rfl) ?_)
 have hH := Holds.init σ
 refine sr rfl (m_ (.fptr (c_aEn x0) 0) rfl (o_boxf tk rfl wr (b := (e_aEn x0)) (enc39.flat _)) (ma tk (eI (0 : Int)) rfl rfl (wpo_nil (awp_seq ?_))))
 refine awp_drawS mixed [] rfl (by decide +kernel) rfl rfl ?_
 refine wpdS_mv (a := (.fptr (c_aEn x0) 0)) rfl rfl rfl (o_c tk false rfl (fun _ => rfl)) (wpdS_mv (a := (eS x0.Key)) rfl rfl rfl (o_ld tk rfl rfl) ?_)
 refine wpdS_lt H eI rfl rfl rfl (o_len_s tk td9 rfl) fun v2 H1 => ?_
 refine wpdS_bd H1 eI rfl rfl rfl (fun v4 hv => OpP.of_call rfl rfl (.cons wr .nil) (octets_Len_ok hv)) fun v4 hv4 H3 => ?_
 refine wpdS_mv (a := (.fptr (c_aEn x0) 0)) rfl rfl rfl (o_c tk false rfl (fun _ => rfl)) (wpdS_mv (a := (eS x0.Key)) rfl rfl rfl (o_ld tk rfl rfl) ?_)
 refine wpdS_lt H3 eI rfl rfl rfl (o_len_s tk td9 rfl) fun v6 H5 => ?_
 refine wpdS_lt H5 eI rfl rfl rfl (o_ar tk rfl rfl rfl) fun v8 H7 => ?_
 refine wpdS_mv (a := (.fptr (c_aEn x0) 4)) rfl rfl rfl (o_c tk false rfl (fun _ => rfl)) (wpdS_mv (a := ((eL 1 (@eU .u8 8)) x0.Value)) rfl rfl rfl (o_ld tk rfl rfl) ?_)
 refine wpdS_lt H7 eI rfl rfl rfl (o_len tk td37 rfl) fun v10 H9 => ?_
 refine wpdS_bd H9 eI rfl rfl rfl (fun v12 hv => OpP.of_call rfl rfl (.cons wr .nil) (octets_Len_ok hv)) fun v12 hv12 H11 => ?_
 refine wpdS_lt H11 eI rfl rfl rfl (o_ar tk rfl rfl rfl) fun v14 H13 => ?_
 refine wpdS_mv (a := (.fptr (c_aEn x0) 4)) rfl rfl rfl (o_c tk false rfl (fun _ => rfl)) (wpdS_mv (a := ((eL 1 (@eU .u8 8)) x0.Value)) rfl rfl rfl (o_ld tk rfl rfl) ?_)
 refine wpdS_lt H13 eI rfl rfl rfl (o_len tk td37 rfl) fun v16 H15 => ?_
 refine wpdS_lt H15 eI rfl rfl rfl (o_ar tk rfl rfl rfl) fun v18 H17 => ?_
 refine wpdS_mv (a := (eI v18)) rfl rfl rfl (o_as tk rfl (Wk.refl _)) (wpdS_nil (awp_seq ?_))
 refine awp_drawS mixed [] rfl (by decide +kernel) rfl rfl ?_
 refine wpdS_mv (a := (eI v18)) rfl rfl rfl (o_mv tk rfl (Wk.refl _)) (wpdS_mv (a := (.fptr (c_aEn x0) 1)) rfl rfl rfl (o_c tk false rfl (fun _ => rfl)) (wpdS_mv (a := (eI x0.Version)) rfl rfl rfl (o_ld tk rfl rfl) ?_))
 refine wpdS_bd H17 eI rfl rfl rfl (fun v20 hv => OpP.of_call rfl rfl (.cons wr .nil) (octets_Len_ok hv)) fun v20 hv20 H19 => ?_
 refine wpdS_lt H19 eI rfl rfl rfl (o_ar tk rfl rfl rfl) fun v22 H21 => ?_
 refine wpdS_mv (a := (.fptr (c_aEn x0) 2)) rfl rfl rfl (o_c tk false rfl (fun _ => rfl)) (wpdS_mv (a := (eI x0.AsOf)) rfl rfl rfl (o_ld tk rfl rfl) ?_)
 refine wpdS_bd H21 eI rfl rfl rfl (fun v24 hv => OpP.of_call rfl rfl (.cons wr .nil) (octets_Len_ok hv)) fun v24 hv24 H23 => ?_
 refine wpdS_lt H23 eI rfl rfl rfl (o_ar tk rfl rfl rfl) fun v26 H25 => ?_
 refine wpdS_mv (a := (.fptr (c_aEn x0) 3)) rfl rfl rfl (o_c tk false rfl (fun _ => rfl)) (wpdS_mv (a := (eI x0.Ends)) rfl rfl rfl (o_ld tk rfl rfl) ?_)
 refine wpdS_bd H25 eI rfl rfl rfl (fun v28 hv => OpP.of_call rfl rfl (.cons wr .nil) (octets_Len_ok hv)) fun v28 hv28 H27 => ?_
 refine wpdS_lt H27 eI rfl rfl rfl (o_ar tk rfl rfl rfl) fun v30 H29 => ?_
 refine wpdS_mv (a := (eI v30)) rfl rfl rfl (o_as tk rfl (Wk.refl _)) (wpdS_nil (awp_ret ?_))
 obtain rfl := oi H29
 exact ⟨_, (eI v30), rfl, wr, .of_eq ((enc_i64 td3 sz3).cut _ _ _), hH.noT⟩
theorem item_Live_ok {x0 : aEn} {x1 : Int} {r : Bool} (H : item_Live x0 x1 = some r) (σ : St)  : ACall Tryd.prog 32 [(e_aEn x0), (eI x1)] σ (fun a τ => a = eB r ∧ τ = σ) := by
 unfold item_Live at H
 refine ACall.pure (acall_start tk Tryd.func32 (by decide) rfl (nb rfl) ?_)
 have hH := Holds.init σ
 refine sr rfl (m_ (.fptr (c_aEn x0) 0) rfl (o_boxf tk rfl wr (b := (e_aEn x0)) (enc39.flat _)) (ma tk (eB false) rfl rfl (wpo_nil (sr rfl (mc tk (.fptr (c_aEn x0) 3) rfl rfl (fun _ => rfl) (m_ (eI x0.Ends) rfl (o_ld tk rfl rfl) ?_))))))
 refine l_ H eB rfl (o_ar tk rfl rfl rfl) fun v2 H1 => ?_
 refine mm tk (eB v2) rfl rfl ?_
 refine if_split H1 (fun hb H3 => ?_) (fun hb H3 => ?_)
 ·subst hb
  refine k_ rfl (k_ rfl (k_ rfl (k_ rfl (pt tk (eB true) rfl rfl rfl (ma tk (eB true) rfl rfl (wpo_nil (awp_ret ?_)))))))
  obtain rfl := oi H3
  exact ⟨_, (eB true), rfl, wr, .of_eq ((enc_b td4 sz4).cut _ _ _), hH.noT⟩
 ·subst hb
  refine mc tk (.fptr (c_aEn x0) 3) rfl rfl (fun _ => rfl) (m_ (eI x0.Ends) rfl (o_ld tk rfl rfl) (mm tk (eI x1) rfl rfl ?_))
  refine l_ H3 eB rfl (o_ar tk rfl rfl rfl) fun v5 H4 => ?_
  refine pf tk (eB v5) rfl rfl rfl (ma tk (eB v5) rfl rfl (wpo_nil (awp_ret ?_)))
  obtain rfl := oi H4
  exact ⟨_, (eB v5), rfl, wr, .of_eq ((enc_b td4 sz4).cut _ _ _), hH.noT⟩
theorem slab_Size_ok {x0 : Int} {r : Int} (H : slab_Size x0 = some r) (σ : St)  : ACall Tryd.prog 37 [(eI x0)] σ (fun a τ => a = eI r ∧ τ = σ) := by
 unfold slab_Size at H
 refine ACall.pure (acall_start tk Tryd.func37 (by decide) rfl (nb rfl) ?_)
 have hH := Holds.init σ
 refine sr rfl (ma tk (eI (0 : Int)) rfl rfl (wpo_nil (awp_seq (awp_seq ?_))))
 obtain ⟨s1, hs3, hj4⟩ := ob H
 refine awp_cutn (fun fr τ => WkF fr (fm [(0, (eI x0)), (8, (eB s1))]) ∧ Holds σ [] [] τ) ?_ ?_
 ·rintro fr τ ⟨hfr, hH⟩
  have H10 := hj4
  refine AWP.fm [(0, (eI x0)), (8, (eB s1))] hfr ?_
  refine awp_if H10 rfl (fun H11 => ?_) (fun H11 => ?_)
  ·refine sr rfl (ma tk (eI (0 : Int)) rfl rfl (wpo_nil (awp_ret ?_)))
   obtain rfl := oi H11
   exact ⟨_, (eI (0 : Int)), rfl, wr, .of_eq ((enc_i64 td3 sz3).cut _ _ _), hH.noT⟩
  ·refine awp_skip (sr rfl (mm tk (eI x0) rfl rfl ?_))
   refine b_ H11 eI rfl (fun v13 hv => om_shl tk hv rfl rfl) fun v13 hv13 H12 => ?_
   refine ma tk (eI v13) rfl rfl (wpo_nil (awp_ret ?_))
   obtain rfl := oi H12
   exact ⟨_, (eI v13), rfl, wr, .of_eq ((enc_i64 td3 sz3).cut _ _ _), hH.noT⟩
 ·refine awp_region rfl (mm tk (eI x0) rfl rfl ?_)
  refine l_ hs3 eB rfl (o_ar tk rfl rfl rfl) fun v6 H5 => ?_
  refine mm tk (eB v6) rfl rfl ?_
  refine if_split H5 (fun hb H7 => ?_) (fun hb H7 => ?_)
  ·subst hb
   refine k_ rfl (k_ rfl (pt tk (eB true) rfl rfl rfl (wpo_nil ?_)))
   have e := oi H7
   subst e
   exact ⟨(wc (wc (wkf_nil _))), hH⟩
  ·subst hb
   refine mm tk (eI x0) rfl rfl ?_
   refine l_ H7 eB rfl (o_ar tk rfl rfl rfl) fun v9 H8 => ?_
   refine pf tk (eB v9) rfl rfl rfl (wpo_nil ?_)
   have e := oi H8
   subst e
   exact ⟨(wc (wc (wkf_nil _))), hH⟩
theorem slab_Class_ok {x0 : Int} {r : Int} (H : slab_Class x0 = some r) (σ : St)  : ACall Tryd.prog 34 [(eI x0)] σ (fun a τ => a = eI r ∧ τ = σ) := by
 unfold slab_Class at H
 refine ACall.pure (acall_start tk Tryd.func34 (by decide) rfl (nb rfl) ?_)
 have hH := Holds.init σ
 refine sr rfl (ma tk (eI (0 : Int)) rfl rfl (wpo_nil (awp_seq (sr rfl (mm tk (eI x0) rfl rfl ?_)))))
 refine l_ H eB rfl (o_ar tk rfl rfl rfl) fun v2 H1 => ?_
 refine wpo_nil ?_
 refine awp_if H1 rfl (fun H3 => ?_) (fun H3 => ?_)
 ·refine sr rfl (ma tk (eI (-1 : Int)) rfl rfl (wpo_nil (awp_ret ?_)))
  obtain rfl := oi H3
  exact ⟨_, (eI (-1 : Int)), rfl, wr, .of_eq ((enc_i64 td3 sz3).cut _ _ _), hH.noT⟩
 ·refine awp_skip (awp_seq (sr rfl (mm tk (eI (0 : Int)) rfl rfl (wpo_nil (awp_block ?_)))))
  obtain ⟨o5, hs6, hj7⟩ := ob H3
  refine awp_cutx 0 (fun fr τ => ∃ s12 : Unit, o5 = .inl s12 ∧ WkF fr (fm []) ∧ Holds σ [] [] τ) ?_ ?_
  ·rintro fr τ ⟨s12, rfl, hfr, hH⟩
   have H25 := hj7
   simp only [Sum.elim_inl] at H25
   refine AWP.fm [] hfr ?_
   refine sr rfl (ma tk (eI (-1 : Int)) rfl rfl (wpo_nil (awp_ret ?_)))
   obtain rfl := oi H25
   exact ⟨_, (eI (-1 : Int)), rfl, wr, .of_eq ((enc_i64 td3 sz3).cut _ _ _), hH.noT⟩
  ·refine awp_loopO (body := fun s => slab_Class_b0 x0 s) hs6 (fun (s : Int) fr τ => WkF fr (fm [(0, (eI x0)), (6, (eI s))]) ∧ Holds σ [] [] τ) ⟨(wc (wc (wkf_nil _))), hH⟩ ?_
   rintro c4 fr τ y8 ⟨hfr, hH⟩ hb10 hy11
   have H13 : slab_Class_b0 x0 c4 = some y8 := hb10
   unfold slab_Class_b0 at H13
   refine AWP.fm [(0, (eI x0)), (6, (eI c4))] hfr ?_
   have hH : Holds σ [] [] τ := hH
   refine sr rfl ?_
   refine l_ H13 eB rfl (o_ar tk rfl rfl rfl) fun v15 H14 => ?_
   refine wpo_nil (awp_seq ?_)
   refine awp_if H14 rfl (fun H16 => ?_) (fun H16 => ?_)
   ·refine awp_skip (awp_seq (awp_block (sr rfl (mm tk (eI c4) rfl rfl (ma tk (eI c4) rfl rfl (wpo_nil (sr rfl (mm tk (eI x0) rfl rfl ?_))))))))
    refine mm tk (eI c4) rfl rfl ?_
    refine b_ H16 eI rfl (fun v18 hv => OpP.of_call rfl rfl (.cons wr .nil) (slab_Size_ok hv)) fun v18 hv18 H17 => ?_
    refine l_ H17 eB rfl (o_ar tk rfl rfl rfl) fun v20 H19 => ?_
    refine wpo_nil ?_
    refine awp_if H19 rfl (fun H21 => ?_) (fun H21 => ?_)
    ·refine sr rfl (mm tk (eI c4) rfl rfl (ma tk (eI c4) rfl rfl (wpo_nil (awp_ret ?_))))
     have hz := hy11 _ (inj_inr H21)
     refine ⟨⟨_, inj_inr H21⟩, ?_⟩
     rw [← hz] at hj7
     have H22 := (show some _ = some _ from hj7)
     obtain rfl := oi H22
     exact ⟨_, (eI c4), rfl, wr, .of_eq ((enc_i64 td3 sz3).cut _ _ _), hH.noT⟩
    ·refine awp_skip (awp_region rfl ?_)
     refine l_ H21 eI rfl (o_ar tk rfl rfl rfl) fun v24 H23 => ?_
     refine mm tk (eI v24) rfl rfl (wpo_nil ?_)
     exact ⟨v24, inj_inl H23, (wc (wc (wkf_nil _))), hH⟩
   ·refine awp_exit ?_
    have hz := hy11 _ (inj_inr H16)
    exact ⟨⟨_, inj_inr H16⟩, (), hz.symm, (wkf_nil _), hH⟩
theorem slab_Budget_Fits_ok {x0 : slab_Budget} {x1 : Int} {r : Bool} (H : slab_Budget_Fits x0 x1 = some r) (σ : St) {p0 : Nat} (h0 : σ.objs[p0]? = some (c_slab_Budget x0)) : ACall Tryd.prog 33 [(.ref p0 0), (eI x1)] σ (fun a τ => a = eB r ∧ τ = σ) := by
 unfold slab_Budget_Fits at H
 refine ACall.pure (acall_start tk Tryd.func33 (by decide) rfl (nb rfl) ?_)
 have hH := Holds.init σ
 have hH := hH.bring h0 (fun _ h => by cases h)
 refine sr rfl (ma tk (eB false) rfl rfl (wpo_nil (sr rfl (mm tk (eI x1) rfl rfl ?_))))
 refine b_ H eI rfl (fun v2 hv => OpP.of_call rfl rfl (.cons wr .nil) (slab_Class_ok hv)) fun v2 hv2 H1 => ?_
 refine ma tk (eI v2) rfl rfl (wpo_nil (awp_seq ?_))
 refine awp_drawS mixed [] rfl (by decide +kernel) rfl rfl ?_
 refine wpdS_mv (a := (eI v2)) rfl rfl rfl (o_mv tk rfl (Wk.refl _)) ?_
 refine wpdS_lt H1 eB rfl rfl rfl (o_ar tk rfl rfl rfl) fun v4 H3 => ?_
 refine wpdS_mv (a := (eB v4)) rfl rfl rfl (o_mv tk rfl (Wk.refl _)) ?_
 refine if_split H3 (fun hb H5 => ?_) (fun hb H5 => ?_)
 ·subst hb
  refine wpdS_mv (a := (eI v2)) rfl rfl rfl (o_mv tk rfl (Wk.refl _)) ?_
  refine wpdS_bd H5 eI rfl rfl rfl (fun v7 hv => OpP.of_call rfl rfl (.cons wr .nil) (slab_Size_ok hv)) fun v7 hv7 H6 => ?_
  refine wpdS_mv (a := (.ref p0 0)) rfl rfl rfl (o_mv tk rfl (Wk.refl _)) (wpdS_mv (a := (.ref p0 0)) rfl rfl rfl (o_c tk false rfl (fun _ => rfl)) (wpdS_mv (a := (.ref p0 0)) rfl rfl rfl (o_c tk false rfl (fun _ => rfl)) (wpdS_rd (a := (eI x0.limit)) rfl (by decide +kernel) rfl rfl (h_ld tk hH 0 rfl (g_slab_Budget_limit _) rfl) ?_)))
  refine wpdS_lt H6 eB rfl rfl rfl (o_ar tk rfl rfl rfl) fun v9 H8 => ?_
  refine wpdS_mv (a := (eB v9)) rfl rfl rfl (o_pick_t tk rfl rfl (Wk.refl _)) (wpdS_mv (a := (eB v9)) rfl rfl rfl (o_as tk rfl (Wk.refl _)) (wpdS_nil (awp_ret ?_)))
  obtain rfl := oi H8
  exact ⟨_, (eB v9), rfl, wr, .of_eq ((enc_b td4 sz4).cut _ _ _), (hH.noT.unbring h0)⟩
 ·subst hb
  refine wpdS_skip rfl rfl rfl (wpdS_skip rfl rfl rfl (wpdS_skip rfl rfl rfl (wpdS_skip rfl rfl rfl (wpdS_skip rfl rfl rfl (wpdS_skip rfl rfl rfl (wpdS_skip rfl rfl rfl (wpdS_mv (a := (eB false)) rfl rfl rfl (o_pick_f tk rfl rfl (Wk.refl _)) (wpdS_mv (a := (eB false)) rfl rfl rfl (o_as tk rfl (Wk.refl _)) ?_))))))))
  refine wpdS_nil (awp_ret ?_)
  obtain rfl := oi H5
  exact ⟨_, (eB false), rfl, wr, .of_eq ((enc_b td4 sz4).cut _ _ _), (hH.noT.unbring h0)⟩
theorem bloom_Slot_ok {x0 : BitVec 64} {x1 : Int} {r : Int} (H : bloom_Slot x0 x1 = some r) (σ : St)  : ACall Tryd.prog 65 [((@eU .u64 64) x0), (eI x1)] σ (fun a τ => a = eI r ∧ τ = σ) := by
 unfold bloom_Slot at H
 refine ACall.pure (acall_start tk Tryd.func65 (by decide) rfl (nb rfl) ?_)
 have hH := Holds.init σ
 refine sr rfl (ma tk (eI (0 : Int)) rfl rfl (wpo_nil (awp_seq (sr rfl (mm tk (eI x1) rfl rfl ?_)))))
 refine l_ H eB rfl (o_ar tk rfl rfl rfl) fun v2 H1 => ?_
 refine wpo_nil ?_
 refine awp_if H1 rfl (fun H3 => ?_) (fun H3 => ?_)
 ·refine sr rfl (ma tk (eI (0 : Int)) rfl rfl (wpo_nil (awp_ret ?_)))
  obtain rfl := oi H3
  exact ⟨_, (eI (0 : Int)), rfl, wr, .of_eq ((enc_i64 td3 sz3).cut _ _ _), hH.noT⟩
 ·refine awp_skip (sr rfl (mm tk ((@eU .u64 64) x0) rfl rfl (mm tk (eI x1) rfl rfl ?_)))
  refine l_ H3 (@eU .u64 64) rfl (o_cv_iu tk td3 td111 rfl rfl) fun v5 H4 => ?_
  refine b_ H4 (@eU .u64 64) rfl (fun v7 hv => om_rem_u tk rfl hv rfl rfl) fun v7 hv7 H6 => ?_
  refine l_ H6 eI rfl (o_cv_64 tk td111 td3 rfl) fun v9 H8 => ?_
  refine ma tk (eI v9) rfl rfl (wpo_nil (awp_ret ?_))
  obtain rfl := oi H8
  exact ⟨_, (eI v9), rfl, wr, .of_eq ((enc_i64 td3 sz3).cut _ _ _), hH.noT⟩
theorem bloom_Mix_ok {x0 : BitVec 64} {r : (BitVec 64)} (H : bloom_Mix x0 = some r) (σ : St)  : ACall Tryd.prog 80 [((@eU .u64 64) x0)] σ (fun a τ => a = (@eU .u64 64) r ∧ τ = σ) := by
 unfold bloom_Mix at H
 refine ACall.pure (acall_start tk Tryd.func80 (by decide) rfl (nb rfl) ?_)
 have hH := Holds.init σ
 refine sr rfl (ma tk ((@eU .u64 64) 0#64) rfl rfl (wpo_nil (sr rfl (mm tk ((@eU .u64 64) x0) rfl rfl (mm tk ((@eU .u64 64) x0) rfl rfl ?_)))))
 refine l_ H (@eU .u64 64) rfl (o_shr_u tk rfl (y := (33 : Int)) rfl rfl rfl) fun v2 H1 => ?_
 refine l_ H1 (@eU .u64 64) rfl (o_xor_u tk rfl rfl rfl) fun v4 H3 => ?_
 refine ma tk ((@eU .u64 64) v4) rfl rfl (wpo_nil (sr rfl (mm tk ((@eU .u64 64) v4) rfl rfl ?_)))
 refine l_ H3 (@eU .u64 64) rfl (o_mul_u tk rfl rfl rfl) fun v6 H5 => ?_
 refine ma tk ((@eU .u64 64) v6) rfl rfl (wpo_nil (sr rfl (mm tk ((@eU .u64 64) v6) rfl rfl (mm tk ((@eU .u64 64) v6) rfl rfl ?_))))
 refine l_ H5 (@eU .u64 64) rfl (o_shr_u tk rfl (y := (33 : Int)) rfl rfl rfl) fun v8 H7 => ?_
 refine l_ H7 (@eU .u64 64) rfl (o_xor_u tk rfl rfl rfl) fun v10 H9 => ?_
 refine ma tk ((@eU .u64 64) v10) rfl rfl (wpo_nil (sr rfl (mm tk ((@eU .u64 64) v10) rfl rfl ?_)))
 refine l_ H9 (@eU .u64 64) rfl (o_mul_u tk rfl rfl rfl) fun v12 H11 => ?_
 refine ma tk ((@eU .u64 64) v12) rfl rfl (wpo_nil (sr rfl (mm tk ((@eU .u64 64) v12) rfl rfl (mm tk ((@eU .u64 64) v12) rfl rfl ?_))))
 refine l_ H11 (@eU .u64 64) rfl (o_shr_u tk rfl (y := (33 : Int)) rfl rfl rfl) fun v14 H13 => ?_
 refine l_ H13 (@eU .u64 64) rfl (o_xor_u tk rfl rfl rfl) fun v16 H15 => ?_
 refine ma tk ((@eU .u64 64) v16) rfl rfl (wpo_nil (awp_ret ?_))
 obtain rfl := oi H15
 exact ⟨_, ((@eU .u64 64) v16), rfl, wr, .of_eq ((enc_u td111 sz111).cut _ _ _), hH.noT⟩
theorem bloom_Hash_ok {x0 : List (BitVec 8)} {r : (BitVec 64)} (H : bloom_Hash x0 = some r) (σ : St)  : ACall Tryd.prog 66 [(eS x0)] σ (fun a τ => a = (@eU .u64 64) r ∧ τ = σ) := by
 unfold bloom_Hash at H
 refine ACall.pure (acall_start tk Tryd.func66 (by decide) rfl (nb rfl) ?_)
 have hH := Holds.init σ
 refine sr rfl (ma tk ((@eU .u64 64) 0#64) rfl rfl (wpo_nil (sr rfl (ma tk ((@eU .u64 64) 14695981039346656037#64) rfl rfl (wpo_nil (awp_seq (sr rfl (mm tk (eS x0) rfl rfl ?_))))))))
 refine l_ H eI rfl (o_len_s tk td9 rfl) fun v2 H1 => ?_
 refine mm tk (eI (0 : Int)) rfl rfl (wpo_nil (awp_block ?_))
 obtain ⟨s12, hs6, hj7⟩ := ob H1
 refine awp_cutx 0 (fun fr τ => WkF fr (fm [(3, ((@eU .u64 64) s12))]) ∧ Holds σ [] [] τ) ?_ ?_
 ·rintro fr τ ⟨hfr, hH⟩
  have H27 := hj7
  refine AWP.fm [(3, ((@eU .u64 64) s12))] hfr ?_
  refine sr rfl (mm tk ((@eU .u64 64) s12) rfl rfl ?_)
  refine b_ H27 (@eU .u64 64) rfl (fun v29 hv => OpP.of_call rfl rfl (.cons wr .nil) (bloom_Mix_ok hv)) fun v29 hv29 H28 => ?_
  refine ma tk ((@eU .u64 64) v29) rfl rfl (wpo_nil (awp_ret ?_))
  obtain rfl := oi H28
  exact ⟨_, ((@eU .u64 64) v29), rfl, wr, .of_eq ((enc_u td111 sz111).cut _ _ _), hH.noT⟩
 ·refine awp_loopO (body := fun s => bloom_Hash_b0 x0 v2 s.1 s.2) hs6 (fun (s : (BitVec 64) × Int) fr τ => WkF fr (fm [(0, (eS x0)), (3, ((@eU .u64 64) s.1)), (6, (eI v2)), (7, (eI s.2))]) ∧ Holds σ [] [] τ) ⟨(wc (wc (wc (wc (wkf_nil _))))), hH⟩ ?_
  rintro ⟨c3, c4⟩ fr τ y8 ⟨hfr, hH⟩ hb10 hy11
  have H13 : bloom_Hash_b0 x0 v2 c3 c4 = some y8 := hb10
  unfold bloom_Hash_b0 at H13
  refine AWP.fm [(0, (eS x0)), (3, ((@eU .u64 64) c3)), (6, (eI v2)), (7, (eI c4))] hfr ?_
  have hH : Holds σ [] [] τ := hH
  refine sr rfl ?_
  refine l_ H13 eB rfl (o_ar tk rfl rfl rfl) fun v15 H14 => ?_
  refine wpo_nil (awp_seq ?_)
  refine awp_if H14 rfl (fun H16 => ?_) (fun H16 => ?_)
  ·refine awp_skip (awp_seq (awp_block (sr rfl (mm tk (eI c4) rfl rfl (ma tk (eI c4) rfl rfl (wpo_nil (awp_region rfl (mm tk ((@eU .u64 64) c3) rfl rfl ?_))))))))
   refine mm tk (eS x0) rfl rfl (mm tk (eI c4) rfl rfl ?_)
   refine b_ H16 (@eU .u8 8) rfl (fun v18 hv => o_six tk hv td9 rfl rfl) fun v18 hv18 H17 => ?_
   refine l_ H17 (@eU .u64 64) rfl (o_cv_uu tk td5 td111 rfl rfl) fun v20 H19 => ?_
   refine l_ H19 (@eU .u64 64) rfl (o_xor_u tk rfl rfl rfl) fun v22 H21 => ?_
   refine l_ H21 (@eU .u64 64) rfl (o_mul_u tk rfl rfl rfl) fun v24 H23 => ?_
   refine ma tk ((@eU .u64 64) v24) rfl rfl (wpo_nil (awp_region rfl ?_))
   refine l_ H23 eI rfl (o_ar tk rfl rfl rfl) fun v26 H25 => ?_
   refine mm tk (eI v26) rfl rfl (wpo_nil ?_)
   exact ⟨(v24, v26), inj_inl H25, (wc (wc (wc (wc (wkf_nil _))))), hH⟩
  ·refine awp_exit ?_
   have hz := hy11 _ (inj_inr H16)
   subst hz
   exact ⟨⟨_, inj_inr H16⟩, (wc (wkf_nil _)), hH⟩
theorem ram_Ram_head_ok {x0 : ram_Ram} {x1 : List (BitVec 8)} {r : Int} (H : ram_Ram_head x0 x1 = some r) (σ : St) {p0 p0B p0I p0N p0F p0L p0C p0H p0X p0G : Nat} (h0 : σ.objs[p0]? = some [(.ref p0B 0), (.ref p0I 0), (.vec p0H 1 (x0.heads).length), (.vec p0X 1 (x0.next_).length), (.vec p0G 5 (x0.things).length), (eI x0.count)]) (h0_budget : σ.objs[p0B]? = some (c_slab_Budget x0.budget)) (h0_lists : σ.objs[p0I]? = some [(.vec p0N 4 (x0.lists.nodes).length), (.vec p0F 1 (x0.lists.first_).length), (.vec p0L 1 (x0.lists.last_).length), (.vec p0C 1 (x0.lists.count).length), (eI x0.lists.free), (eI x0.lists.clock)]) (h0_lists_nodes : σ.objs[p0N]? = some (cL e_lists_link x0.lists.nodes)) (h0_lists_first_ : σ.objs[p0F]? = some (cL eI x0.lists.first_)) (h0_lists_last_ : σ.objs[p0L]? = some (cL eI x0.lists.last_)) (h0_lists_count : σ.objs[p0C]? = some (cL eI x0.lists.count)) (h0_heads : σ.objs[p0H]? = some (cL eI x0.heads)) (h0_next_ : σ.objs[p0X]? = some (cL eI x0.next_)) (h0_things : σ.objs[p0G]? = some (cL e_aEn x0.things)) (hd : [p0, p0B, p0I, p0N, p0F, p0L, p0C, p0H, p0X, p0G].Pairwise fun a b => a ≠ b) : ACall Tryd.prog 42 [(.ref p0 0), (eS x1)] σ (fun a τ => a = .ref p0H (0 + (r : Int).toNat * 1 + 0) ∧ τ = σ) := by
 unfold ram_Ram_head at H
 refine ACall.pure (acall_start tk Tryd.func42 (by decide) rfl (nb rfl) ?_)
 have hH := Holds.brings (σ := σ) [(p0, [(.ref p0B 0), (.ref p0I 0), (.vec p0H 1 (x0.heads).length), (.vec p0X 1 (x0.next_).length), (.vec p0G 5 (x0.things).length), (eI x0.count)]), (p0B, (c_slab_Budget x0.budget)), (p0I, [(.vec p0N 4 (x0.lists.nodes).length), (.vec p0F 1 (x0.lists.first_).length), (.vec p0L 1 (x0.lists.last_).length), (.vec p0C 1 (x0.lists.count).length), (eI x0.lists.free), (eI x0.lists.clock)]), (p0N, (cL e_lists_link x0.lists.nodes)), (p0F, (cL eI x0.lists.first_)), (p0L, (cL eI x0.lists.last_)), (p0C, (cL eI x0.lists.count)), (p0H, (cL eI x0.heads)), (p0X, (cL eI x0.next_)), (p0G, (cL e_aEn x0.things))] (by simp only [List.mem_cons, List.not_mem_nil, or_false]; rintro _ (rfl | rfl | rfl | rfl | rfl | rfl | rfl | rfl | rfl | rfl) <;> assumption) hd
 refine sr rfl (ma tk .nilp rfl rfl (wpo_nil (awp_seq ?_)))
 refine awp_drawS mixed [] rfl (by decide +kernel) rfl rfl ?_
 refine wpdS_mv (a := (.ref p0 0)) rfl rfl rfl (o_mv tk rfl (Wk.refl _)) (wpdS_mv (a := (.ref p0 0)) rfl rfl rfl (o_c tk false rfl (fun _ => rfl)) (wpdS_mv (a := (.ref p0 2)) rfl rfl rfl (o_c tk false rfl (fun _ => rfl)) (wpdS_rd (a := (.vec p0H 1 (x0.heads).length)) rfl (by decide +kernel) rfl rfl (h_ld tk hH 0 rfl rfl rfl) (wpdS_mv (a := (eS x1)) rfl rfl rfl (o_mv tk rfl (Wk.refl _)) ?_))))
 refine wpdS_bd H (@eU .u64 64) rfl rfl rfl (fun v2 hv => OpP.of_call rfl rfl (.cons wr .nil) (bloom_Hash_ok hv)) fun v2 hv2 H1 => ?_
 refine wpdS_mv (a := (.ref p0 0)) rfl rfl rfl (o_mv tk rfl (Wk.refl _)) (wpdS_mv (a := (.ref p0 0)) rfl rfl rfl (o_c tk false rfl (fun _ => rfl)) (wpdS_mv (a := (.ref p0 2)) rfl rfl rfl (o_c tk false rfl (fun _ => rfl)) (wpdS_rd (a := (.vec p0H 1 (x0.heads).length)) rfl (by decide +kernel) rfl rfl (h_ld tk hH 0 rfl rfl rfl) ?_)))
 refine wpdS_lt H1 eI rfl rfl rfl (o_vlen tk td70 rfl) fun v4 H3 => ?_
 refine wpdS_bd H3 eI rfl rfl rfl (fun v6 hv => OpP.of_call rfl rfl (.cons wr (.cons wr .nil)) (bloom_Slot_ok hv)) fun v6 hv6 H5 => ?_
 refine wpdS_bd H5 (fun _ => .ref p0H (0 + (v6 : Int).toNat * 1 + 0)) rfl rfl rfl (fun v8 hv => o_vecx tk hv td70 sz3 (by decide) rfl rfl) fun v8 hv8 H7 => ?_
 refine wpdS_mv (a := (.ref p0H (0 + (v6 : Int).toNat * 1 + 0))) rfl rfl rfl (o_as tk rfl (Wk.refl _)) (wpdS_nil (awp_ret ?_))
 obtain rfl := oi H7
 exact ⟨_, (.ref p0H (0 + (v6 : Int).toNat * 1 + 0)), rfl, wr, .of_eq (cut_ref_id (idl_get h0_heads)), ((((((((((hH.noT.unbring h0).unbring h0_budget).unbring h0_lists).unbring h0_lists_nodes).unbring h0_lists_first_).unbring h0_lists_last_).unbring h0_lists_count).unbring h0_heads).unbring h0_next_).unbring h0_things)⟩
theorem ram_Ram_find_ok {x0 : ram_Ram} {x1 : List (BitVec 8)} {r : Int} (H : ram_Ram_find x0 x1 = some r) (σ : St) {p0 p0B p0I p0N p0F p0L p0C p0H p0X p0G : Nat} (h0 : σ.objs[p0]? = some [(.ref p0B 0), (.ref p0I 0), (.vec p0H 1 (x0.heads).length), (.vec p0X 1 (x0.next_).length), (.vec p0G 5 (x0.things).length), (eI x0.count)]) (h0_budget : σ.objs[p0B]? = some (c_slab_Budget x0.budget)) (h0_lists : σ.objs[p0I]? = some [(.vec p0N 4 (x0.lists.nodes).length), (.vec p0F 1 (x0.lists.first_).length), (.vec p0L 1 (x0.lists.last_).length), (.vec p0C 1 (x0.lists.count).length), (eI x0.lists.free), (eI x0.lists.clock)]) (h0_lists_nodes : σ.objs[p0N]? = some (cL e_lists_link x0.lists.nodes)) (h0_lists_first_ : σ.objs[p0F]? = some (cL eI x0.lists.first_)) (h0_lists_last_ : σ.objs[p0L]? = some (cL eI x0.lists.last_)) (h0_lists_count : σ.objs[p0C]? = some (cL eI x0.lists.count)) (h0_heads : σ.objs[p0H]? = some (cL eI x0.heads)) (h0_next_ : σ.objs[p0X]? = some (cL eI x0.next_)) (h0_things : σ.objs[p0G]? = some (cL e_aEn x0.things)) (hd : [p0, p0B, p0I, p0N, p0F, p0L, p0C, p0H, p0X, p0G].Pairwise fun a b => a ≠ b) : ACall Tryd.prog 35 [(.ref p0 0), (eS x1)] σ (fun a τ => a = eI r ∧ τ = σ) := by
 unfold ram_Ram_find at H
 refine ACall.pure (acall_start tk Tryd.func35 (by decide) rfl (nb rfl) ?_)
 have hH := Holds.brings (σ := σ) [(p0, [(.ref p0B 0), (.ref p0I 0), (.vec p0H 1 (x0.heads).length), (.vec p0X 1 (x0.next_).length), (.vec p0G 5 (x0.things).length), (eI x0.count)]), (p0B, (c_slab_Budget x0.budget)), (p0I, [(.vec p0N 4 (x0.lists.nodes).length), (.vec p0F 1 (x0.lists.first_).length), (.vec p0L 1 (x0.lists.last_).length), (.vec p0C 1 (x0.lists.count).length), (eI x0.lists.free), (eI x0.lists.clock)]), (p0N, (cL e_lists_link x0.lists.nodes)), (p0F, (cL eI x0.lists.first_)), (p0L, (cL eI x0.lists.last_)), (p0C, (cL eI x0.lists.count)), (p0H, (cL eI x0.heads)), (p0X, (cL eI x0.next_)), (p0G, (cL e_aEn x0.things))] (by simp only [List.mem_cons, List.not_mem_nil, or_false]; rintro _ (rfl | rfl | rfl | rfl | rfl | rfl | rfl | rfl | rfl | rfl) <;> assumption) hd
 refine sr rfl (ma tk (eI (0 : Int)) rfl rfl (wpo_nil (awp_seq (sr rfl (mm tk (.ref p0 0) rfl rfl (mm tk (eS x1) rfl rfl ?_))))))
 refine wpo_bdr H (fun r => .ref p0H (0 + (r : Int).toNat * 1 + 0)) rfl rfl rfl (fun v2 hv => h_callr rfl rfl (.cons wr (.cons wr .nil)) (ram_Ram_head_ok hv _ (hH.at_ 0 rfl) (hH.at_ 1 rfl) (hH.at_ 2 rfl) (hH.at_ 3 rfl) (hH.at_ 4 rfl) (hH.at_ 5 rfl) (hH.at_ 6 rfl) (hH.at_ 7 rfl) (hH.at_ 8 rfl) (hH.at_ 9 rfl) (hH.pw [0, 1, 2, 3, 4, 5, 6, 7, 8, 9] rfl (by decide)))) fun v2 hv2 H1 => ?_
 refine mc tk (.ref p0H (0 + (v2 : Int).toNat * 1 + 0)) rfl rfl (fun _ => rfl) ?_
 refine wpo_bdr H1 (fun y => eI y) rfl rfl rfl (fun v4 hv => h_ldx tk hH 7 hv rfl (enc_i64 td3 sz3) (acut_enc (enc_i64 td3 sz3) rfl _) (by decide) rfl) fun v4 hv4 H3 => ?_
 refine ma tk (eI v4) rfl rfl (wpo_nil (awp_block ?_))
 obtain ⟨o6, hs7, hj8⟩ := ob H3
 refine awp_cutx 0 (fun fr τ => ∃ s13 : Unit, o6 = .inl s13 ∧ WkF fr (fm []) ∧ Holds σ [(p0, [(.ref p0B 0), (.ref p0I 0), (.vec p0H 1 (x0.heads).length), (.vec p0X 1 (x0.next_).length), (.vec p0G 5 (x0.things).length), (eI x0.count)]), (p0B, (c_slab_Budget x0.budget)), (p0I, [(.vec p0N 4 (x0.lists.nodes).length), (.vec p0F 1 (x0.lists.first_).length), (.vec p0L 1 (x0.lists.last_).length), (.vec p0C 1 (x0.lists.count).length), (eI x0.lists.free), (eI x0.lists.clock)]), (p0N, (cL e_lists_link x0.lists.nodes)), (p0F, (cL eI x0.lists.first_)), (p0L, (cL eI x0.lists.last_)), (p0C, (cL eI x0.lists.count)), (p0H, (cL eI x0.heads)), (p0X, (cL eI x0.next_)), (p0G, (cL e_aEn x0.things))] [] τ) ?_ ?_
 ·rintro fr τ ⟨s13, rfl, hfr, hH⟩
  have H30 := hj8
  simp only [Sum.elim_inl] at H30
  refine AWP.fm [] hfr ?_
  refine sr rfl (ma tk (eI (-1 : Int)) rfl rfl (wpo_nil (awp_ret ?_)))
  obtain rfl := oi H30
  exact ⟨_, (eI (-1 : Int)), rfl, wr, .of_eq ((enc_i64 td3 sz3).cut _ _ _), ((((((((((hH.noT.unbring h0).unbring h0_budget).unbring h0_lists).unbring h0_lists_nodes).unbring h0_lists_first_).unbring h0_lists_last_).unbring h0_lists_count).unbring h0_heads).unbring h0_next_).unbring h0_things)⟩
 ·refine awp_loopO (body := fun s => ram_Ram_find_b0 x0 x1 s) hs7 (fun (s : Int) fr τ => WkF fr (fm [(0, (.ref p0 0)), (1, (eS x1)), (5, (eI s))]) ∧ Holds σ [(p0, [(.ref p0B 0), (.ref p0I 0), (.vec p0H 1 (x0.heads).length), (.vec p0X 1 (x0.next_).length), (.vec p0G 5 (x0.things).length), (eI x0.count)]), (p0B, (c_slab_Budget x0.budget)), (p0I, [(.vec p0N 4 (x0.lists.nodes).length), (.vec p0F 1 (x0.lists.first_).length), (.vec p0L 1 (x0.lists.last_).length), (.vec p0C 1 (x0.lists.count).length), (eI x0.lists.free), (eI x0.lists.clock)]), (p0N, (cL e_lists_link x0.lists.nodes)), (p0F, (cL eI x0.lists.first_)), (p0L, (cL eI x0.lists.last_)), (p0C, (cL eI x0.lists.count)), (p0H, (cL eI x0.heads)), (p0X, (cL eI x0.next_)), (p0G, (cL e_aEn x0.things))] [] τ) ⟨(wc (wc (wc (wkf_nil _)))), hH⟩ ?_
  rintro c5 fr τ y9 ⟨hfr, hH⟩ hb11 hy12
  have H14 : ram_Ram_find_b0 x0 x1 c5 = some y9 := hb11
  unfold ram_Ram_find_b0 at H14
  refine AWP.fm [(0, (.ref p0 0)), (1, (eS x1)), (5, (eI c5))] hfr ?_
  have hH : Holds σ [(p0, [(.ref p0B 0), (.ref p0I 0), (.vec p0H 1 (x0.heads).length), (.vec p0X 1 (x0.next_).length), (.vec p0G 5 (x0.things).length), (eI x0.count)]), (p0B, (c_slab_Budget x0.budget)), (p0I, [(.vec p0N 4 (x0.lists.nodes).length), (.vec p0F 1 (x0.lists.first_).length), (.vec p0L 1 (x0.lists.last_).length), (.vec p0C 1 (x0.lists.count).length), (eI x0.lists.free), (eI x0.lists.clock)]), (p0N, (cL e_lists_link x0.lists.nodes)), (p0F, (cL eI x0.lists.first_)), (p0L, (cL eI x0.lists.last_)), (p0C, (cL eI x0.lists.count)), (p0H, (cL eI x0.heads)), (p0X, (cL eI x0.next_)), (p0G, (cL e_aEn x0.things))] [] τ := hH
  refine awp_seq (sr rfl (mm tk (eI c5) rfl rfl ?_))
  refine l_ H14 eB rfl (o_ar tk rfl rfl rfl) fun v16 H15 => ?_
  refine wpo_nil ?_
  refine awp_if H15 rfl (fun H17 => ?_) (fun H17 => ?_)
  ·refine awp_skip (awp_seq (awp_block (sr rfl (mm tk (.ref p0 0) rfl rfl (mc tk (.ref p0 0) rfl rfl (fun _ => rfl) (mc tk (.ref p0 4) rfl rfl (fun _ => rfl) (wpo_rd (a := (.vec p0G 5 (x0.things).length)) rfl rfl rfl (h_ld tk hH 0 rfl rfl rfl) (mm tk (eI c5) rfl rfl ?_))))))))
   refine b_ H17 (fun _ => .ref p0G (0 + (c5 : Int).toNat * 5 + 0)) rfl (fun v19 hv => o_vecx tk hv td31 sz39 (by decide) rfl rfl) fun v19 hv19 H18 => ?_
   refine mc tk (.ref p0G (0 + (c5 : Int).toNat * 5 + 0)) rfl rfl (fun _ => rfl) ?_
   refine wpo_bdr H18 (fun y => eS y.Key) rfl rfl rfl (fun v21 hv => h_ldx tk hH 9 hv rfl enc39 rfl (by decide) rfl) fun v21 hv21 H20 => ?_
   refine mm tk (eS x1) rfl rfl ?_
   refine l_ H20 eB rfl (o_eql_s tk rfl rfl) fun v23 H22 => ?_
   refine wpo_nil ?_
   refine awp_if H22 rfl (fun H24 => ?_) (fun H24 => ?_)
   ·refine sr rfl (mm tk (eI c5) rfl rfl (ma tk (eI c5) rfl rfl (wpo_nil (awp_ret ?_))))
    have hz := hy12 _ (inj_inr H24)
    refine ⟨⟨_, inj_inr H24⟩, ?_⟩
    rw [← hz] at hj8
    have H25 := (show some _ = some _ from hj8)
    obtain rfl := oi H25
    exact ⟨_, (eI c5), rfl, wr, .of_eq ((enc_i64 td3 sz3).cut _ _ _), ((((((((((hH.noT.unbring h0).unbring h0_budget).unbring h0_lists).unbring h0_lists_nodes).unbring h0_lists_first_).unbring h0_lists_last_).unbring h0_lists_count).unbring h0_heads).unbring h0_next_).unbring h0_things)⟩
   ·refine awp_skip (awp_region rfl (mm tk (.ref p0 0) rfl rfl (mc tk (.ref p0 0) rfl rfl (fun _ => rfl) (mc tk (.ref p0 3) rfl rfl (fun _ => rfl) (wpo_rd (a := (.vec p0X 1 (x0.next_).length)) rfl rfl rfl (h_ld tk hH 0 rfl rfl rfl) (mm tk (eI c5) rfl rfl ?_))))))
    refine b_ H24 (fun _ => .ref p0X (0 + (c5 : Int).toNat * 1 + 0)) rfl (fun v27 hv => o_vecx tk hv td70 sz3 (by decide) rfl rfl) fun v27 hv27 H26 => ?_
    refine wpo_bdr H26 (fun y => eI y) rfl rfl rfl (fun v29 hv => h_ldx tk hH 8 hv rfl (enc_i64 td3 sz3) (acut_enc (enc_i64 td3 sz3) rfl _) (by decide) rfl) fun v29 hv29 H28 => ?_
    refine ma tk (eI v29) rfl rfl (wpo_nil ?_)
    exact ⟨v29, inj_inl H28, (wc (wc (wc (wkf_nil _)))), hH⟩
  ·refine awp_exit ?_
   have hz := hy12 _ (inj_inr H17)
   exact ⟨⟨_, inj_inr H17⟩, (), hz.symm, (wkf_nil _), hH⟩
theorem lists_Lists_List_ok {x0 : lists_Lists} {x1 : Int} {r : Int} (H : lists_Lists_List x0 x1 = some r) (σ : St) {p0 p0_nodes p0_first_ p0_last_ p0_count : Nat} (h0 : σ.objs[p0]? = some [(.vec p0_nodes 4 (x0.nodes).length), (.vec p0_first_ 1 (x0.first_).length), (.vec p0_last_ 1 (x0.last_).length), (.vec p0_count 1 (x0.count).length), (eI x0.free), (eI x0.clock)]) (h0_nodes : σ.objs[p0_nodes]? = some (cL e_lists_link x0.nodes)) (h0_first_ : σ.objs[p0_first_]? = some (cL eI x0.first_)) (h0_last_ : σ.objs[p0_last_]? = some (cL eI x0.last_)) (h0_count : σ.objs[p0_count]? = some (cL eI x0.count)) (hd : [p0, p0_nodes, p0_first_, p0_last_, p0_count].Pairwise fun a b => a ≠ b) : ACall Tryd.prog 61 [(.ref p0 0), (eI x1)] σ (fun a τ => a = eI r ∧ τ = σ) := by
 unfold lists_Lists_List at H
 refine ACall.pure (acall_start tk Tryd.func61 (by decide) rfl (nb rfl) ?_)
 have hH := Holds.brings (σ := σ) [(p0, [(.vec p0_nodes 4 (x0.nodes).length), (.vec p0_first_ 1 (x0.first_).length), (.vec p0_last_ 1 (x0.last_).length), (.vec p0_count 1 (x0.count).length), (eI x0.free), (eI x0.clock)]), (p0_nodes, (cL e_lists_link x0.nodes)), (p0_first_, (cL eI x0.first_)), (p0_last_, (cL eI x0.last_)), (p0_count, (cL eI x0.count))] (by simp only [List.mem_cons, List.not_mem_nil, or_false]; rintro _ (rfl | rfl | rfl | rfl | rfl) <;> assumption) hd
 refine sr rfl (ma tk (eI (0 : Int)) rfl rfl (wpo_nil (awp_seq (awp_seq ?_))))
 obtain ⟨s1, hs3, hj4⟩ := ob H
 refine awp_cutn (fun fr τ => WkF fr (fm [(0, (.ref p0 0)), (1, (eI x1)), (15, (eB s1))]) ∧ Holds σ [(p0, [(.vec p0_nodes 4 (x0.nodes).length), (.vec p0_first_ 1 (x0.first_).length), (.vec p0_last_ 1 (x0.last_).length), (.vec p0_count 1 (x0.count).length), (eI x0.free), (eI x0.clock)]), (p0_nodes, (cL e_lists_link x0.nodes)), (p0_first_, (cL eI x0.first_)), (p0_last_, (cL eI x0.last_)), (p0_count, (cL eI x0.count))] [] τ) ?_ ?_
 ·rintro fr τ ⟨hfr, hH⟩
  have H12 := hj4
  refine AWP.fm [(0, (.ref p0 0)), (1, (eI x1)), (15, (eB s1))] hfr ?_
  refine awp_if H12 rfl (fun H13 => ?_) (fun H13 => ?_)
  ·refine sr rfl (ma tk (eI (-1 : Int)) rfl rfl (wpo_nil (awp_ret ?_)))
   obtain rfl := oi H13
   exact ⟨_, (eI (-1 : Int)), rfl, wr, .of_eq ((enc_i64 td3 sz3).cut _ _ _), (((((hH.noT.unbring h0).unbring h0_nodes).unbring h0_first_).unbring h0_last_).unbring h0_count)⟩
  ·refine awp_skip (sr rfl (mm tk (.ref p0 0) rfl rfl (mc tk (.ref p0 0) rfl rfl (fun _ => rfl) (mc tk (.ref p0 0) rfl rfl (fun _ => rfl) (wpo_rd (a := (.vec p0_nodes 4 (x0.nodes).length)) rfl rfl rfl (h_ld tk hH 0 rfl rfl rfl) (mm tk (eI x1) rfl rfl ?_))))))
   refine b_ H13 (fun _ => .ref p0_nodes (0 + (x1 : Int).toNat * 4 + 0)) rfl (fun v15 hv => o_vecx tk hv td102 sz106 (by decide) rfl rfl) fun v15 hv15 H14 => ?_
   refine mc tk (.ref p0_nodes (0 + (x1 : Int).toNat * 4 + 2)) rfl rfl (fun _ => rfl) ?_
   refine wpo_bdr H14 (fun y => eI y.list) rfl rfl rfl (fun v17 hv => h_ldx tk hH 1 hv rfl enc106 rfl (by decide) rfl) fun v17 hv17 H16 => ?_
   refine ma tk (eI v17.list) rfl rfl (wpo_nil (awp_ret ?_))
   obtain rfl := oi H16
   exact ⟨_, (eI v17.list), rfl, wr, .of_eq ((enc_i64 td3 sz3).cut _ _ _), (((((hH.noT.unbring h0).unbring h0_nodes).unbring h0_first_).unbring h0_last_).unbring h0_count)⟩
 ·refine awp_region rfl (mm tk (eI x1) rfl rfl ?_)
  refine l_ hs3 eB rfl (o_ar tk rfl rfl rfl) fun v6 H5 => ?_
  refine mm tk (eB v6) rfl rfl ?_
  refine if_split H5 (fun hb H7 => ?_) (fun hb H7 => ?_)
  ·subst hb
   refine k_ rfl (k_ rfl (k_ rfl (k_ rfl (k_ rfl (k_ rfl (k_ rfl (pt tk (eB true) rfl rfl rfl (wpo_nil ?_))))))))
   have e := oi H7
   subst e
   exact ⟨(wc (wc (wc (wkf_nil _)))), hH⟩
  ·subst hb
   refine mm tk (eI x1) rfl rfl (mm tk (.ref p0 0) rfl rfl (mc tk (.ref p0 0) rfl rfl (fun _ => rfl) (mc tk (.ref p0 0) rfl rfl (fun _ => rfl) (wpo_rd (a := (.vec p0_nodes 4 (x0.nodes).length)) rfl rfl rfl (h_ld tk hH 0 rfl rfl rfl) ?_))))
   refine l_ H7 eI rfl (o_vlen tk td102 rfl) fun v9 H8 => ?_
   refine l_ H8 eB rfl (o_ar tk rfl rfl rfl) fun v11 H10 => ?_
   refine pf tk (eB v11) rfl rfl rfl (wpo_nil ?_)
   have e := oi H10
   subst e
   exact ⟨(wc (wc (wc (wkf_nil _)))), hH⟩
theorem lists_Lists_at_ok {x0 : lists_Lists} {x1 : List (BitVec 8)} {x2 : Int} {r : Err} (H : lists_Lists_at x0 x1 x2 = some r) (σ : St) {p0 p0_nodes p0_first_ p0_last_ p0_count : Nat} (h0 : σ.objs[p0]? = some [(.vec p0_nodes 4 (x0.nodes).length), (.vec p0_first_ 1 (x0.first_).length), (.vec p0_last_ 1 (x0.last_).length), (.vec p0_count 1 (x0.count).length), (eI x0.free), (eI x0.clock)]) (h0_nodes : σ.objs[p0_nodes]? = some (cL e_lists_link x0.nodes)) (h0_first_ : σ.objs[p0_first_]? = some (cL eI x0.first_)) (h0_last_ : σ.objs[p0_last_]? = some (cL eI x0.last_)) (h0_count : σ.objs[p0_count]? = some (cL eI x0.count)) (hd : [p0, p0_nodes, p0_first_, p0_last_, p0_count].Pairwise fun a b => a ≠ b) : ACall Tryd.prog 74 [(.ref p0 0), (eS x1), (eI x2)] σ (fun a τ => a = eErr r ∧ τ = σ) := by
 unfold lists_Lists_at at H
 refine ACall.pure (acall_start tk Tryd.func74 (by decide) rfl (nb rfl) ?_)
 have hH := Holds.brings (σ := σ) [(p0, [(.vec p0_nodes 4 (x0.nodes).length), (.vec p0_first_ 1 (x0.first_).length), (.vec p0_last_ 1 (x0.last_).length), (.vec p0_count 1 (x0.count).length), (eI x0.free), (eI x0.clock)]), (p0_nodes, (cL e_lists_link x0.nodes)), (p0_first_, (cL eI x0.first_)), (p0_last_, (cL eI x0.last_)), (p0_count, (cL eI x0.count))] (by simp only [List.mem_cons, List.not_mem_nil, or_false]; rintro _ (rfl | rfl | rfl | rfl | rfl) <;> assumption) hd
 refine sr rfl (ma tk (eErr Err.nil) rfl rfl (wpo_nil (awp_seq (awp_block (awp_seq ?_)))))
 obtain ⟨s1, hs3, hj4⟩ := ob H
 refine awp_cutn (fun fr τ => WkF fr (fm [(0, (.ref p0 0)), (1, (eS x1)), (2, (eI x2)), (7, (eB s1))]) ∧ Holds σ [(p0, [(.vec p0_nodes 4 (x0.nodes).length), (.vec p0_first_ 1 (x0.first_).length), (.vec p0_last_ 1 (x0.last_).length), (.vec p0_count 1 (x0.count).length), (eI x0.free), (eI x0.clock)]), (p0_nodes, (cL e_lists_link x0.nodes)), (p0_first_, (cL eI x0.first_)), (p0_last_, (cL eI x0.last_)), (p0_count, (cL eI x0.count))] [] τ) ?_ ?_
 ·rintro fr τ ⟨hfr, hH⟩
  have H12 := hj4
  refine AWP.fm [(0, (.ref p0 0)), (1, (eS x1)), (2, (eI x2)), (7, (eB s1))] hfr ?_
  refine awp_if H12 rfl (fun H13 => ?_) (fun H13 => ?_)
  ·refine sr rfl (mm tk (eS x1) rfl rfl (mm tk (eI x2) rfl rfl ?_))
   refine b_ H13 eErr rfl (fun v15 hv => OpP.of_call rfl rfl (.cons wr (.cons wr (.cons wr .nil))) (trouble_New_ok hv)) fun v15 hv15 H14 => ?_
   refine ma tk (eErr v15) rfl rfl (wpo_nil (awp_ret ?_))
   obtain rfl := oi H14
   exact ⟨_, (eErr v15), rfl, wr, .of_eq (encErr.cut _ _ _), (((((hH.noT.unbring h0).unbring h0_nodes).unbring h0_first_).unbring h0_last_).unbring h0_count)⟩
  ·refine sr rfl (mm tk (.ref p0 0) rfl rfl (mc tk (.ref p0 0) rfl rfl (fun _ => rfl) (mc tk (.ref p0 0) rfl rfl (fun _ => rfl) (wpo_rd (a := (.vec p0_nodes 4 (x0.nodes).length)) rfl rfl rfl (h_ld tk hH 0 rfl rfl rfl) (mm tk (eI x2) rfl rfl ?_)))))
   refine b_ H13 (fun _ => .ref p0_nodes (0 + (x2 : Int).toNat * 4 + 0)) rfl (fun v17 hv => o_vecx tk hv td102 sz106 (by decide) rfl rfl) fun v17 hv17 H16 => ?_
   refine mc tk (.ref p0_nodes (0 + (x2 : Int).toNat * 4 + 2)) rfl rfl (fun _ => rfl) ?_
   refine wpo_bdr H16 (fun y => eI y.list) rfl rfl rfl (fun v19 hv => h_ldx tk hH 1 hv rfl enc106 rfl (by decide) rfl) fun v19 hv19 H18 => ?_
   refine l_ H18 eB rfl (o_ar tk rfl rfl rfl) fun v21 H20 => ?_
   refine ma tk (eB v21) rfl rfl (wpo_nil ?_)
   refine awp_if H20 rfl (fun H22 => ?_) (fun H22 => ?_)
   ·refine sr rfl (mm tk (eS x1) rfl rfl (mm tk (eI x2) rfl rfl ?_))
    refine b_ H22 eErr rfl (fun v24 hv => OpP.of_call rfl rfl (.cons wr (.cons wr (.cons wr .nil))) (trouble_New_ok hv)) fun v24 hv24 H23 => ?_
    refine ma tk (eErr v24) rfl rfl (wpo_nil (awp_ret ?_))
    obtain rfl := oi H23
    exact ⟨_, (eErr v24), rfl, wr, .of_eq (encErr.cut _ _ _), (((((hH.noT.unbring h0).unbring h0_nodes).unbring h0_first_).unbring h0_last_).unbring h0_count)⟩
   ·refine awp_skip (sr rfl (ma tk (eErr Err.nil) rfl rfl (wpo_nil (awp_ret ?_))))
    obtain rfl := oi H22
    exact ⟨_, (eErr Err.nil), rfl, wr, .of_eq (encErr.cut _ _ _), (((((hH.noT.unbring h0).unbring h0_nodes).unbring h0_first_).unbring h0_last_).unbring h0_count)⟩
 ·refine awp_region rfl (mm tk (eI x2) rfl rfl ?_)
  refine l_ hs3 eB rfl (o_ar tk rfl rfl rfl) fun v6 H5 => ?_
  refine mm tk (eB v6) rfl rfl ?_
  refine if_split H5 (fun hb H7 => ?_) (fun hb H7 => ?_)
  ·subst hb
   refine k_ rfl (k_ rfl (k_ rfl (k_ rfl (k_ rfl (k_ rfl (k_ rfl (pt tk (eB true) rfl rfl rfl (ma tk (eB true) rfl rfl ?_))))))))
   refine wpo_nil ?_
   have e := oi H7
   subst e
   exact ⟨(wc (wc (wc (wc (wkf_nil _))))), hH⟩
  ·subst hb
   refine mm tk (eI x2) rfl rfl (mm tk (.ref p0 0) rfl rfl (mc tk (.ref p0 0) rfl rfl (fun _ => rfl) (mc tk (.ref p0 0) rfl rfl (fun _ => rfl) (wpo_rd (a := (.vec p0_nodes 4 (x0.nodes).length)) rfl rfl rfl (h_ld tk hH 0 rfl rfl rfl) ?_))))
   refine l_ H7 eI rfl (o_vlen tk td102 rfl) fun v9 H8 => ?_
   refine l_ H8 eB rfl (o_ar tk rfl rfl rfl) fun v11 H10 => ?_
   refine pf tk (eB v11) rfl rfl rfl (ma tk (eB v11) rfl rfl (wpo_nil ?_))
   have e := oi H10
   subst e
   exact ⟨(wc (wc (wc (wc (wkf_nil _))))), hH⟩
theorem lists_Lists_pull_ok {x0 : lists_Lists} {x1 : Int} {r : lists_Lists} (H : lists_Lists_pull x0 x1 = some r) (σ : St) {p0 p0_nodes p0_first_ p0_last_ p0_count : Nat} (h0 : σ.objs[p0]? = some [(.vec p0_nodes 4 (x0.nodes).length), (.vec p0_first_ 1 (x0.first_).length), (.vec p0_last_ 1 (x0.last_).length), (.vec p0_count 1 (x0.count).length), (eI x0.free), (eI x0.clock)]) (h0_nodes : σ.objs[p0_nodes]? = some (cL e_lists_link x0.nodes)) (h0_first_ : σ.objs[p0_first_]? = some (cL eI x0.first_)) (h0_last_ : σ.objs[p0_last_]? = some (cL eI x0.last_)) (h0_count : σ.objs[p0_count]? = some (cL eI x0.count)) (hd : [p0, p0_nodes, p0_first_, p0_last_, p0_count].Pairwise fun a b => a ≠ b) : ACall Tryd.prog 75 [(.ref p0 0), (eI x1)] σ (fun a τ => a = .tup [] ∧ τ = σ.puts [(p0, [(.vec p0_nodes 4 (r.nodes).length), (.vec p0_first_ 1 (r.first_).length), (.vec p0_last_ 1 (r.last_).length), (.vec p0_count 1 (r.count).length), (eI r.free), (eI r.clock)]), (p0_nodes, (cL e_lists_link r.nodes)), (p0_first_, (cL eI r.first_)), (p0_last_, (cL eI r.last_)), (p0_count, (cL eI r.count))]) := by
 unfold lists_Lists_pull at H
 refine ACall.outB [(p0, [(.vec p0_nodes 4 (r.nodes).length), (.vec p0_first_ 1 (r.first_).length), (.vec p0_last_ 1 (r.last_).length), (.vec p0_count 1 (r.count).length), (eI r.free), (eI r.clock)]), (p0_nodes, (cL e_lists_link r.nodes)), (p0_first_, (cL eI r.first_)), (p0_last_, (cL eI r.last_)), (p0_count, (cL eI r.count))] (by simp only [List.mem_cons, List.not_mem_nil, or_false]; rintro _ (rfl | rfl | rfl | rfl | rfl) <;> first | exact cut_cL enc106.cut _ _ _ | exact cut_cL (enc_i64 td3 sz3).cut _ _ _ | (simp only [cutL, cut_vec_id (idl_get h0_nodes), cut_vec_id (idl_get h0_first_), cut_vec_id (idl_get h0_last_), cut_vec_id (idl_get h0_count), (enc_i64 td3 sz3).cut _ _]; done)) (acall_start tk Tryd.func75 (by decide) rfl (nb rfl) ?_)
 have hH := Holds.brings (σ := σ) [(p0, [(.vec p0_nodes 4 (x0.nodes).length), (.vec p0_first_ 1 (x0.first_).length), (.vec p0_last_ 1 (x0.last_).length), (.vec p0_count 1 (x0.count).length), (eI x0.free), (eI x0.clock)]), (p0_nodes, (cL e_lists_link x0.nodes)), (p0_first_, (cL eI x0.first_)), (p0_last_, (cL eI x0.last_)), (p0_count, (cL eI x0.count))] (by simp only [List.mem_cons, List.not_mem_nil, or_false]; rintro _ (rfl | rfl | rfl | rfl | rfl) <;> assumption) hd
 refine sr rfl (mm tk (.ref p0 0) rfl rfl (mc tk (.ref p0 0) rfl rfl (fun _ => rfl) (mc tk (.ref p0 0) rfl rfl (fun _ => rfl) (wpo_rd (a := (.vec p0_nodes 4 (x0.nodes).length)) rfl rfl rfl (h_ld tk hH 0 rfl rfl rfl) (mm tk (eI x1) rfl rfl ?_)))))
 refine b_ H (fun _ => .ref p0_nodes (0 + (x1 : Int).toNat * 4 + 0)) rfl (fun v2 hv => o_vecx tk hv td102 sz106 (by decide) rfl rfl) fun v2 hv2 H1 => ?_
 refine wpo_bdr H1 (fun y => e_lists_link y) rfl rfl rfl (fun v4 hv => h_ldx tk hH 1 hv rfl enc106 (acut_enc enc106 rfl _) (by decide) rfl) fun v4 hv4 H3 => ?_
 refine wpo_a (av := fun id => .ref id 0) rfl rfl rfl (h_alloc tk hH ty106 (c_lists_link z_lists_link) rfl) fun id5 τ ⟨hH, n6⟩ => ?_
 obtain ⟨c8, hc9, H7⟩ := lt_ex H3
 refine wpo_z rfl rfl (h_st tk hH 0 rfl ty106 (by simp) rfl rfl wr (b := (e_lists_link v4)) (enc106.flat _) rfl (nb rfl) (c_lists_link c8) (by rw [← hc9]; rfl)) fun τ hH => ?_
 refine wpo_nil (awp_seq (sr rfl (mc tk (.ref id5 0) rfl rfl (fun _ => rfl) (wpo_rd (a := (eI c8.ahead)) rfl rfl rfl (h_ld tk hH 0 rfl rfl rfl) ?_))))
 refine l_ H7 eB rfl (o_ar tk rfl rfl rfl) fun v11 H10 => ?_
 refine wpo_nil ?_
 obtain ⟨s12, hs14, hj15⟩ := ob H10
 refine awp_cutn (fun fr τ => WkF fr (fm [(0, (.ref p0 0)), (4, (.ref id5 0))]) ∧ Holds σ [(id5, (c_lists_link c8)), (p0, [(.vec p0_nodes 4 (s12.1).length), (.vec p0_first_ 1 (s12.2).length), (.vec p0_last_ 1 (x0.last_).length), (.vec p0_count 1 (x0.count).length), (eI x0.free), (eI x0.clock)]), (p0_nodes, (cL e_lists_link s12.1)), (p0_first_, (cL eI s12.2)), (p0_last_, (cL eI x0.last_)), (p0_count, (cL eI x0.count))] [] τ) ?_ ?_
 ·rintro fr τ ⟨hfr, hH⟩
  have H27 := hj15
  refine AWP.fm [(0, (.ref p0 0)), (4, (.ref id5 0))] hfr ?_
  refine awp_seq (sr rfl (mc tk (.ref id5 1) rfl rfl (fun _ => rfl) (wpo_rd (a := (eI c8.behind)) rfl rfl rfl (h_ld tk hH 0 rfl rfl rfl) ?_)))
  refine l_ H27 eB rfl (o_ar tk rfl rfl rfl) fun v29 H28 => ?_
  refine wpo_nil ?_
  obtain ⟨s30, hs32, hj33⟩ := ob H28
  refine awp_cutn (fun fr τ => WkF fr (fm [(0, (.ref p0 0)), (4, (.ref id5 0))]) ∧ Holds σ [(id5, (c_lists_link c8)), (p0, [(.vec p0_nodes 4 (s30.1).length), (.vec p0_first_ 1 (s12.2).length), (.vec p0_last_ 1 (s30.2).length), (.vec p0_count 1 (x0.count).length), (eI x0.free), (eI x0.clock)]), (p0_nodes, (cL e_lists_link s30.1)), (p0_first_, (cL eI s12.2)), (p0_last_, (cL eI s30.2)), (p0_count, (cL eI x0.count))] [] τ) ?_ ?_
  ·rintro fr τ ⟨hfr, hH⟩
   have H45 := hj33
   refine AWP.fm [(0, (.ref p0 0)), (4, (.ref id5 0))] hfr ?_
   refine awp_drawS mixed [10] rfl (by decide +kernel) rfl rfl ?_
   refine wpdS_mv (a := (.ref p0 0)) rfl rfl rfl (o_mv tk rfl (Wk.refl _)) (wpdS_mv (a := (.ref p0 0)) rfl rfl rfl (o_c tk false rfl (fun _ => rfl)) (wpdS_mv (a := (.ref p0 3)) rfl rfl rfl (o_c tk false rfl (fun _ => rfl)) (wpdS_rd (a := (.vec p0_count 1 (x0.count).length)) rfl (by decide +kernel) rfl rfl (h_ld tk hH 1 rfl rfl rfl) (wpdS_mv (a := (.ref id5 2)) rfl rfl rfl (o_c tk false rfl (fun _ => rfl)) (wpdS_rd (a := (eI c8.list)) rfl (by decide +kernel) rfl rfl (h_ld tk hH 0 rfl rfl rfl) ?_)))))
   refine wpdS_bd H45 (fun _ => .ref p0_count (0 + (c8.list : Int).toNat * 1 + 0)) rfl rfl rfl (fun v47 hv => o_vecx tk hv td70 sz3 (by decide) rfl rfl) fun v47 hv47 H46 => ?_
   refine wpdS_bdr H46 (fun y => eI y) rfl (by decide +kernel) rfl rfl (fun v49 hv => h_ldx tk hH 5 hv rfl (enc_i64 td3 sz3) (acut_enc (enc_i64 td3 sz3) rfl _) (by decide) rfl) fun v49 hv49 H48 => ?_
   refine wpdS_lt H48 eI rfl rfl rfl (o_ar tk rfl rfl rfl) fun v51 H50 => ?_
   refine wpdS_bd H50 (fun _ => .ref p0_count (0 + (c8.list : Int).toNat * 1 + 0)) rfl rfl rfl (fun v53 hv => o_vecx tk hv td70 sz3 (by decide) rfl rfl) fun v53 hv53 H52 => ?_
   obtain ⟨c55, hc56, H54⟩ := ob H52
   refine wpdS_z rfl rfl rfl (h_stx tk hH 5 hc56 rfl (enc_i64 td3 sz3) ty3 (by simp) rfl rfl wr (b := (eI v51)) rfl rfl (by decide) (fun _ => rfl)) fun τ hH => ?_
   refine wpdS_nil ?_
   have hH : Holds σ [(id5, (c_lists_link c8)), (p0, [(.vec p0_nodes 4 (s30.1).length), (.vec p0_first_ 1 (s12.2).length), (.vec p0_last_ 1 (s30.2).length), (.vec p0_count 1 (c55).length), (eI x0.free), (eI x0.clock)]), (p0_nodes, (cL e_lists_link s30.1)), (p0_first_, (cL eI s12.2)), (p0_last_, (cL eI s30.2)), (p0_count, (cL eI c55))] [] _ := (Holds.cells hH 1 [(.vec p0_nodes 4 (s30.1).length), (.vec p0_first_ 1 (s12.2).length), (.vec p0_last_ 1 (s30.2).length), (.vec p0_count 1 (c55).length), (eI x0.free), (eI x0.clock)] rfl (by first | rfl | simp only [updA_len hc56]))
   obtain rfl := oi H54
   exact ⟨_, (.tup []), rfl, wr, .of_eq rfl, (hH.noT.drop n6)⟩
  ·refine awp_if hs32 rfl (fun H34 => ?_) (fun H34 => ?_)
   ·refine awp_drawS mixed [9] rfl (by decide +kernel) rfl rfl ?_
    refine wpdS_mv (a := (.ref p0 0)) rfl rfl rfl (o_mv tk rfl (Wk.refl _)) (wpdS_mv (a := (.ref p0 0)) rfl rfl rfl (o_c tk false rfl (fun _ => rfl)) (wpdS_mv (a := (.ref p0 2)) rfl rfl rfl (o_c tk false rfl (fun _ => rfl)) (wpdS_rd (a := (.vec p0_last_ 1 (x0.last_).length)) rfl (by decide +kernel) rfl rfl (h_ld tk hH 1 rfl rfl rfl) (wpdS_mv (a := (.ref id5 2)) rfl rfl rfl (o_c tk false rfl (fun _ => rfl)) (wpdS_rd (a := (eI c8.list)) rfl (by decide +kernel) rfl rfl (h_ld tk hH 0 rfl rfl rfl) (wpdS_mv (a := (.ref id5 0)) rfl rfl rfl (o_c tk false rfl (fun _ => rfl)) (wpdS_rd (a := (eI c8.ahead)) rfl (by decide +kernel) rfl rfl (h_ld tk hH 0 rfl rfl rfl) ?_)))))))
    refine wpdS_bd H34 (fun _ => .ref p0_last_ (0 + (c8.list : Int).toNat * 1 + 0)) rfl rfl rfl (fun v36 hv => o_vecx tk hv td70 sz3 (by decide) rfl rfl) fun v36 hv36 H35 => ?_
    obtain ⟨c38, hc39, H37⟩ := ob H35
    refine wpdS_z rfl rfl rfl (h_stx tk hH 4 hc39 rfl (enc_i64 td3 sz3) ty3 (by simp) rfl rfl wr (b := (eI c8.ahead)) rfl rfl (by decide) (fun _ => rfl)) fun τ hH => ?_
    refine wpdS_nil ?_
    have e := oi H37
    subst e
    exact ⟨(wc (wc (wkf_nil _))), (Holds.cells hH 1 [(.vec p0_nodes 4 (s12.1).length), (.vec p0_first_ 1 (s12.2).length), (.vec p0_last_ 1 (c38).length), (.vec p0_count 1 (x0.count).length), (eI x0.free), (eI x0.clock)] rfl (by first | rfl | simp only [updA_len hc39]))⟩
   ·refine awp_drawS mixed [10] rfl (by decide +kernel) rfl rfl ?_
    refine wpdS_mv (a := (.ref p0 0)) rfl rfl rfl (o_mv tk rfl (Wk.refl _)) (wpdS_mv (a := (.ref p0 0)) rfl rfl rfl (o_c tk false rfl (fun _ => rfl)) (wpdS_mv (a := (.ref p0 0)) rfl rfl rfl (o_c tk false rfl (fun _ => rfl)) (wpdS_rd (a := (.vec p0_nodes 4 (s12.1).length)) rfl (by decide +kernel) rfl rfl (h_ld tk hH 1 rfl rfl rfl) (wpdS_mv (a := (.ref id5 1)) rfl rfl rfl (o_c tk false rfl (fun _ => rfl)) (wpdS_rd (a := (eI c8.behind)) rfl (by decide +kernel) rfl rfl (h_ld tk hH 0 rfl rfl rfl) (wpdS_mv (a := (.ref id5 0)) rfl rfl rfl (o_c tk false rfl (fun _ => rfl)) (wpdS_rd (a := (eI c8.ahead)) rfl (by decide +kernel) rfl rfl (h_ld tk hH 0 rfl rfl rfl) ?_)))))))
    refine wpdS_bd H34 (fun _ => .ref p0_nodes (0 + (c8.behind : Int).toNat * 4 + 0)) rfl rfl rfl (fun v41 hv => o_vecx tk hv td102 sz106 (by decide) rfl rfl) fun v41 hv41 H40 => ?_
    refine wpdS_mv (a := (.ref p0_nodes (0 + (c8.behind : Int).toNat * 4 + 0))) rfl rfl rfl (o_c tk false rfl (fun _ => rfl)) ?_
    obtain ⟨c43, hc44, H42⟩ := ob H40
    refine wpdS_z rfl rfl rfl (h_stx tk hH 2 hc44 rfl enc106 ty3 (by simp) rfl rfl wr (b := (eI c8.ahead)) rfl rfl (by decide) (fun _ => rfl)) fun τ hH => ?_
    refine wpdS_nil ?_
    have e := oi H42
    subst e
    exact ⟨(wc (wc (wkf_nil _))), (Holds.cells hH 1 [(.vec p0_nodes 4 (c43).length), (.vec p0_first_ 1 (s12.2).length), (.vec p0_last_ 1 (x0.last_).length), (.vec p0_count 1 (x0.count).length), (eI x0.free), (eI x0.clock)] rfl (by first | rfl | simp only [updA_len hc44]))⟩
 ·refine awp_if hs14 rfl (fun H16 => ?_) (fun H16 => ?_)
  ·refine awp_drawS mixed [9] rfl (by decide +kernel) rfl rfl ?_
   refine wpdS_mv (a := (.ref p0 0)) rfl rfl rfl (o_mv tk rfl (Wk.refl _)) (wpdS_mv (a := (.ref p0 0)) rfl rfl rfl (o_c tk false rfl (fun _ => rfl)) (wpdS_mv (a := (.ref p0 1)) rfl rfl rfl (o_c tk false rfl (fun _ => rfl)) (wpdS_rd (a := (.vec p0_first_ 1 (x0.first_).length)) rfl (by decide +kernel) rfl rfl (h_ld tk hH 1 rfl rfl rfl) (wpdS_mv (a := (.ref id5 2)) rfl rfl rfl (o_c tk false rfl (fun _ => rfl)) (wpdS_rd (a := (eI c8.list)) rfl (by decide +kernel) rfl rfl (h_ld tk hH 0 rfl rfl rfl) (wpdS_mv (a := (.ref id5 1)) rfl rfl rfl (o_c tk false rfl (fun _ => rfl)) (wpdS_rd (a := (eI c8.behind)) rfl (by decide +kernel) rfl rfl (h_ld tk hH 0 rfl rfl rfl) ?_)))))))
   refine wpdS_bd H16 (fun _ => .ref p0_first_ (0 + (c8.list : Int).toNat * 1 + 0)) rfl rfl rfl (fun v18 hv => o_vecx tk hv td70 sz3 (by decide) rfl rfl) fun v18 hv18 H17 => ?_
   obtain ⟨c20, hc21, H19⟩ := ob H17
   refine wpdS_z rfl rfl rfl (h_stx tk hH 3 hc21 rfl (enc_i64 td3 sz3) ty3 (by simp) rfl rfl wr (b := (eI c8.behind)) rfl rfl (by decide) (fun _ => rfl)) fun τ hH => ?_
   refine wpdS_nil ?_
   have e := oi H19
   subst e
   exact ⟨(wc (wc (wkf_nil _))), (Holds.cells hH 1 [(.vec p0_nodes 4 (x0.nodes).length), (.vec p0_first_ 1 (c20).length), (.vec p0_last_ 1 (x0.last_).length), (.vec p0_count 1 (x0.count).length), (eI x0.free), (eI x0.clock)] rfl (by first | rfl | simp only [updA_len hc21]))⟩
  ·refine awp_drawS mixed [10] rfl (by decide +kernel) rfl rfl ?_
   refine wpdS_mv (a := (.ref p0 0)) rfl rfl rfl (o_mv tk rfl (Wk.refl _)) (wpdS_mv (a := (.ref p0 0)) rfl rfl rfl (o_c tk false rfl (fun _ => rfl)) (wpdS_mv (a := (.ref p0 0)) rfl rfl rfl (o_c tk false rfl (fun _ => rfl)) (wpdS_rd (a := (.vec p0_nodes 4 (x0.nodes).length)) rfl (by decide +kernel) rfl rfl (h_ld tk hH 1 rfl rfl rfl) (wpdS_mv (a := (.ref id5 0)) rfl rfl rfl (o_c tk false rfl (fun _ => rfl)) (wpdS_rd (a := (eI c8.ahead)) rfl (by decide +kernel) rfl rfl (h_ld tk hH 0 rfl rfl rfl) (wpdS_mv (a := (.ref id5 1)) rfl rfl rfl (o_c tk false rfl (fun _ => rfl)) (wpdS_rd (a := (eI c8.behind)) rfl (by decide +kernel) rfl rfl (h_ld tk hH 0 rfl rfl rfl) ?_)))))))
   refine wpdS_bd H16 (fun _ => .ref p0_nodes (0 + (c8.ahead : Int).toNat * 4 + 0)) rfl rfl rfl (fun v23 hv => o_vecx tk hv td102 sz106 (by decide) rfl rfl) fun v23 hv23 H22 => ?_
   refine wpdS_mv (a := (.ref p0_nodes (0 + (c8.ahead : Int).toNat * 4 + 1))) rfl rfl rfl (o_c tk false rfl (fun _ => rfl)) ?_
   obtain ⟨c25, hc26, H24⟩ := ob H22
   refine wpdS_z rfl rfl rfl (h_stx tk hH 2 hc26 rfl enc106 ty3 (by simp) rfl rfl wr (b := (eI c8.behind)) rfl rfl (by decide) (fun _ => rfl)) fun τ hH => ?_
   refine wpdS_nil ?_
   have e := oi H24
   subst e
   exact ⟨(wc (wc (wkf_nil _))), (Holds.cells hH 1 [(.vec p0_nodes 4 (c25).length), (.vec p0_first_ 1 (x0.first_).length), (.vec p0_last_ 1 (x0.last_).length), (.vec p0_count 1 (x0.count).length), (eI x0.free), (eI x0.clock)] rfl (by first | rfl | simp only [updA_len hc26]))⟩
theorem lists_Lists_Drop_ok {x0 : lists_Lists} {x1 : Int} {r : Err × lists_Lists} (H : lists_Lists_Drop x0 x1 = some r) (σ : St) {p0 p0_nodes p0_first_ p0_last_ p0_count : Nat} (h0 : σ.objs[p0]? = some [(.vec p0_nodes 4 (x0.nodes).length), (.vec p0_first_ 1 (x0.first_).length), (.vec p0_last_ 1 (x0.last_).length), (.vec p0_count 1 (x0.count).length), (eI x0.free), (eI x0.clock)]) (h0_nodes : σ.objs[p0_nodes]? = some (cL e_lists_link x0.nodes)) (h0_first_ : σ.objs[p0_first_]? = some (cL eI x0.first_)) (h0_last_ : σ.objs[p0_last_]? = some (cL eI x0.last_)) (h0_count : σ.objs[p0_count]? = some (cL eI x0.count)) (hd : [p0, p0_nodes, p0_first_, p0_last_, p0_count].Pairwise fun a b => a ≠ b) : ACall Tryd.prog 62 [(.ref p0 0), (eI x1)] σ (fun a τ => a = eErr r.1 ∧ τ = σ.puts [(p0, [(.vec p0_nodes 4 (r.2.nodes).length), (.vec p0_first_ 1 (r.2.first_).length), (.vec p0_last_ 1 (r.2.last_).length), (.vec p0_count 1 (r.2.count).length), (eI r.2.free), (eI r.2.clock)]), (p0_nodes, (cL e_lists_link r.2.nodes)), (p0_first_, (cL eI r.2.first_)), (p0_last_, (cL eI r.2.last_)), (p0_count, (cL eI r.2.count))]) := by
 unfold lists_Lists_Drop at H
 refine ACall.outB [(p0, [(.vec p0_nodes 4 (r.2.nodes).length), (.vec p0_first_ 1 (r.2.first_).length), (.vec p0_last_ 1 (r.2.last_).length), (.vec p0_count 1 (r.2.count).length), (eI r.2.free), (eI r.2.clock)]), (p0_nodes, (cL e_lists_link r.2.nodes)), (p0_first_, (cL eI r.2.first_)), (p0_last_, (cL eI r.2.last_)), (p0_count, (cL eI r.2.count))] (by simp only [List.mem_cons, List.not_mem_nil, or_false]; rintro _ (rfl | rfl | rfl | rfl | rfl) <;> first | exact cut_cL enc106.cut _ _ _ | exact cut_cL (enc_i64 td3 sz3).cut _ _ _ | (simp only [cutL, cut_vec_id (idl_get h0_nodes), cut_vec_id (idl_get h0_first_), cut_vec_id (idl_get h0_last_), cut_vec_id (idl_get h0_count), (enc_i64 td3 sz3).cut _ _]; done)) (acall_start tk Tryd.func62 (by decide) rfl (nb rfl) ?_)
 have hH := Holds.brings (σ := σ) [(p0, [(.vec p0_nodes 4 (x0.nodes).length), (.vec p0_first_ 1 (x0.first_).length), (.vec p0_last_ 1 (x0.last_).length), (.vec p0_count 1 (x0.count).length), (eI x0.free), (eI x0.clock)]), (p0_nodes, (cL e_lists_link x0.nodes)), (p0_first_, (cL eI x0.first_)), (p0_last_, (cL eI x0.last_)), (p0_count, (cL eI x0.count))] (by simp only [List.mem_cons, List.not_mem_nil, or_false]; rintro _ (rfl | rfl | rfl | rfl | rfl) <;> assumption) hd
 refine sr rfl (ma tk (eErr Err.nil) rfl rfl (wpo_nil (awp_seq (sr rfl (mm tk (.ref p0 0) rfl rfl (mm tk (eI x1) rfl rfl ?_))))))
 refine wpo_bdr H eErr rfl rfl rfl (fun v2 hv => h_callr rfl rfl (.cons wr (.cons wr (.cons wr .nil))) (lists_Lists_at_ok hv _ (hH.at_ 0 rfl) (hH.at_ 1 rfl) (hH.at_ 2 rfl) (hH.at_ 3 rfl) (hH.at_ 4 rfl) (hH.pw [0, 1, 2, 3, 4] rfl (by decide)))) fun v2 hv2 H1 => ?_
 refine ma tk (eErr v2) rfl rfl (wpo_nil (sr rfl (mm tk (eErr v2) rfl rfl ?_)))
 refine l_ H1 eB rfl (o_err_neq tk rfl rfl rfl) fun v4 H3 => ?_
 refine wpo_nil ?_
 refine awp_if H3 rfl (fun H5 => ?_) (fun H5 => ?_)
 ·refine sr rfl (mm tk (eErr v2) rfl rfl (ma tk (eErr v2) rfl rfl (wpo_nil (awp_ret ?_))))
  obtain rfl := oi H5
  exact ⟨_, (eErr v2), rfl, wr, .of_eq (encErr.cut _ _ _), hH.noT⟩
 ·refine awp_skip (sr rfl (mm tk (.ref p0 0) rfl rfl (mm tk (eI x1) rfl rfl ?_)))
  refine wpo_cb H5 (fun x _ => .tup []) rfl rfl rfl (fun v7 hv => h_call1 hH [(0, (p0, [(.vec p0_nodes 4 (v7.nodes).length), (.vec p0_first_ 1 (v7.first_).length), (.vec p0_last_ 1 (v7.last_).length), (.vec p0_count 1 (v7.count).length), (eI v7.free), (eI v7.clock)])), (1, (p0_nodes, (cL e_lists_link v7.nodes))), (2, (p0_first_, (cL eI v7.first_))), (3, (p0_last_, (cL eI v7.last_))), (4, (p0_count, (cL eI v7.count)))] ⟨⟨_, rfl⟩, ⟨⟨_, rfl⟩, ⟨⟨_, rfl⟩, ⟨⟨_, rfl⟩, ⟨⟨_, rfl⟩, trivial⟩⟩⟩⟩⟩ rfl rfl (.cons wr (.cons wr .nil)) (lists_Lists_pull_ok hv _ (hH.at_ 0 rfl) (hH.at_ 1 rfl) (hH.at_ 2 rfl) (hH.at_ 3 rfl) (hH.at_ 4 rfl) (hH.pw [0, 1, 2, 3, 4] rfl (by decide)))) fun v7 _ τ hv7 H6 (hH : Holds σ [(p0, [(.vec p0_nodes 4 (v7.nodes).length), (.vec p0_first_ 1 (v7.first_).length), (.vec p0_last_ 1 (v7.last_).length), (.vec p0_count 1 (v7.count).length), (eI v7.free), (eI v7.clock)]), (p0_nodes, (cL e_lists_link v7.nodes)), (p0_first_, (cL eI v7.first_)), (p0_last_, (cL eI v7.last_)), (p0_count, (cL eI v7.count))] [] τ) => ?_
  refine wpo_nil (awp_seq ?_)
  refine awp_drawS mixed [11] rfl (by decide +kernel) rfl rfl ?_
  refine wpdS_mv (a := (.ref p0 0)) rfl rfl rfl (o_mv tk rfl (Wk.refl _)) (wpdS_mv (a := (.ref p0 0)) rfl rfl rfl (o_c tk false rfl (fun _ => rfl)) (wpdS_mv (a := (.ref p0 0)) rfl rfl rfl (o_c tk false rfl (fun _ => rfl)) (wpdS_rd (a := (.vec p0_nodes 4 (v7.nodes).length)) rfl (by decide +kernel) rfl rfl (h_ld tk hH 0 rfl rfl rfl) (wpdS_mv (a := (eI x1)) rfl rfl rfl (o_mv tk rfl (Wk.refl _)) (wpdS_mv (a := (.ref p0 0)) rfl rfl rfl (o_mv tk rfl (Wk.refl _)) (wpdS_mv (a := (.ref p0 0)) rfl rfl rfl (o_c tk false rfl (fun _ => rfl)) (wpdS_mv (a := (.ref p0 4)) rfl rfl rfl (o_c tk false rfl (fun _ => rfl)) (wpdS_rd (a := (eI v7.free)) rfl (by decide +kernel) rfl rfl (h_ld tk hH 0 rfl rfl rfl) ?_))))))))
  refine wpdS_lt H6 e_lists_link rfl rfl rfl (o_c tk false rfl (fun _ => rfl)) fun v9 H8 => ?_
  refine wpdS_bd H8 (fun _ => .ref p0_nodes (0 + (x1 : Int).toNat * 4 + 0)) rfl rfl rfl (fun v11 hv => o_vecx tk hv td102 sz106 (by decide) rfl rfl) fun v11 hv11 H10 => ?_
  obtain ⟨c13, hc14, H12⟩ := ob H10
  refine wpdS_z rfl rfl rfl (h_stx tk hH 1 hc14 rfl enc106 ty106 (by simp) rfl rfl wr (b := (e_lists_link v9)) (enc106.flat _) rfl (by decide) (fun _ => (repl_all (enc106.len _) (enc106.len _)))) fun τ hH => ?_
  refine wpdS_nil (sr rfl (mm tk (.ref p0 0) rfl rfl (mm tk (eI x1) rfl rfl (mc tk (.ref p0 0) rfl rfl (fun _ => rfl) (mc tk (.ref p0 4) rfl rfl (fun _ => rfl) ?_)))))
  refine wpo_z rfl rfl (h_st tk hH 0 rfl ty3 (by simp) rfl rfl wr (b := (eI x1)) rfl rfl (nb rfl) [(.vec p0_nodes 4 (v7.nodes).length), (.vec p0_first_ 1 (v7.first_).length), (.vec p0_last_ 1 (v7.last_).length), (.vec p0_count 1 (v7.count).length), (eI ({ v7 with free := x1 } : lists_Lists).free), (eI ({ v7 with free := x1 } : lists_Lists).clock)] rfl) fun τ hH => ?_
  refine wpo_nil (sr rfl (ma tk (eErr Err.nil) rfl rfl (wpo_nil (awp_ret ?_))))
  have hH : Holds σ [(p0, [(.vec p0_nodes 4 (c13).length), (.vec p0_first_ 1 (v7.first_).length), (.vec p0_last_ 1 (v7.last_).length), (.vec p0_count 1 (v7.count).length), (eI ({ v7 with free := x1 } : lists_Lists).free), (eI ({ v7 with free := x1 } : lists_Lists).clock)]), (p0_nodes, (cL e_lists_link c13)), (p0_first_, (cL eI v7.first_)), (p0_last_, (cL eI v7.last_)), (p0_count, (cL eI v7.count))] [] _ := (Holds.cells hH 0 [(.vec p0_nodes 4 (c13).length), (.vec p0_first_ 1 (v7.first_).length), (.vec p0_last_ 1 (v7.last_).length), (.vec p0_count 1 (v7.count).length), (eI ({ v7 with free := x1 } : lists_Lists).free), (eI ({ v7 with free := x1 } : lists_Lists).clock)] rfl (by first | rfl | simp only [updA_len hc14]))
  obtain rfl := oi H12
  exact ⟨_, (eErr Err.nil), rfl, wr, .of_eq (encErr.cut _ _ _), hH.noT⟩
theorem slab_Budget_Give_ok {x0 : slab_Budget} {x1 : Int} {r : Err × slab_Budget} (H : slab_Budget_Give x0 x1 = some r) (σ : St) {p0 : Nat} (h0 : σ.objs[p0]? = some (c_slab_Budget x0)) : ACall Tryd.prog 63 [(.ref p0 0), (eI x1)] σ (fun a τ => a = eErr r.1 ∧ τ = σ.puts [(p0, (c_slab_Budget r.2))]) := by
 unfold slab_Budget_Give at H
 refine ACall.out [(p0, (c_slab_Budget r.2))] (by simp only [List.mem_cons, List.not_mem_nil, or_false]; rintro _ (rfl) ρ κ <;> exact c_slab_Budget_cut ρ κ _) (acall_start tk Tryd.func63 (by decide) rfl (nb rfl) ?_)
 have hH := Holds.init σ
 have hH := hH.bring h0 (fun _ h => by cases h)
 refine sr rfl (ma tk (eErr Err.nil) rfl rfl (wpo_nil (sr rfl (mm tk (eI x1) rfl rfl ?_))))
 refine b_ H eI rfl (fun v2 hv => OpP.of_call rfl rfl (.cons wr .nil) (slab_Size_ok hv)) fun v2 hv2 H1 => ?_
 refine ma tk (eI v2) rfl rfl (wpo_nil (awp_seq (awp_block (sr rfl (mm tk (eI v2) rfl rfl ?_)))))
 refine l_ H1 eB rfl (o_ar tk rfl rfl rfl) fun v4 H3 => ?_
 refine ma tk (eB v4) rfl rfl (wpo_nil ?_)
 refine awp_if H3 rfl (fun H5 => ?_) (fun H5 => ?_)
 ·refine sr rfl (mm tk (eI x1) rfl rfl ?_)
  refine b_ H5 eErr rfl (fun v7 hv => OpP.of_call rfl rfl (.cons wr (.cons wr (.cons wr .nil))) (trouble_New_ok hv)) fun v7 hv7 H6 => ?_
  refine ma tk (eErr v7) rfl rfl (wpo_nil (awp_ret ?_))
  obtain rfl := oi H6
  exact ⟨_, (eErr v7), rfl, wr, .of_eq (encErr.cut _ _ _), hH.noT⟩
 ·refine sr rfl (mm tk (.ref p0 0) rfl rfl (mm tk (eI x1) rfl rfl (mc tk (.ref p0 0) rfl rfl (fun _ => rfl) (mc tk (.ref p0 2) rfl rfl (fun _ => rfl) ?_))))
  refine b_ H5 (fun _ => .ref p0 (2 + (x1 : Int).toNat * 1 + 0)) rfl (fun v9 hv => o_arrb tk hv td99 sz3 (by decide) rfl rfl) fun v9 hv9 H8 => ?_
  refine wpo_bdr H8 (fun y => eI y) rfl rfl rfl (fun v11 hv => h_ldb tk hH 0 hv rfl (sp_slab_Budget_count _) (al_slab_Budget_count _) (enc_i64 td3 sz3) (acut_enc (enc_i64 td3 sz3) rfl _) (by decide) rfl) fun v11 hv11 H10 => ?_
  refine l_ H10 eB rfl (o_ar tk rfl rfl rfl) fun v13 H12 => ?_
  refine ma tk (eB v13) rfl rfl (wpo_nil ?_)
  refine awp_if H12 rfl (fun H14 => ?_) (fun H14 => ?_)
  ·refine sr rfl (mm tk (eI x1) rfl rfl ?_)
   refine b_ H14 eErr rfl (fun v16 hv => OpP.of_call rfl rfl (.cons wr (.cons wr (.cons wr .nil))) (trouble_New_ok hv)) fun v16 hv16 H15 => ?_
   refine ma tk (eErr v16) rfl rfl (wpo_nil (awp_ret ?_))
   obtain rfl := oi H15
   exact ⟨_, (eErr v16), rfl, wr, .of_eq (encErr.cut _ _ _), hH.noT⟩
  ·refine awp_skip (sr rfl (mm tk (.ref p0 0) rfl rfl (mc tk (.ref p0 0) rfl rfl (fun _ => rfl) (mc tk (.ref p0 1) rfl rfl (fun _ => rfl) (wpo_rd (a := (eI x0.used)) rfl rfl rfl (h_ld tk hH 0 rfl (g_slab_Budget_used _) rfl) (mm tk (eI v2) rfl rfl ?_))))))
   refine l_ H14 eI rfl (o_ar tk rfl rfl rfl) fun v18 H17 => ?_
   refine mc tk (.ref p0 0) rfl rfl (fun _ => rfl) (mc tk (.ref p0 1) rfl rfl (fun _ => rfl) ?_)
   obtain ⟨c20, hc21, H19⟩ := lt_ex H17
   refine wpo_z rfl rfl (h_st tk hH 0 rfl ty3 (by simp) rfl rfl wr (b := (eI v18)) rfl rfl (by rw [cl_slab_Budget]; decide) (c_slab_Budget c20) (by rw [← hc21]; exact s_slab_Budget_used _ _)) fun τ hH => ?_
   refine wpo_nil (awp_seq ?_)
   refine awp_drawS mixed [10] rfl (by decide +kernel) rfl rfl ?_
   refine wpdS_mv (a := (.ref p0 0)) rfl rfl rfl (o_mv tk rfl (Wk.refl _)) (wpdS_mv (a := (eI x1)) rfl rfl rfl (o_mv tk rfl (Wk.refl _)) (wpdS_mv (a := (.ref p0 0)) rfl rfl rfl (o_c tk false rfl (fun _ => rfl)) (wpdS_mv (a := (.ref p0 2)) rfl rfl rfl (o_c tk false rfl (fun _ => rfl)) ?_)))
   refine wpdS_bd H19 (fun _ => .ref p0 (2 + (x1 : Int).toNat * 1 + 0)) rfl rfl rfl (fun v23 hv => o_arrb tk hv td99 sz3 (by decide) rfl rfl) fun v23 hv23 H22 => ?_
   refine wpdS_bdr H22 (fun y => eI y) rfl (by decide +kernel) rfl rfl (fun v25 hv => h_ldb tk hH 0 hv rfl (sp_slab_Budget_count _) (al_slab_Budget_count _) (enc_i64 td3 sz3) (acut_enc (enc_i64 td3 sz3) rfl _) (by decide) rfl) fun v25 hv25 H24 => ?_
   refine wpdS_lt H24 eI rfl rfl rfl (o_ar tk rfl rfl rfl) fun v27 H26 => ?_
   refine wpdS_mv (a := (.ref p0 0)) rfl rfl rfl (o_c tk false rfl (fun _ => rfl)) (wpdS_mv (a := (.ref p0 2)) rfl rfl rfl (o_c tk false rfl (fun _ => rfl)) ?_)
   refine wpdS_bd H26 (fun _ => .ref p0 (2 + (x1 : Int).toNat * 1 + 0)) rfl rfl rfl (fun v29 hv => o_arrb tk hv td99 sz3 (by decide) rfl rfl) fun v29 hv29 H28 => ?_
   obtain ⟨v31, hv32, H30⟩ := ob H28
   obtain ⟨c33, hc34, H35⟩ := lt_ex H30
   refine wpdS_z rfl rfl rfl (by rw [← hc34]; exact (h_stb tk hH 0 hv32 rfl (sp_slab_Budget_count _) (sp_slab_Budget_count { c20 with count := v31 }) (al_slab_Budget_count _) (enc_i64 td3 sz3) ty3 (by simp) rfl rfl wr (b := (eI v27)) rfl rfl (by decide) (fun _ => rfl))) fun τ (hH : Holds σ [(p0, (c_slab_Budget c33))] [] τ) => ?_
   refine wpdS_nil (sr rfl (ma tk (eErr Err.nil) rfl rfl (wpo_nil (awp_ret ?_))))
   obtain rfl := oi H35
   exact ⟨_, (eErr Err.nil), rfl, wr, .of_eq (encErr.cut _ _ _), hH.noT⟩
theorem ram_Ram_remove_ok {x0 : ram_Ram} {x1 : Int} {r : aEn × ram_Ram} (H : ram_Ram_remove x0 x1 = some r) (σ : St) {p0 p0B p0I p0N p0F p0L p0C p0H p0X p0G : Nat} (h0 : σ.objs[p0]? = some [(.ref p0B 0), (.ref p0I 0), (.vec p0H 1 (x0.heads).length), (.vec p0X 1 (x0.next_).length), (.vec p0G 5 (x0.things).length), (eI x0.count)]) (h0_budget : σ.objs[p0B]? = some (c_slab_Budget x0.budget)) (h0_lists : σ.objs[p0I]? = some [(.vec p0N 4 (x0.lists.nodes).length), (.vec p0F 1 (x0.lists.first_).length), (.vec p0L 1 (x0.lists.last_).length), (.vec p0C 1 (x0.lists.count).length), (eI x0.lists.free), (eI x0.lists.clock)]) (h0_lists_nodes : σ.objs[p0N]? = some (cL e_lists_link x0.lists.nodes)) (h0_lists_first_ : σ.objs[p0F]? = some (cL eI x0.lists.first_)) (h0_lists_last_ : σ.objs[p0L]? = some (cL eI x0.lists.last_)) (h0_lists_count : σ.objs[p0C]? = some (cL eI x0.lists.count)) (h0_heads : σ.objs[p0H]? = some (cL eI x0.heads)) (h0_next_ : σ.objs[p0X]? = some (cL eI x0.next_)) (h0_things : σ.objs[p0G]? = some (cL e_aEn x0.things)) (hd : [p0, p0B, p0I, p0N, p0F, p0L, p0C, p0H, p0X, p0G].Pairwise fun a b => a ≠ b) : ACall Tryd.prog 36 [(.ref p0 0), (eI x1)] σ (fun a τ => a = e_aEn r.1 ∧ τ = σ.puts [(p0, [(.ref p0B 0), (.ref p0I 0), (.vec p0H 1 (r.2.heads).length), (.vec p0X 1 (r.2.next_).length), (.vec p0G 5 (r.2.things).length), (eI r.2.count)]), (p0B, (c_slab_Budget r.2.budget)), (p0I, [(.vec p0N 4 (r.2.lists.nodes).length), (.vec p0F 1 (r.2.lists.first_).length), (.vec p0L 1 (r.2.lists.last_).length), (.vec p0C 1 (r.2.lists.count).length), (eI r.2.lists.free), (eI r.2.lists.clock)]), (p0N, (cL e_lists_link r.2.lists.nodes)), (p0F, (cL eI r.2.lists.first_)), (p0L, (cL eI r.2.lists.last_)), (p0C, (cL eI r.2.lists.count)), (p0H, (cL eI r.2.heads)), (p0X, (cL eI r.2.next_)), (p0G, (cL e_aEn r.2.things))]) := by
 unfold ram_Ram_remove at H
 refine ACall.outB [(p0, [(.ref p0B 0), (.ref p0I 0), (.vec p0H 1 (r.2.heads).length), (.vec p0X 1 (r.2.next_).length), (.vec p0G 5 (r.2.things).length), (eI r.2.count)]), (p0B, (c_slab_Budget r.2.budget)), (p0I, [(.vec p0N 4 (r.2.lists.nodes).length), (.vec p0F 1 (r.2.lists.first_).length), (.vec p0L 1 (r.2.lists.last_).length), (.vec p0C 1 (r.2.lists.count).length), (eI r.2.lists.free), (eI r.2.lists.clock)]), (p0N, (cL e_lists_link r.2.lists.nodes)), (p0F, (cL eI r.2.lists.first_)), (p0L, (cL eI r.2.lists.last_)), (p0C, (cL eI r.2.lists.count)), (p0H, (cL eI r.2.heads)), (p0X, (cL eI r.2.next_)), (p0G, (cL e_aEn r.2.things))] (by simp only [List.mem_cons, List.not_mem_nil, or_false]; rintro _ (rfl | rfl | rfl | rfl | rfl | rfl | rfl | rfl | rfl | rfl) <;> first | exact c_slab_Budget_cut _ _ _ | exact cut_cL enc106.cut _ _ _ | exact cut_cL (enc_i64 td3 sz3).cut _ _ _ | exact cut_cL enc39.cut _ _ _ | (simp only [cutL, cut_ref_id (idl_get h0_budget), cut_ref_id (idl_get h0_lists), cut_vec_id (idl_get h0_heads), cut_vec_id (idl_get h0_next_), cut_vec_id (idl_get h0_things), (enc_i64 td3 sz3).cut _ _]; done) | (simp only [cutL, cut_vec_id (idl_get h0_lists_nodes), cut_vec_id (idl_get h0_lists_first_), cut_vec_id (idl_get h0_lists_last_), cut_vec_id (idl_get h0_lists_count), (enc_i64 td3 sz3).cut _ _]; done)) (acall_start tk Tryd.func36 (by decide) rfl (nb rfl) ?_)
 have hH := Holds.brings (σ := σ) [(p0, [(.ref p0B 0), (.ref p0I 0), (.vec p0H 1 (x0.heads).length), (.vec p0X 1 (x0.next_).length), (.vec p0G 5 (x0.things).length), (eI x0.count)]), (p0B, (c_slab_Budget x0.budget)), (p0I, [(.vec p0N 4 (x0.lists.nodes).length), (.vec p0F 1 (x0.lists.first_).length), (.vec p0L 1 (x0.lists.last_).length), (.vec p0C 1 (x0.lists.count).length), (eI x0.lists.free), (eI x0.lists.clock)]), (p0N, (cL e_lists_link x0.lists.nodes)), (p0F, (cL eI x0.lists.first_)), (p0L, (cL eI x0.lists.last_)), (p0C, (cL eI x0.lists.count)), (p0H, (cL eI x0.heads)), (p0X, (cL eI x0.next_)), (p0G, (cL e_aEn x0.things))] (by simp only [List.mem_cons, List.not_mem_nil, or_false]; rintro _ (rfl | rfl | rfl | rfl | rfl | rfl | rfl | rfl | rfl | rfl) <;> assumption) hd
 refine sr rfl ?_
 refine wpo_a (av := fun id => .ref id 0) rfl rfl rfl (h_alloc tk hH ty39 [(eS z_aEn.Key), (eI z_aEn.Version), (eI z_aEn.AsOf), (eI z_aEn.Ends), AV.nils] rfl) fun id1 τ ⟨hH, n2⟩ => ?_
 refine wpo_nil (sr rfl (mm tk (.ref p0 0) rfl rfl (mc tk (.ref p0 0) rfl rfl (fun _ => rfl) (mc tk (.ref p0 4) rfl rfl (fun _ => rfl) (wpo_rd (a := (.vec p0G 5 (x0.things).length)) rfl rfl rfl (h_ld tk hH 1 rfl rfl rfl) (mm tk (eI x1) rfl rfl ?_))))))
 refine b_ H (fun _ => .ref p0G (0 + (x1 : Int).toNat * 5 + 0)) rfl (fun v4 hv => o_vecx tk hv td31 sz39 (by decide) rfl rfl) fun v4 hv4 H3 => ?_
 refine wpo_bdr H3 (fun y => e_aEn y) rfl rfl rfl (fun v6 hv => h_ldx tk hH 10 hv rfl enc39 (acut_enc enc39 rfl _) (by decide) rfl) fun v6 hv6 H5 => ?_
 refine wpo_a (av := fun id => .ref id 0) rfl rfl rfl (h_alloc tk hH ty39 [(eS z_aEn.Key), (eI z_aEn.Version), (eI z_aEn.AsOf), (eI z_aEn.Ends), AV.nils] rfl) fun id7 τ ⟨hH, n8⟩ => ?_
 refine wpo_z rfl rfl (h_st tk hH 0 rfl ty39 (by simp) rfl rfl wr (b := (e_aEn v6)) (enc39.flat _) rfl (nb rfl) (c_aEn (v6 : aEn)) rfl) fun τ hH => ?_
 refine wpo_nil (sr rfl (mm tk (.ref p0 0) rfl rfl (mc tk (.ref id7 0) rfl rfl (fun _ => rfl) (wpo_rd (a := (eS (v6 : aEn).Key)) rfl rfl rfl (h_ld tk hH 0 rfl rfl rfl) ?_))))
 refine wpo_bdr H5 (fun r => .ref p0H (0 + (r : Int).toNat * 1 + 0)) rfl rfl rfl (fun v11 hv => h_callr rfl rfl (.cons wr (.cons wr .nil)) (ram_Ram_head_ok hv _ (hH.at_ 2 rfl) (hH.at_ 3 rfl) (hH.at_ 4 rfl) (hH.at_ 5 rfl) (hH.at_ 6 rfl) (hH.at_ 7 rfl) (hH.at_ 8 rfl) (hH.at_ 9 rfl) (hH.at_ 10 rfl) (hH.at_ 11 rfl) (hH.pw [2, 3, 4, 5, 6, 7, 8, 9, 10, 11] rfl (by decide)))) fun v11 hv11 H10 => ?_
 refine ma tk (.ref p0H (0 + (v11 : Int).toNat * 1 + 0)) rfl rfl (wpo_nil (awp_seq (awp_block ?_)))
 obtain ⟨s20, hs14, hj15⟩ := ob H10
 refine awp_cutx 0 (fun fr τ => WkF fr (fm [(0, (.ref p0 0)), (1, (eI x1)), (4, (.ref id1 0)), (5, (.ref id7 0)), (6, (.ref (if s20.1 = true then p0H else p0X) (0 + (s20.2 : Int).toNat * 1 + 0)))]) ∧ Holds σ [(id7, (c_aEn (v6 : aEn))), (id1, [(eS z_aEn.Key), (eI z_aEn.Version), (eI z_aEn.AsOf), (eI z_aEn.Ends), AV.nils]), (p0, [(.ref p0B 0), (.ref p0I 0), (.vec p0H 1 (x0.heads).length), (.vec p0X 1 (x0.next_).length), (.vec p0G 5 (x0.things).length), (eI x0.count)]), (p0B, (c_slab_Budget x0.budget)), (p0I, [(.vec p0N 4 (x0.lists.nodes).length), (.vec p0F 1 (x0.lists.first_).length), (.vec p0L 1 (x0.lists.last_).length), (.vec p0C 1 (x0.lists.count).length), (eI x0.lists.free), (eI x0.lists.clock)]), (p0N, (cL e_lists_link x0.lists.nodes)), (p0F, (cL eI x0.lists.first_)), (p0L, (cL eI x0.lists.last_)), (p0C, (cL eI x0.lists.count)), (p0H, (cL eI x0.heads)), (p0X, (cL eI x0.next_)), (p0G, (cL e_aEn x0.things))] [] τ) ?_ ?_
 ·rintro fr τ ⟨hfr, hH⟩
  have H46 := hj15
  refine AWP.fm [(0, (.ref p0 0)), (1, (eI x1)), (4, (.ref id1 0)), (5, (.ref id7 0)), (6, (.ref (if s20.1 = true then p0H else p0X) (0 + (s20.2 : Int).toNat * 1 + 0)))] hfr ?_
  refine awp_seq ?_
  obtain ⟨s47, hs49, hj50⟩ := ob H46
  refine awp_cutn (fun fr τ => WkF fr (fm [(0, (.ref p0 0)), (1, (eI x1)), (4, (.ref id1 0)), (5, (.ref id7 0))]) ∧ Holds σ [(id7, (c_aEn (v6 : aEn))), (id1, [(eS z_aEn.Key), (eI z_aEn.Version), (eI z_aEn.AsOf), (eI z_aEn.Ends), AV.nils]), (p0, [(.ref p0B 0), (.ref p0I 0), (.vec p0H 1 (s47.1).length), (.vec p0X 1 (s47.2).length), (.vec p0G 5 (x0.things).length), (eI x0.count)]), (p0B, (c_slab_Budget x0.budget)), (p0I, [(.vec p0N 4 (x0.lists.nodes).length), (.vec p0F 1 (x0.lists.first_).length), (.vec p0L 1 (x0.lists.last_).length), (.vec p0C 1 (x0.lists.count).length), (eI x0.lists.free), (eI x0.lists.clock)]), (p0N, (cL e_lists_link x0.lists.nodes)), (p0F, (cL eI x0.lists.first_)), (p0L, (cL eI x0.lists.last_)), (p0C, (cL eI x0.lists.count)), (p0H, (cL eI s47.1)), (p0X, (cL eI s47.2)), (p0G, (cL e_aEn x0.things))] [] τ) ?_ ?_
  ·rintro fr τ ⟨hfr, hH⟩
   have H66 := hj50
   refine AWP.fm [(0, (.ref p0 0)), (1, (eI x1)), (4, (.ref id1 0)), (5, (.ref id7 0))] hfr ?_
   refine sr rfl (mm tk (.ref p0 0) rfl rfl (mc tk (.ref p0 0) rfl rfl (fun _ => rfl) (mc tk (.ref p0 1) rfl rfl (fun _ => rfl) (wpo_rd (a := (.ref p0I 0)) rfl rfl rfl (h_ld tk hH 2 rfl rfl rfl) (mm tk (eI x1) rfl rfl ?_)))))
   refine wpo_bdr H66 eI rfl rfl rfl (fun v68 hv => h_callr rfl rfl (.cons wr (.cons wr .nil)) (lists_Lists_List_ok hv _ (hH.at_ 4 rfl) (hH.at_ 5 rfl) (hH.at_ 6 rfl) (hH.at_ 7 rfl) (hH.at_ 8 rfl) (hH.pw [4, 5, 6, 7, 8] rfl (by decide)))) fun v68 hv68 H67 => ?_
   refine ma tk (eI v68) rfl rfl (wpo_nil (sr rfl (mm tk (.ref p0 0) rfl rfl (mc tk (.ref p0 0) rfl rfl (fun _ => rfl) (mc tk (.ref p0 1) rfl rfl (fun _ => rfl) (wpo_rd (a := (.ref p0I 0)) rfl rfl rfl (h_ld tk hH 2 rfl rfl rfl) (mm tk (eI x1) rfl rfl ?_)))))))
   refine wpo_cb H67 (fun x _ => eErr x.1) rfl rfl rfl (fun v70 hv => h_call1 hH [(4, (p0I, [(.vec p0N 4 (v70.2.nodes).length), (.vec p0F 1 (v70.2.first_).length), (.vec p0L 1 (v70.2.last_).length), (.vec p0C 1 (v70.2.count).length), (eI v70.2.free), (eI v70.2.clock)])), (5, (p0N, (cL e_lists_link v70.2.nodes))), (6, (p0F, (cL eI v70.2.first_))), (7, (p0L, (cL eI v70.2.last_))), (8, (p0C, (cL eI v70.2.count)))] ⟨⟨_, rfl⟩, ⟨⟨_, rfl⟩, ⟨⟨_, rfl⟩, ⟨⟨_, rfl⟩, ⟨⟨_, rfl⟩, trivial⟩⟩⟩⟩⟩ rfl rfl (.cons wr (.cons wr .nil)) (lists_Lists_Drop_ok hv _ (hH.at_ 4 rfl) (hH.at_ 5 rfl) (hH.at_ 6 rfl) (hH.at_ 7 rfl) (hH.at_ 8 rfl) (hH.pw [4, 5, 6, 7, 8] rfl (by decide)))) fun v70 _ τ hv70 H69 (hH : Holds σ [(id7, (c_aEn (v6 : aEn))), (id1, [(eS z_aEn.Key), (eI z_aEn.Version), (eI z_aEn.AsOf), (eI z_aEn.Ends), AV.nils]), (p0, [(.ref p0B 0), (.ref p0I 0), (.vec p0H 1 (s47.1).length), (.vec p0X 1 (s47.2).length), (.vec p0G 5 (x0.things).length), (eI x0.count)]), (p0B, (c_slab_Budget x0.budget)), (p0I, [(.vec p0N 4 (v70.2.nodes).length), (.vec p0F 1 (v70.2.first_).length), (.vec p0L 1 (v70.2.last_).length), (.vec p0C 1 (v70.2.count).length), (eI v70.2.free), (eI v70.2.clock)]), (p0N, (cL e_lists_link v70.2.nodes)), (p0F, (cL eI v70.2.first_)), (p0L, (cL eI v70.2.last_)), (p0C, (cL eI v70.2.count)), (p0H, (cL eI s47.1)), (p0X, (cL eI s47.2)), (p0G, (cL e_aEn x0.things))] [] τ) => ?_
   refine wpo_nil (sr rfl (mm tk (.ref p0 0) rfl rfl (mc tk (.ref p0 0) rfl rfl (fun _ => rfl) (mc tk (.ref p0 0) rfl rfl (fun _ => rfl) (wpo_rd (a := (.ref p0B 0)) rfl rfl rfl (h_ld tk hH 2 rfl rfl rfl) (mm tk (eI v68) rfl rfl ?_))))))
   refine wpo_cb H69 (fun x _ => eErr x.1) rfl rfl rfl (fun v72 hv => h_call1 hH [(3, (p0B, (c_slab_Budget v72.2)))] ⟨⟨_, rfl⟩, trivial⟩ rfl rfl (.cons wr (.cons wr .nil)) (slab_Budget_Give_ok hv _ (hH.at_ 3 rfl))) fun v72 _ τ hv72 H71 hH => ?_
   refine wpo_nil (sr rfl (mm tk (.ref p0 0) rfl rfl (mc tk (.ref p0 0) rfl rfl (fun _ => rfl) (mc tk (.ref p0 4) rfl rfl (fun _ => rfl) (wpo_rd (a := (.vec p0G 5 (x0.things).length)) rfl rfl rfl (h_ld tk hH 2 rfl rfl rfl) (mm tk (eI x1) rfl rfl (mc tk (.agg [(eS (⟨[], 0, 0, 0, []⟩ : aEn).Key), (eI (⟨[], 0, 0, 0, []⟩ : aEn).Version), (eI (⟨[], 0, 0, 0, []⟩ : aEn).AsOf), (eI (⟨[], 0, 0, 0, []⟩ : aEn).Ends), AV.nils]) rfl rfl (fun _ => rfl) ?_)))))))
   refine b_ H71 (fun _ => .ref p0G (0 + (x1 : Int).toNat * 5 + 0)) rfl (fun v74 hv => o_vecx tk hv td31 sz39 (by decide) rfl rfl) fun v74 hv74 H73 => ?_
   obtain ⟨c76, hc77, H75⟩ := ob H73
   refine wpo_z rfl rfl (h_stx (y := (.agg [(eS (⟨[], 0, 0, 0, []⟩ : aEn).Key), (eI (⟨[], 0, 0, 0, []⟩ : aEn).Version), (eI (⟨[], 0, 0, 0, []⟩ : aEn).AsOf), (eI (⟨[], 0, 0, 0, []⟩ : aEn).Ends), AV.nils])) tk hH 11 hc77 rfl enc39 ty39 (by simp) rfl rfl (wk_agg (.cons wr (.cons wr (.cons wr (.cons wr (.cons (wk_nils _) .nil)))))) (b := (e_aEn (⟨[], 0, 0, 0, []⟩ : aEn))) (enc39.flat _) rfl (by decide) (fun _ => (repl_all (enc39.len _) (enc39.len _)))) fun τ hH => ?_
   refine wpo_nil (sr rfl (mm tk (.ref p0 0) rfl rfl (mc tk (.ref p0 0) rfl rfl (fun _ => rfl) (mc tk (.ref p0 5) rfl rfl (fun _ => rfl) (wpo_rd (a := (eI x0.count)) rfl rfl rfl (h_ld tk hH 2 rfl rfl rfl) ?_)))))
   refine l_ H75 eI rfl (o_ar tk rfl rfl rfl) fun v79 H78 => ?_
   refine mc tk (.ref p0 0) rfl rfl (fun _ => rfl) (mc tk (.ref p0 5) rfl rfl (fun _ => rfl) ?_)
   refine wpo_z rfl rfl (h_st tk hH 2 rfl ty3 (by simp) rfl rfl wr (b := (eI v79)) rfl rfl (nb rfl) [(.ref p0B 0), (.ref p0I 0), (.vec p0H 1 (s47.1).length), (.vec p0X 1 (s47.2).length), (.vec p0G 5 (x0.things).length), (eI ({ x0 with count := v79 } : ram_Ram).count)] rfl) fun τ hH => ?_
   refine wpo_nil (sr rfl (wpo_rd (a := (e_aEn (v6 : aEn))) rfl rfl rfl (h_ld tk hH 0 rfl rfl rfl) ?_))
   refine wpo_z rfl rfl (h_st tk hH 1 rfl ty39 (by simp) rfl rfl wr (b := (e_aEn (v6 : aEn))) (enc39.flat _) rfl (nb rfl) (c_aEn ((v6 : aEn) : aEn)) rfl) fun τ hH => ?_
   refine wpo_nil (awp_ret ?_)
   have hH : Holds σ [(id7, (c_aEn (v6 : aEn))), (id1, (c_aEn ((v6 : aEn) : aEn))), (p0, [(.ref p0B 0), (.ref p0I 0), (.vec p0H 1 (s47.1).length), (.vec p0X 1 (s47.2).length), (.vec p0G 5 (c76).length), (eI ({ x0 with count := v79 } : ram_Ram).count)]), (p0B, (c_slab_Budget v72.2)), (p0I, [(.vec p0N 4 (v70.2.nodes).length), (.vec p0F 1 (v70.2.first_).length), (.vec p0L 1 (v70.2.last_).length), (.vec p0C 1 (v70.2.count).length), (eI v70.2.free), (eI v70.2.clock)]), (p0N, (cL e_lists_link v70.2.nodes)), (p0F, (cL eI v70.2.first_)), (p0L, (cL eI v70.2.last_)), (p0C, (cL eI v70.2.count)), (p0H, (cL eI s47.1)), (p0X, (cL eI s47.2)), (p0G, (cL e_aEn c76))] [] _ := (Holds.cells hH 2 [(.ref p0B 0), (.ref p0I 0), (.vec p0H 1 (s47.1).length), (.vec p0X 1 (s47.2).length), (.vec p0G 5 (c76).length), (eI ({ x0 with count := v79 } : ram_Ram).count)] rfl (by first | rfl | simp only [updA_len hc77]))
   obtain rfl := oi H78
   exact ⟨_, (e_aEn ((v6 : aEn) : aEn)), (ares_1 (ares_cell hH 1 rfl rfl rfl)), wr, .of_eq (enc39.cut _ _ _), ((hH.noT.drop n8).drop n2)⟩
  ·refine if_split hs49 (fun hb H51 => ?_) (fun hb H51 => ?_)
   ·rw [hb, show (if true = true then p0H else p0X) = p0H from rfl]
    refine awp_region rfl (mm tk (.ref p0H (0 + (s20.2 : Int).toNat * 1 + 0)) rfl rfl (mm tk (.ref p0 0) rfl rfl (mc tk (.ref p0 0) rfl rfl (fun _ => rfl) (mc tk (.ref p0 3) rfl rfl (fun _ => rfl) (wpo_rd (a := (.vec p0X 1 (x0.next_).length)) rfl rfl rfl (h_ld tk hH 2 rfl rfl rfl) (mm tk (eI x1) rfl rfl ?_))))))
    refine b_ H51 (fun _ => .ref p0X (0 + (x1 : Int).toNat * 1 + 0)) rfl (fun v53 hv => o_vecx tk hv td70 sz3 (by decide) rfl rfl) fun v53 hv53 H52 => ?_
    refine wpo_bdr H52 (fun y => eI y) rfl rfl rfl (fun v55 hv => h_ldx tk hH 10 hv rfl (enc_i64 td3 sz3) (acut_enc (enc_i64 td3 sz3) rfl _) (by decide) rfl) fun v55 hv55 H54 => ?_
    refine mc tk (.ref p0H (0 + (s20.2 : Int).toNat * 1 + 0)) rfl rfl (fun _ => rfl) ?_
    obtain ⟨c57, hc58, H56⟩ := ob H54
    refine wpo_z rfl rfl (h_stx tk hH 9 hc58 rfl (enc_i64 td3 sz3) ty3 (by simp) rfl rfl wr (b := (eI v55)) rfl rfl (by decide) (fun _ => rfl)) fun τ hH => ?_
    refine wpo_nil ?_
    have e := oi H56
    subst e
    exact ⟨(wc (wc (wc (wc (wkf_nil _))))), (Holds.cells hH 2 [(.ref p0B 0), (.ref p0I 0), (.vec p0H 1 (c57).length), (.vec p0X 1 (x0.next_).length), (.vec p0G 5 (x0.things).length), (eI x0.count)] rfl (by first | rfl | simp only [updA_len hc58]))⟩
   ·rw [hb, show (if false = true then p0H else p0X) = p0X from rfl]
    refine awp_region rfl (mm tk (.ref p0X (0 + (s20.2 : Int).toNat * 1 + 0)) rfl rfl (mm tk (.ref p0 0) rfl rfl (mc tk (.ref p0 0) rfl rfl (fun _ => rfl) (mc tk (.ref p0 3) rfl rfl (fun _ => rfl) (wpo_rd (a := (.vec p0X 1 (x0.next_).length)) rfl rfl rfl (h_ld tk hH 2 rfl rfl rfl) (mm tk (eI x1) rfl rfl ?_))))))
    refine b_ H51 (fun _ => .ref p0X (0 + (x1 : Int).toNat * 1 + 0)) rfl (fun v60 hv => o_vecx tk hv td70 sz3 (by decide) rfl rfl) fun v60 hv60 H59 => ?_
    refine wpo_bdr H59 (fun y => eI y) rfl rfl rfl (fun v62 hv => h_ldx tk hH 10 hv rfl (enc_i64 td3 sz3) (acut_enc (enc_i64 td3 sz3) rfl _) (by decide) rfl) fun v62 hv62 H61 => ?_
    refine mc tk (.ref p0X (0 + (s20.2 : Int).toNat * 1 + 0)) rfl rfl (fun _ => rfl) ?_
    obtain ⟨c64, hc65, H63⟩ := ob H61
    refine wpo_z rfl rfl (h_stx tk hH 10 hc65 rfl (enc_i64 td3 sz3) ty3 (by simp) rfl rfl wr (b := (eI v62)) rfl rfl (by decide) (fun _ => rfl)) fun τ hH => ?_
    refine wpo_nil ?_
    have e := oi H63
    subst e
    exact ⟨(wc (wc (wc (wc (wkf_nil _))))), (Holds.cells hH 2 [(.ref p0B 0), (.ref p0I 0), (.vec p0H 1 (x0.heads).length), (.vec p0X 1 (c64).length), (.vec p0G 5 (x0.things).length), (eI x0.count)] rfl (by first | rfl | simp only [updA_len hc65]))⟩
 ·refine awp_loopO (body := fun s => ram_Ram_remove_b0 x0 x1 v6 s) hs14 (fun (s : (Bool × Int)) fr τ => WkF fr (fm [(0, (.ref p0 0)), (1, (eI x1)), (4, (.ref id1 0)), (5, (.ref id7 0)), (6, (.ref (if s.1 = true then p0H else p0X) (0 + (s.2 : Int).toNat * 1 + 0)))]) ∧ Holds σ [(id7, (c_aEn (v6 : aEn))), (id1, [(eS z_aEn.Key), (eI z_aEn.Version), (eI z_aEn.AsOf), (eI z_aEn.Ends), AV.nils]), (p0, [(.ref p0B 0), (.ref p0I 0), (.vec p0H 1 (x0.heads).length), (.vec p0X 1 (x0.next_).length), (.vec p0G 5 (x0.things).length), (eI x0.count)]), (p0B, (c_slab_Budget x0.budget)), (p0I, [(.vec p0N 4 (x0.lists.nodes).length), (.vec p0F 1 (x0.lists.first_).length), (.vec p0L 1 (x0.lists.last_).length), (.vec p0C 1 (x0.lists.count).length), (eI x0.lists.free), (eI x0.lists.clock)]), (p0N, (cL e_lists_link x0.lists.nodes)), (p0F, (cL eI x0.lists.first_)), (p0L, (cL eI x0.lists.last_)), (p0C, (cL eI x0.lists.count)), (p0H, (cL eI x0.heads)), (p0X, (cL eI x0.next_)), (p0G, (cL e_aEn x0.things))] [] τ) ⟨(wc (wc (wc (wc (wc (wkf_nil _)))))), hH⟩ ?_
  rintro c12 fr τ y16 ⟨hfr, hH⟩ hb18 hy19
  have H21 : ram_Ram_remove_b0 x0 x1 v6 c12 = some y16 := hb18
  unfold ram_Ram_remove_b0 at H21
  refine AWP.fm [(0, (.ref p0 0)), (1, (eI x1)), (4, (.ref id1 0)), (5, (.ref id7 0)), (6, (.ref (if c12.1 = true then p0H else p0X) (0 + (c12.2 : Int).toNat * 1 + 0)))] hfr ?_
  have hH : Holds σ [(id7, (c_aEn (v6 : aEn))), (id1, [(eS z_aEn.Key), (eI z_aEn.Version), (eI z_aEn.AsOf), (eI z_aEn.Ends), AV.nils]), (p0, [(.ref p0B 0), (.ref p0I 0), (.vec p0H 1 (x0.heads).length), (.vec p0X 1 (x0.next_).length), (.vec p0G 5 (x0.things).length), (eI x0.count)]), (p0B, (c_slab_Budget x0.budget)), (p0I, [(.vec p0N 4 (x0.lists.nodes).length), (.vec p0F 1 (x0.lists.first_).length), (.vec p0L 1 (x0.lists.last_).length), (.vec p0C 1 (x0.lists.count).length), (eI x0.lists.free), (eI x0.lists.clock)]), (p0N, (cL e_lists_link x0.lists.nodes)), (p0F, (cL eI x0.lists.first_)), (p0L, (cL eI x0.lists.last_)), (p0C, (cL eI x0.lists.count)), (p0H, (cL eI x0.heads)), (p0X, (cL eI x0.next_)), (p0G, (cL e_aEn x0.things))] [] τ := hH
  refine awp_seq (awp_seq ?_)
  obtain ⟨s22, hs24, hj25⟩ := ob H21
  refine awp_cutn (fun fr τ => WkF fr (fm [(0, (.ref p0 0)), (1, (eI x1)), (4, (.ref id1 0)), (5, (.ref id7 0)), (6, (.ref (if s22.1.1 = true then p0H else p0X) (0 + (s22.1.2 : Int).toNat * 1 + 0))), (23, (eB s22.2))]) ∧ Holds σ [(id7, (c_aEn (v6 : aEn))), (id1, [(eS z_aEn.Key), (eI z_aEn.Version), (eI z_aEn.AsOf), (eI z_aEn.Ends), AV.nils]), (p0, [(.ref p0B 0), (.ref p0I 0), (.vec p0H 1 (x0.heads).length), (.vec p0X 1 (x0.next_).length), (.vec p0G 5 (x0.things).length), (eI x0.count)]), (p0B, (c_slab_Budget x0.budget)), (p0I, [(.vec p0N 4 (x0.lists.nodes).length), (.vec p0F 1 (x0.lists.first_).length), (.vec p0L 1 (x0.lists.last_).length), (.vec p0C 1 (x0.lists.count).length), (eI x0.lists.free), (eI x0.lists.clock)]), (p0N, (cL e_lists_link x0.lists.nodes)), (p0F, (cL eI x0.lists.first_)), (p0L, (cL eI x0.lists.last_)), (p0C, (cL eI x0.lists.count)), (p0H, (cL eI x0.heads)), (p0X, (cL eI x0.next_)), (p0G, (cL e_aEn x0.things))] [] τ) ?_ ?_
  ·rintro fr τ ⟨hfr, hH⟩
   have H35 := hj25
   refine AWP.fm [(0, (.ref p0 0)), (1, (eI x1)), (4, (.ref id1 0)), (5, (.ref id7 0)), (6, (.ref (if s22.1.1 = true then p0H else p0X) (0 + (s22.1.2 : Int).toNat * 1 + 0))), (23, (eB s22.2))] hfr ?_
   refine awp_if H35 rfl (fun H36 => ?_) (fun H36 => ?_)
   ·refine awp_skip (awp_block ?_)
    refine if_split H36 (fun hb H37 => ?_) (fun hb H37 => ?_)
    ·rw [hb, show (if true = true then p0H else p0X) = p0H from rfl]
     refine awp_drawS mixed [] rfl (by decide +kernel) rfl rfl ?_
     refine wpdS_mv (a := (.ref p0 0)) rfl rfl rfl (o_mv tk rfl (Wk.refl _)) (wpdS_mv (a := (.ref p0 0)) rfl rfl rfl (o_c tk false rfl (fun _ => rfl)) (wpdS_mv (a := (.ref p0 3)) rfl rfl rfl (o_c tk false rfl (fun _ => rfl)) (wpdS_rd (a := (.vec p0X 1 (x0.next_).length)) rfl (by decide +kernel) rfl rfl (h_ld tk hH 2 rfl rfl rfl) (wpdS_mv (a := (.ref p0H (0 + (s22.1.2 : Int).toNat * 1 + 0))) rfl rfl rfl (o_mv tk rfl (Wk.refl _)) (wpdS_mv (a := (.ref p0H (0 + (s22.1.2 : Int).toNat * 1 + 0))) rfl rfl rfl (o_c tk false rfl (fun _ => rfl)) ?_)))))
     refine wpdS_bdr H37 (fun y => eI y) rfl (by decide +kernel) rfl rfl (fun v39 hv => h_ldx tk hH 9 hv rfl (enc_i64 td3 sz3) (acut_enc (enc_i64 td3 sz3) rfl _) (by decide) rfl) fun v39 hv39 H38 => ?_
     refine wpdS_bd H38 (fun _ => .ref p0X (0 + (v39 : Int).toNat * 1 + 0)) rfl rfl rfl (fun v41 hv => o_vecx tk hv td70 sz3 (by decide) rfl rfl) fun v41 hv41 H40 => ?_
     refine wpdS_mv (a := (.ref p0X (0 + (v39 : Int).toNat * 1 + 0))) rfl rfl rfl (o_as tk rfl (Wk.refl _)) (wpdS_nil ?_)
     exact ⟨(false, v39), inj_inl H40, (wc (wc (wc (wc (wc (wkf_nil _)))))), hH⟩
    ·rw [hb, show (if false = true then p0H else p0X) = p0X from rfl]
     refine awp_drawS mixed [] rfl (by decide +kernel) rfl rfl ?_
     refine wpdS_mv (a := (.ref p0 0)) rfl rfl rfl (o_mv tk rfl (Wk.refl _)) (wpdS_mv (a := (.ref p0 0)) rfl rfl rfl (o_c tk false rfl (fun _ => rfl)) (wpdS_mv (a := (.ref p0 3)) rfl rfl rfl (o_c tk false rfl (fun _ => rfl)) (wpdS_rd (a := (.vec p0X 1 (x0.next_).length)) rfl (by decide +kernel) rfl rfl (h_ld tk hH 2 rfl rfl rfl) (wpdS_mv (a := (.ref p0X (0 + (s22.1.2 : Int).toNat * 1 + 0))) rfl rfl rfl (o_mv tk rfl (Wk.refl _)) (wpdS_mv (a := (.ref p0X (0 + (s22.1.2 : Int).toNat * 1 + 0))) rfl rfl rfl (o_c tk false rfl (fun _ => rfl)) ?_)))))
     refine wpdS_bdr H37 (fun y => eI y) rfl (by decide +kernel) rfl rfl (fun v43 hv => h_ldx tk hH 10 hv rfl (enc_i64 td3 sz3) (acut_enc (enc_i64 td3 sz3) rfl _) (by decide) rfl) fun v43 hv43 H42 => ?_
     refine wpdS_bd H42 (fun _ => .ref p0X (0 + (v43 : Int).toNat * 1 + 0)) rfl rfl rfl (fun v45 hv => o_vecx tk hv td70 sz3 (by decide) rfl rfl) fun v45 hv45 H44 => ?_
     refine wpdS_mv (a := (.ref p0X (0 + (v43 : Int).toNat * 1 + 0))) rfl rfl rfl (o_as tk rfl (Wk.refl _)) (wpdS_nil ?_)
     exact ⟨(false, v43), inj_inl H44, (wc (wc (wc (wc (wc (wkf_nil _)))))), hH⟩
   ·refine awp_exit ?_
    have hz := hy19 _ (inj_inr H36)
    subst hz
    exact ⟨⟨_, inj_inr H36⟩, (wc (wc (wc (wc (wc (wkf_nil _)))))), hH⟩
  ·refine if_split hs24 (fun hb H26 => ?_) (fun hb H26 => ?_)
   ·rw [hb, show (if true = true then p0H else p0X) = p0H from rfl]
    refine awp_region rfl (mm tk (.ref p0H (0 + (c12.2 : Int).toNat * 1 + 0)) rfl rfl (mc tk (.ref p0H (0 + (c12.2 : Int).toNat * 1 + 0)) rfl rfl (fun _ => rfl) ?_))
    refine wpo_bdr H26 (fun y => eI y) rfl rfl rfl (fun v28 hv => h_ldx tk hH 9 hv rfl (enc_i64 td3 sz3) (acut_enc (enc_i64 td3 sz3) rfl _) (by decide) rfl) fun v28 hv28 H27 => ?_
    refine mm tk (eI x1) rfl rfl ?_
    refine l_ H27 eB rfl (o_ar tk rfl rfl rfl) fun v30 H29 => ?_
    refine wpo_nil ?_
    have e := oi H29
    subst e
    exact ⟨(wc (wc (wc (wc (wc (wc (wkf_nil _))))))), hH⟩
   ·rw [hb, show (if false = true then p0H else p0X) = p0X from rfl]
    refine awp_region rfl (mm tk (.ref p0X (0 + (c12.2 : Int).toNat * 1 + 0)) rfl rfl (mc tk (.ref p0X (0 + (c12.2 : Int).toNat * 1 + 0)) rfl rfl (fun _ => rfl) ?_))
    refine wpo_bdr H26 (fun y => eI y) rfl rfl rfl (fun v32 hv => h_ldx tk hH 10 hv rfl (enc_i64 td3 sz3) (acut_enc (enc_i64 td3 sz3) rfl _) (by decide) rfl) fun v32 hv32 H31 => ?_
    refine mm tk (eI x1) rfl rfl ?_
    refine l_ H31 eB rfl (o_ar tk rfl rfl rfl) fun v34 H33 => ?_
    refine wpo_nil ?_
    have e := oi H33
    subst e
    exact ⟨(wc (wc (wc (wc (wc (wc (wkf_nil _))))))), hH⟩
theorem slab_Budget_Left_ok {x0 : slab_Budget} {r : Int} (H : slab_Budget_Left x0 = some r) (σ : St) {p0 : Nat} (h0 : σ.objs[p0]? = some (c_slab_Budget x0)) : ACall Tryd.prog 38 [(.ref p0 0)] σ (fun a τ => a = eI r ∧ τ = σ) := by
 unfold slab_Budget_Left at H
 refine ACall.pure (acall_start tk Tryd.func38 (by decide) rfl (nb rfl) ?_)
 have hH := Holds.init σ
 have hH := hH.bring h0 (fun _ h => by cases h)
 refine sr rfl (ma tk (eI (0 : Int)) rfl rfl (wpo_nil (awp_seq ?_)))
 refine awp_drawS mixed [] rfl (by decide +kernel) rfl rfl ?_
 refine wpdS_mv (a := (.ref p0 0)) rfl rfl rfl (o_mv tk rfl (Wk.refl _)) (wpdS_mv (a := (.ref p0 0)) rfl rfl rfl (o_c tk false rfl (fun _ => rfl)) (wpdS_mv (a := (.ref p0 0)) rfl rfl rfl (o_c tk false rfl (fun _ => rfl)) (wpdS_rd (a := (eI x0.limit)) rfl (by decide +kernel) rfl rfl (h_ld tk hH 0 rfl (g_slab_Budget_limit _) rfl) (wpdS_mv (a := (.ref p0 0)) rfl rfl rfl (o_mv tk rfl (Wk.refl _)) (wpdS_mv (a := (.ref p0 0)) rfl rfl rfl (o_c tk false rfl (fun _ => rfl)) (wpdS_mv (a := (.ref p0 1)) rfl rfl rfl (o_c tk false rfl (fun _ => rfl)) (wpdS_rd (a := (eI x0.used)) rfl (by decide +kernel) rfl rfl (h_ld tk hH 0 rfl (g_slab_Budget_used _) rfl) ?_)))))))
 refine wpdS_lt H eI rfl rfl rfl (o_ar tk rfl rfl rfl) fun v2 H1 => ?_
 refine wpdS_mv (a := (eI v2)) rfl rfl rfl (o_as tk rfl (Wk.refl _)) (wpdS_nil (awp_ret ?_))
 obtain rfl := oi H1
 exact ⟨_, (eI v2), rfl, wr, .of_eq ((enc_i64 td3 sz3).cut _ _ _), (hH.noT.unbring h0)⟩
theorem lists_Lists_Oldest_ok {x0 : lists_Lists} {r : Int} (H : lists_Lists_Oldest x0 = some r) (σ : St) {p0 p0_nodes p0_first_ p0_last_ p0_count : Nat} (h0 : σ.objs[p0]? = some [(.vec p0_nodes 4 (x0.nodes).length), (.vec p0_first_ 1 (x0.first_).length), (.vec p0_last_ 1 (x0.last_).length), (.vec p0_count 1 (x0.count).length), (eI x0.free), (eI x0.clock)]) (h0_nodes : σ.objs[p0_nodes]? = some (cL e_lists_link x0.nodes)) (h0_first_ : σ.objs[p0_first_]? = some (cL eI x0.first_)) (h0_last_ : σ.objs[p0_last_]? = some (cL eI x0.last_)) (h0_count : σ.objs[p0_count]? = some (cL eI x0.count)) (hd : [p0, p0_nodes, p0_first_, p0_last_, p0_count].Pairwise fun a b => a ≠ b) : ACall Tryd.prog 39 [(.ref p0 0)] σ (fun a τ => a = eI r ∧ τ = σ) := by
 unfold lists_Lists_Oldest at H
 refine ACall.pure (acall_start tk Tryd.func39 (by decide) rfl (nb rfl) ?_)
 have hH := Holds.brings (σ := σ) [(p0, [(.vec p0_nodes 4 (x0.nodes).length), (.vec p0_first_ 1 (x0.first_).length), (.vec p0_last_ 1 (x0.last_).length), (.vec p0_count 1 (x0.count).length), (eI x0.free), (eI x0.clock)]), (p0_nodes, (cL e_lists_link x0.nodes)), (p0_first_, (cL eI x0.first_)), (p0_last_, (cL eI x0.last_)), (p0_count, (cL eI x0.count))] (by simp only [List.mem_cons, List.not_mem_nil, or_false]; rintro _ (rfl | rfl | rfl | rfl | rfl) <;> assumption) hd
 refine sr rfl (ma tk (eI (0 : Int)) rfl rfl (wpo_nil (sr rfl (ma tk (eI (-1 : Int)) rfl rfl (wpo_nil (awp_seq (sr rfl (mm tk (.ref p0 0) rfl rfl ?_))))))))
 refine mc tk (.ref p0 0) rfl rfl (fun _ => rfl) (mc tk (.ref p0 2) rfl rfl (fun _ => rfl) (wpo_rd (a := (.vec p0_last_ 1 (x0.last_).length)) rfl rfl rfl (h_ld tk hH 0 rfl rfl rfl) ?_))
 refine l_ H eI rfl (o_vlen tk td70 rfl) fun v2 H1 => ?_
 refine mm tk (eI (0 : Int)) rfl rfl (wpo_nil (awp_block ?_))
 obtain ⟨s12, hs6, hj7⟩ := ob H1
 refine awp_cutx 0 (fun fr τ => WkF fr (fm [(3, (eI s12))]) ∧ Holds σ [(p0, [(.vec p0_nodes 4 (x0.nodes).length), (.vec p0_first_ 1 (x0.first_).length), (.vec p0_last_ 1 (x0.last_).length), (.vec p0_count 1 (x0.count).length), (eI x0.free), (eI x0.clock)]), (p0_nodes, (cL e_lists_link x0.nodes)), (p0_first_, (cL eI x0.first_)), (p0_last_, (cL eI x0.last_)), (p0_count, (cL eI x0.count))] [] τ) ?_ ?_
 ·rintro fr τ ⟨hfr, hH⟩
  have H47 := hj7
  refine AWP.fm [(3, (eI s12))] hfr ?_
  refine sr rfl (mm tk (eI s12) rfl rfl (ma tk (eI s12) rfl rfl (wpo_nil (awp_ret ?_))))
  obtain rfl := oi H47
  exact ⟨_, (eI s12), rfl, wr, .of_eq ((enc_i64 td3 sz3).cut _ _ _), (((((hH.noT.unbring h0).unbring h0_nodes).unbring h0_first_).unbring h0_last_).unbring h0_count)⟩
 ·refine awp_loopO (body := fun s => lists_Lists_Oldest_b0 x0 v2 s.1 s.2) hs6 (fun (s : Int × Int) fr τ => WkF fr (fm [(0, (.ref p0 0)), (3, (eI s.1)), (9, (.vec p0_last_ 1 (x0.last_).length)), (10, (eI v2)), (11, (eI s.2))]) ∧ Holds σ [(p0, [(.vec p0_nodes 4 (x0.nodes).length), (.vec p0_first_ 1 (x0.first_).length), (.vec p0_last_ 1 (x0.last_).length), (.vec p0_count 1 (x0.count).length), (eI x0.free), (eI x0.clock)]), (p0_nodes, (cL e_lists_link x0.nodes)), (p0_first_, (cL eI x0.first_)), (p0_last_, (cL eI x0.last_)), (p0_count, (cL eI x0.count))] [] τ) ⟨(wc (wc (wc (wc (wc (wkf_nil _)))))), hH⟩ ?_
  rintro ⟨c3, c4⟩ fr τ y8 ⟨hfr, hH⟩ hb10 hy11
  have H13 : lists_Lists_Oldest_b0 x0 v2 c3 c4 = some y8 := hb10
  unfold lists_Lists_Oldest_b0 at H13
  refine AWP.fm [(0, (.ref p0 0)), (3, (eI c3)), (9, (.vec p0_last_ 1 (x0.last_).length)), (10, (eI v2)), (11, (eI c4))] hfr ?_
  have hH : Holds σ [(p0, [(.vec p0_nodes 4 (x0.nodes).length), (.vec p0_first_ 1 (x0.first_).length), (.vec p0_last_ 1 (x0.last_).length), (.vec p0_count 1 (x0.count).length), (eI x0.free), (eI x0.clock)]), (p0_nodes, (cL e_lists_link x0.nodes)), (p0_first_, (cL eI x0.first_)), (p0_last_, (cL eI x0.last_)), (p0_count, (cL eI x0.count))] [] τ := hH
  refine sr rfl ?_
  refine l_ H13 eB rfl (o_ar tk rfl rfl rfl) fun v15 H14 => ?_
  refine wpo_nil (awp_seq ?_)
  refine awp_if H14 rfl (fun H16 => ?_) (fun H16 => ?_)
  ·refine awp_skip (awp_seq (awp_block (sr rfl ?_)))
   refine b_ H16 (fun _ => .ref p0_last_ (0 + (c4 : Int).toNat * 1 + 0)) rfl (fun v18 hv => o_vecx tk hv td70 sz3 (by decide) rfl rfl) fun v18 hv18 H17 => ?_
   refine wpo_bdr H17 (fun y => eI y) rfl rfl rfl (fun v20 hv => h_ldx tk hH 3 hv rfl (enc_i64 td3 sz3) (acut_enc (enc_i64 td3 sz3) rfl _) (by decide) rfl) fun v20 hv20 H19 => ?_
   refine ma tk (eI v20) rfl rfl (wpo_nil (awp_seq ?_))
   obtain ⟨s21, hs23, hj24⟩ := ob H19
   refine awp_cutn (fun fr τ => WkF fr (fm [(0, (.ref p0 0)), (3, (eI c3)), (5, (eI v20)), (9, (.vec p0_last_ 1 (x0.last_).length)), (10, (eI v2)), (11, (eI c4)), (39, (eB s21))]) ∧ Holds σ [(p0, [(.vec p0_nodes 4 (x0.nodes).length), (.vec p0_first_ 1 (x0.first_).length), (.vec p0_last_ 1 (x0.last_).length), (.vec p0_count 1 (x0.count).length), (eI x0.free), (eI x0.clock)]), (p0_nodes, (cL e_lists_link x0.nodes)), (p0_first_, (cL eI x0.first_)), (p0_last_, (cL eI x0.last_)), (p0_count, (cL eI x0.count))] [] τ) ?_ ?_
   ·rintro fr τ ⟨hfr, hH⟩
    have H41 := hj24
    refine AWP.fm [(0, (.ref p0 0)), (3, (eI c3)), (5, (eI v20)), (9, (.vec p0_last_ 1 (x0.last_).length)), (10, (eI v2)), (11, (eI c4)), (39, (eB s21))] hfr ?_
    refine awp_if H41 rfl (fun H42 => ?_) (fun H42 => ?_)
    ·refine awp_region rfl (mm tk (eI v20) rfl rfl (ma tk (eI v20) rfl rfl (wpo_nil (awp_region rfl ?_))))
     refine l_ H42 eI rfl (o_ar tk rfl rfl rfl) fun v44 H43 => ?_
     refine mm tk (eI v44) rfl rfl (wpo_nil ?_)
     exact ⟨(v20, v44), inj_inl H43, (wc (wc (wc (wc (wc (wkf_nil _)))))), hH⟩
    ·refine awp_skip (awp_region rfl ?_)
     refine l_ H42 eI rfl (o_ar tk rfl rfl rfl) fun v46 H45 => ?_
     refine mm tk (eI v46) rfl rfl (wpo_nil ?_)
     exact ⟨(c3, v46), inj_inl H45, (wc (wc (wc (wc (wc (wkf_nil _)))))), hH⟩
   ·refine awp_drawS mixed [] rfl (by decide +kernel) rfl rfl ?_
    refine wpdS_mv (a := (eI v20)) rfl rfl rfl (o_mv tk rfl (Wk.refl _)) ?_
    refine wpdS_lt hs23 eB rfl rfl rfl (o_ar tk rfl rfl rfl) fun v26 H25 => ?_
    refine wpdS_mv (a := (eB v26)) rfl rfl rfl (o_mv tk rfl (Wk.refl _)) ?_
    refine if_split H25 (fun hb H27 => ?_) (fun hb H27 => ?_)
    ·subst hb
     refine wpdS_mv (a := (eI c3)) rfl rfl rfl (o_mv tk rfl (Wk.refl _)) ?_
     refine wpdS_lt H27 eB rfl rfl rfl (o_ar tk rfl rfl rfl) fun v29 H28 => ?_
     refine wpdS_mv (a := (eB v29)) rfl rfl rfl (o_mv tk rfl (Wk.refl _)) ?_
     refine if_split H28 (fun hb H30 => ?_) (fun hb H30 => ?_)
     ·subst hb
      refine wpdS_skip rfl rfl rfl (wpdS_skip rfl rfl rfl (wpdS_skip rfl rfl rfl (wpdS_skip rfl rfl rfl (wpdS_skip rfl rfl rfl (wpdS_skip rfl rfl rfl (wpdS_skip rfl rfl rfl (wpdS_skip rfl rfl rfl (wpdS_skip rfl rfl rfl ?_))))))))
      refine wpdS_skip rfl rfl rfl (wpdS_skip rfl rfl rfl (wpdS_skip rfl rfl rfl (wpdS_skip rfl rfl rfl (wpdS_skip rfl rfl rfl (wpdS_skip rfl rfl rfl (wpdS_skip rfl rfl rfl (wpdS_skip rfl rfl rfl (wpdS_mv (a := (eB true)) rfl rfl rfl (o_pick_t tk rfl rfl (Wk.refl _)) ?_))))))))
      refine wpdS_mv (a := (eB true)) rfl rfl rfl (o_pick_t tk rfl rfl (Wk.refl _)) (wpdS_nil ?_)
      have e := oi H30
      subst e
      exact ⟨(wc (wc (wc (wc (wc (wc (wc (wkf_nil _)))))))), hH⟩
     ·subst hb
      refine wpdS_mv (a := (.ref p0 0)) rfl rfl rfl (o_mv tk rfl (Wk.refl _)) (wpdS_mv (a := (.ref p0 0)) rfl rfl rfl (o_c tk false rfl (fun _ => rfl)) (wpdS_mv (a := (.ref p0 0)) rfl rfl rfl (o_c tk false rfl (fun _ => rfl)) (wpdS_rd (a := (.vec p0_nodes 4 (x0.nodes).length)) rfl (by decide +kernel) rfl rfl (h_ld tk hH 0 rfl rfl rfl) (wpdS_mv (a := (eI v20)) rfl rfl rfl (o_mv tk rfl (Wk.refl _)) ?_))))
      refine wpdS_bd H30 (fun _ => .ref p0_nodes (0 + (v20 : Int).toNat * 4 + 0)) rfl rfl rfl (fun v32 hv => o_vecx tk hv td102 sz106 (by decide) rfl rfl) fun v32 hv32 H31 => ?_
      refine wpdS_mv (a := (.ref p0_nodes (0 + (v20 : Int).toNat * 4 + 3))) rfl rfl rfl (o_c tk false rfl (fun _ => rfl)) ?_
      refine wpdS_bdr H31 (fun y => eI y.used) rfl (by decide +kernel) rfl rfl (fun v34 hv => h_ldx tk hH 1 hv rfl enc106 rfl (by decide) rfl) fun v34 hv34 H33 => ?_
      refine wpdS_mv (a := (.ref p0 0)) rfl rfl rfl (o_mv tk rfl (Wk.refl _)) (wpdS_mv (a := (.ref p0 0)) rfl rfl rfl (o_c tk false rfl (fun _ => rfl)) (wpdS_mv (a := (.ref p0 0)) rfl rfl rfl (o_c tk false rfl (fun _ => rfl)) (wpdS_rd (a := (.vec p0_nodes 4 (x0.nodes).length)) rfl (by decide +kernel) rfl rfl (h_ld tk hH 0 rfl rfl rfl) (wpdS_mv (a := (eI c3)) rfl rfl rfl (o_mv tk rfl (Wk.refl _)) ?_))))
      refine wpdS_bd H33 (fun _ => .ref p0_nodes (0 + (c3 : Int).toNat * 4 + 0)) rfl rfl rfl (fun v36 hv => o_vecx tk hv td102 sz106 (by decide) rfl rfl) fun v36 hv36 H35 => ?_
      refine wpdS_mv (a := (.ref p0_nodes (0 + (c3 : Int).toNat * 4 + 3))) rfl rfl rfl (o_c tk false rfl (fun _ => rfl)) ?_
      refine wpdS_bdr H35 (fun y => eI y.used) rfl (by decide +kernel) rfl rfl (fun v38 hv => h_ldx tk hH 1 hv rfl enc106 rfl (by decide) rfl) fun v38 hv38 H37 => ?_
      refine wpdS_lt H37 eB rfl rfl rfl (o_ar tk rfl rfl rfl) fun v40 H39 => ?_
      refine wpdS_mv (a := (eB v40)) rfl rfl rfl (o_pick_f tk rfl rfl (Wk.refl _)) (wpdS_mv (a := (eB v40)) rfl rfl rfl (o_pick_t tk rfl rfl (Wk.refl _)) (wpdS_nil ?_))
      have e := oi H39
      subst e
      exact ⟨(wc (wc (wc (wc (wc (wc (wc (wkf_nil _)))))))), hH⟩
    ·subst hb
     refine wpdS_skip rfl rfl rfl (wpdS_skip rfl rfl rfl (wpdS_skip rfl rfl rfl (wpdS_skip rfl rfl rfl (wpdS_skip rfl rfl rfl (wpdS_skip rfl rfl rfl (wpdS_skip rfl rfl rfl (wpdS_skip rfl rfl rfl (wpdS_skip rfl rfl rfl ?_))))))))
     refine wpdS_skip rfl rfl rfl (wpdS_skip rfl rfl rfl (wpdS_skip rfl rfl rfl (wpdS_skip rfl rfl rfl (wpdS_skip rfl rfl rfl (wpdS_skip rfl rfl rfl (wpdS_skip rfl rfl rfl (wpdS_skip rfl rfl rfl (wpdS_skip rfl rfl rfl ?_))))))))
     refine wpdS_skip rfl rfl rfl (wpdS_skip rfl rfl rfl (wpdS_skip rfl rfl rfl (wpdS_mv (a := (eB false)) rfl rfl rfl (o_pick_f tk rfl rfl (Wk.refl _)) (wpdS_nil ?_))))
     have e := oi H27
     subst e
     exact ⟨(wc (wc (wc (wc (wc (wc (wc (wkf_nil _)))))))), hH⟩
  ·refine awp_exit ?_
   have hz := hy11 _ (inj_inr H16)
   subst hz
   exact ⟨⟨_, inj_inr H16⟩, (wc (wkf_nil _)), hH⟩
theorem lists_Lists_push_ok {x0 : lists_Lists} {x1 : Int} {x2 : Int} {r : lists_Lists} (H : lists_Lists_push x0 x1 x2 = some r) (σ : St) {p0 p0_nodes p0_first_ p0_last_ p0_count : Nat} (h0 : σ.objs[p0]? = some [(.vec p0_nodes 4 (x0.nodes).length), (.vec p0_first_ 1 (x0.first_).length), (.vec p0_last_ 1 (x0.last_).length), (.vec p0_count 1 (x0.count).length), (eI x0.free), (eI x0.clock)]) (h0_nodes : σ.objs[p0_nodes]? = some (cL e_lists_link x0.nodes)) (h0_first_ : σ.objs[p0_first_]? = some (cL eI x0.first_)) (h0_last_ : σ.objs[p0_last_]? = some (cL eI x0.last_)) (h0_count : σ.objs[p0_count]? = some (cL eI x0.count)) (hd : [p0, p0_nodes, p0_first_, p0_last_, p0_count].Pairwise fun a b => a ≠ b) : ACall Tryd.prog 64 [(.ref p0 0), (eI x1), (eI x2)] σ (fun a τ => a = .tup [] ∧ τ = σ.puts [(p0, [(.vec p0_nodes 4 (r.nodes).length), (.vec p0_first_ 1 (r.first_).length), (.vec p0_last_ 1 (r.last_).length), (.vec p0_count 1 (r.count).length), (eI r.free), (eI r.clock)]), (p0_nodes, (cL e_lists_link r.nodes)), (p0_first_, (cL eI r.first_)), (p0_last_, (cL eI r.last_)), (p0_count, (cL eI r.count))]) := by
 unfold lists_Lists_push at H
 refine ACall.outB [(p0, [(.vec p0_nodes 4 (r.nodes).length), (.vec p0_first_ 1 (r.first_).length), (.vec p0_last_ 1 (r.last_).length), (.vec p0_count 1 (r.count).length), (eI r.free), (eI r.clock)]), (p0_nodes, (cL e_lists_link r.nodes)), (p0_first_, (cL eI r.first_)), (p0_last_, (cL eI r.last_)), (p0_count, (cL eI r.count))] (by simp only [List.mem_cons, List.not_mem_nil, or_false]; rintro _ (rfl | rfl | rfl | rfl | rfl) <;> first | exact cut_cL enc106.cut _ _ _ | exact cut_cL (enc_i64 td3 sz3).cut _ _ _ | (simp only [cutL, cut_vec_id (idl_get h0_nodes), cut_vec_id (idl_get h0_first_), cut_vec_id (idl_get h0_last_), cut_vec_id (idl_get h0_count), (enc_i64 td3 sz3).cut _ _]; done)) (acall_start tk Tryd.func64 (by decide) rfl (nb rfl) ?_)
 have hH := Holds.brings (σ := σ) [(p0, [(.vec p0_nodes 4 (x0.nodes).length), (.vec p0_first_ 1 (x0.first_).length), (.vec p0_last_ 1 (x0.last_).length), (.vec p0_count 1 (x0.count).length), (eI x0.free), (eI x0.clock)]), (p0_nodes, (cL e_lists_link x0.nodes)), (p0_first_, (cL eI x0.first_)), (p0_last_, (cL eI x0.last_)), (p0_count, (cL eI x0.count))] (by simp only [List.mem_cons, List.not_mem_nil, or_false]; rintro _ (rfl | rfl | rfl | rfl | rfl) <;> assumption) hd
 refine sr rfl (mm tk (.ref p0 0) rfl rfl (mc tk (.ref p0 0) rfl rfl (fun _ => rfl) (mc tk (.ref p0 5) rfl rfl (fun _ => rfl) (wpo_rd (a := (eI x0.clock)) rfl rfl rfl (h_ld tk hH 0 rfl rfl rfl) ?_))))
 refine l_ H eI rfl (o_ar tk rfl rfl rfl) fun v2 H1 => ?_
 refine mc tk (.ref p0 0) rfl rfl (fun _ => rfl) (mc tk (.ref p0 5) rfl rfl (fun _ => rfl) ?_)
 refine wpo_z rfl rfl (h_st tk hH 0 rfl ty3 (by simp) rfl rfl wr (b := (eI v2)) rfl rfl (nb rfl) [(.vec p0_nodes 4 (x0.nodes).length), (.vec p0_first_ 1 (x0.first_).length), (.vec p0_last_ 1 (x0.last_).length), (.vec p0_count 1 (x0.count).length), (eI ({ x0 with clock := v2 } : lists_Lists).free), (eI ({ x0 with clock := v2 } : lists_Lists).clock)] rfl) fun τ hH => ?_
 refine wpo_nil (awp_seq ?_)
 refine awp_drawS mixed [19] rfl (by decide +kernel) rfl rfl ?_
 refine wpdS_mv (a := (.ref p0 0)) rfl rfl rfl (o_mv tk rfl (Wk.refl _)) (wpdS_mv (a := (.ref p0 0)) rfl rfl rfl (o_c tk false rfl (fun _ => rfl)) (wpdS_mv (a := (.ref p0 0)) rfl rfl rfl (o_c tk false rfl (fun _ => rfl)) (wpdS_rd (a := (.vec p0_nodes 4 (x0.nodes).length)) rfl (by decide +kernel) rfl rfl (h_ld tk hH 0 rfl rfl rfl) (wpdS_mv (a := (eI x1)) rfl rfl rfl (o_mv tk rfl (Wk.refl _)) (wpdS_mv (a := (.ref p0 0)) rfl rfl rfl (o_mv tk rfl (Wk.refl _)) (wpdS_mv (a := (.ref p0 0)) rfl rfl rfl (o_c tk false rfl (fun _ => rfl)) (wpdS_mv (a := (.ref p0 1)) rfl rfl rfl (o_c tk false rfl (fun _ => rfl)) (wpdS_rd (a := (.vec p0_first_ 1 (x0.first_).length)) rfl (by decide +kernel) rfl rfl (h_ld tk hH 0 rfl rfl rfl) ?_))))))))
 refine wpdS_mv (a := (eI x2)) rfl rfl rfl (o_mv tk rfl (Wk.refl _)) ?_
 refine wpdS_bd H1 (fun _ => .ref p0_first_ (0 + (x2 : Int).toNat * 1 + 0)) rfl rfl rfl (fun v5 hv => o_vecx tk hv td70 sz3 (by decide) rfl rfl) fun v5 hv5 H4 => ?_
 refine wpdS_bdr H4 (fun y => eI y) rfl (by decide +kernel) rfl rfl (fun v7 hv => h_ldx tk hH 2 hv rfl (enc_i64 td3 sz3) (acut_enc (enc_i64 td3 sz3) rfl _) (by decide) rfl) fun v7 hv7 H6 => ?_
 refine wpdS_mv (a := (eI x2)) rfl rfl rfl (o_mv tk rfl (Wk.refl _)) (wpdS_mv (a := (.ref p0 0)) rfl rfl rfl (o_mv tk rfl (Wk.refl _)) (wpdS_mv (a := (.ref p0 0)) rfl rfl rfl (o_c tk false rfl (fun _ => rfl)) (wpdS_mv (a := (.ref p0 5)) rfl rfl rfl (o_c tk false rfl (fun _ => rfl)) (wpdS_rd (a := (eI ({ x0 with clock := v2 } : lists_Lists).clock)) rfl (by decide +kernel) rfl rfl (h_ld tk hH 0 rfl rfl rfl) ?_))))
 refine wpdS_lt H6 e_lists_link rfl rfl rfl (o_c tk false rfl (fun _ => rfl)) fun v9 H8 => ?_
 refine wpdS_bd H8 (fun _ => .ref p0_nodes (0 + (x1 : Int).toNat * 4 + 0)) rfl rfl rfl (fun v11 hv => o_vecx tk hv td102 sz106 (by decide) rfl rfl) fun v11 hv11 H10 => ?_
 obtain ⟨c13, hc14, H12⟩ := ob H10
 refine wpdS_z rfl rfl rfl (h_stx tk hH 1 hc14 rfl enc106 ty106 (by simp) rfl rfl wr (b := (e_lists_link v9)) (enc106.flat _) rfl (by decide) (fun _ => (repl_all (enc106.len _) (enc106.len _)))) fun τ hH => ?_
 refine wpdS_nil (awp_seq (sr rfl (mm tk (.ref p0 0) rfl rfl (mc tk (.ref p0 0) rfl rfl (fun _ => rfl) (mc tk (.ref p0 1) rfl rfl (fun _ => rfl) (wpo_rd (a := (.vec p0_first_ 1 (x0.first_).length)) rfl rfl rfl (h_ld tk hH 0 rfl rfl rfl) (mm tk (eI x2) rfl rfl ?_)))))))
 refine b_ H12 (fun _ => .ref p0_first_ (0 + (x2 : Int).toNat * 1 + 0)) rfl (fun v16 hv => o_vecx tk hv td70 sz3 (by decide) rfl rfl) fun v16 hv16 H15 => ?_
 refine wpo_bdr H15 (fun y => eI y) rfl rfl rfl (fun v18 hv => h_ldx tk hH 2 hv rfl (enc_i64 td3 sz3) (acut_enc (enc_i64 td3 sz3) rfl _) (by decide) rfl) fun v18 hv18 H17 => ?_
 refine l_ H17 eB rfl (o_ar tk rfl rfl rfl) fun v20 H19 => ?_
 refine wpo_nil ?_
 have hH : Holds σ [(p0, [(.vec p0_nodes 4 (c13).length), (.vec p0_first_ 1 (x0.first_).length), (.vec p0_last_ 1 (x0.last_).length), (.vec p0_count 1 (x0.count).length), (eI ({ x0 with clock := v2 } : lists_Lists).free), (eI ({ x0 with clock := v2 } : lists_Lists).clock)]), (p0_nodes, (cL e_lists_link c13)), (p0_first_, (cL eI x0.first_)), (p0_last_, (cL eI x0.last_)), (p0_count, (cL eI x0.count))] [] _ := (Holds.cells hH 0 [(.vec p0_nodes 4 (c13).length), (.vec p0_first_ 1 (x0.first_).length), (.vec p0_last_ 1 (x0.last_).length), (.vec p0_count 1 (x0.count).length), (eI ({ x0 with clock := v2 } : lists_Lists).free), (eI ({ x0 with clock := v2 } : lists_Lists).clock)] rfl (by first | rfl | simp only [updA_len hc14]))
 obtain ⟨s21, hs23, hj24⟩ := ob H19
 refine awp_cutn (fun fr τ => WkF fr (fm [(0, (.ref p0 0)), (1, (eI x1)), (2, (eI x2))]) ∧ Holds σ [(p0, [(.vec p0_nodes 4 (s21.1).length), (.vec p0_first_ 1 (x0.first_).length), (.vec p0_last_ 1 (s21.2).length), (.vec p0_count 1 (x0.count).length), (eI ({ x0 with clock := v2 } : lists_Lists).free), (eI ({ x0 with clock := v2 } : lists_Lists).clock)]), (p0_nodes, (cL e_lists_link s21.1)), (p0_first_, (cL eI x0.first_)), (p0_last_, (cL eI s21.2)), (p0_count, (cL eI x0.count))] [] τ) ?_ ?_
 ·rintro fr τ ⟨hfr, hH⟩
  have H40 := hj24
  refine AWP.fm [(0, (.ref p0 0)), (1, (eI x1)), (2, (eI x2))] hfr ?_
  refine sr rfl (mm tk (.ref p0 0) rfl rfl (mc tk (.ref p0 0) rfl rfl (fun _ => rfl) (mc tk (.ref p0 1) rfl rfl (fun _ => rfl) (wpo_rd (a := (.vec p0_first_ 1 (x0.first_).length)) rfl rfl rfl (h_ld tk hH 0 rfl rfl rfl) (mm tk (eI x2) rfl rfl (mm tk (eI x1) rfl rfl ?_))))))
  refine b_ H40 (fun _ => .ref p0_first_ (0 + (x2 : Int).toNat * 1 + 0)) rfl (fun v42 hv => o_vecx tk hv td70 sz3 (by decide) rfl rfl) fun v42 hv42 H41 => ?_
  obtain ⟨c44, hc45, H43⟩ := ob H41
  refine wpo_z rfl rfl (h_stx tk hH 2 hc45 rfl (enc_i64 td3 sz3) ty3 (by simp) rfl rfl wr (b := (eI x1)) rfl rfl (by decide) (fun _ => rfl)) fun τ hH => ?_
  refine wpo_nil (awp_region rfl (mm tk (.ref p0 0) rfl rfl (mc tk (.ref p0 0) rfl rfl (fun _ => rfl) (mc tk (.ref p0 3) rfl rfl (fun _ => rfl) (wpo_rd (a := (.vec p0_count 1 (x0.count).length)) rfl rfl rfl (h_ld tk hH 0 rfl rfl rfl) (mm tk (eI x2) rfl rfl ?_))))))
  refine b_ H43 (fun _ => .ref p0_count (0 + (x2 : Int).toNat * 1 + 0)) rfl (fun v47 hv => o_vecx tk hv td70 sz3 (by decide) rfl rfl) fun v47 hv47 H46 => ?_
  refine wpo_bdr H46 (fun y => eI y) rfl rfl rfl (fun v49 hv => h_ldx tk hH 4 hv rfl (enc_i64 td3 sz3) (acut_enc (enc_i64 td3 sz3) rfl _) (by decide) rfl) fun v49 hv49 H48 => ?_
  refine l_ H48 eI rfl (o_ar tk rfl rfl rfl) fun v51 H50 => ?_
  refine b_ H50 (fun _ => .ref p0_count (0 + (x2 : Int).toNat * 1 + 0)) rfl (fun v53 hv => o_vecx tk hv td70 sz3 (by decide) rfl rfl) fun v53 hv53 H52 => ?_
  obtain ⟨c55, hc56, H54⟩ := ob H52
  refine wpo_z rfl rfl (h_stx tk hH 4 hc56 rfl (enc_i64 td3 sz3) ty3 (by simp) rfl rfl wr (b := (eI v51)) rfl rfl (by decide) (fun _ => rfl)) fun τ hH => ?_
  refine wpo_nil ?_
  have hH : Holds σ [(p0, [(.vec p0_nodes 4 (s21.1).length), (.vec p0_first_ 1 (c44).length), (.vec p0_last_ 1 (s21.2).length), (.vec p0_count 1 (c55).length), (eI ({ x0 with clock := v2 } : lists_Lists).free), (eI ({ x0 with clock := v2 } : lists_Lists).clock)]), (p0_nodes, (cL e_lists_link s21.1)), (p0_first_, (cL eI c44)), (p0_last_, (cL eI s21.2)), (p0_count, (cL eI c55))] [] _ := (Holds.cells hH 0 [(.vec p0_nodes 4 (s21.1).length), (.vec p0_first_ 1 (c44).length), (.vec p0_last_ 1 (s21.2).length), (.vec p0_count 1 (c55).length), (eI ({ x0 with clock := v2 } : lists_Lists).free), (eI ({ x0 with clock := v2 } : lists_Lists).clock)] rfl (by first | rfl | simp only [updA_len hc45, updA_len hc56]))
  obtain rfl := oi H54
  exact ⟨_, (.tup []), rfl, wr, .of_eq rfl, hH.noT⟩
 ·refine awp_if hs23 rfl (fun H25 => ?_) (fun H25 => ?_)
  ·refine awp_region rfl (mm tk (.ref p0 0) rfl rfl (mc tk (.ref p0 0) rfl rfl (fun _ => rfl) (mc tk (.ref p0 2) rfl rfl (fun _ => rfl) (wpo_rd (a := (.vec p0_last_ 1 (x0.last_).length)) rfl rfl rfl (h_ld tk hH 0 rfl rfl rfl) (mm tk (eI x2) rfl rfl (mm tk (eI x1) rfl rfl ?_))))))
   refine b_ H25 (fun _ => .ref p0_last_ (0 + (x2 : Int).toNat * 1 + 0)) rfl (fun v27 hv => o_vecx tk hv td70 sz3 (by decide) rfl rfl) fun v27 hv27 H26 => ?_
   obtain ⟨c29, hc30, H28⟩ := ob H26
   refine wpo_z rfl rfl (h_stx tk hH 3 hc30 rfl (enc_i64 td3 sz3) ty3 (by simp) rfl rfl wr (b := (eI x1)) rfl rfl (by decide) (fun _ => rfl)) fun τ hH => ?_
   refine wpo_nil ?_
   have e := oi H28
   subst e
   exact ⟨(wc (wc (wc (wkf_nil _)))), (Holds.cells hH 0 [(.vec p0_nodes 4 (c13).length), (.vec p0_first_ 1 (x0.first_).length), (.vec p0_last_ 1 (c29).length), (.vec p0_count 1 (x0.count).length), (eI ({ x0 with clock := v2 } : lists_Lists).free), (eI ({ x0 with clock := v2 } : lists_Lists).clock)] rfl (by first | rfl | simp only [updA_len hc30]))⟩
  ·refine awp_drawS mixed [14] rfl (by decide +kernel) rfl rfl ?_
   refine wpdS_mv (a := (.ref p0 0)) rfl rfl rfl (o_mv tk rfl (Wk.refl _)) (wpdS_mv (a := (.ref p0 0)) rfl rfl rfl (o_c tk false rfl (fun _ => rfl)) (wpdS_mv (a := (.ref p0 0)) rfl rfl rfl (o_c tk false rfl (fun _ => rfl)) (wpdS_rd (a := (.vec p0_nodes 4 (c13).length)) rfl (by decide +kernel) rfl rfl (h_ld tk hH 0 rfl rfl rfl) (wpdS_mv (a := (.ref p0 0)) rfl rfl rfl (o_mv tk rfl (Wk.refl _)) (wpdS_mv (a := (.ref p0 0)) rfl rfl rfl (o_c tk false rfl (fun _ => rfl)) (wpdS_mv (a := (.ref p0 1)) rfl rfl rfl (o_c tk false rfl (fun _ => rfl)) (wpdS_rd (a := (.vec p0_first_ 1 (x0.first_).length)) rfl (by decide +kernel) rfl rfl (h_ld tk hH 0 rfl rfl rfl) (wpdS_mv (a := (eI x2)) rfl rfl rfl (o_mv tk rfl (Wk.refl _)) ?_))))))))
   refine wpdS_bd H25 (fun _ => .ref p0_first_ (0 + (x2 : Int).toNat * 1 + 0)) rfl rfl rfl (fun v32 hv => o_vecx tk hv td70 sz3 (by decide) rfl rfl) fun v32 hv32 H31 => ?_
   refine wpdS_bdr H31 (fun y => eI y) rfl (by decide +kernel) rfl rfl (fun v34 hv => h_ldx tk hH 2 hv rfl (enc_i64 td3 sz3) (acut_enc (enc_i64 td3 sz3) rfl _) (by decide) rfl) fun v34 hv34 H33 => ?_
   refine wpdS_mv (a := (eI x1)) rfl rfl rfl (o_mv tk rfl (Wk.refl _)) ?_
   refine wpdS_bd H33 (fun _ => .ref p0_nodes (0 + (v34 : Int).toNat * 4 + 0)) rfl rfl rfl (fun v36 hv => o_vecx tk hv td102 sz106 (by decide) rfl rfl) fun v36 hv36 H35 => ?_
   refine wpdS_mv (a := (.ref p0_nodes (0 + (v34 : Int).toNat * 4 + 0))) rfl rfl rfl (o_c tk false rfl (fun _ => rfl)) ?_
   obtain ⟨c38, hc39, H37⟩ := ob H35
   refine wpdS_z rfl rfl rfl (h_stx tk hH 1 hc39 rfl enc106 ty3 (by simp) rfl rfl wr (b := (eI x1)) rfl rfl (by decide) (fun _ => rfl)) fun τ hH => ?_
   refine wpdS_nil ?_
   have e := oi H37
   subst e
   exact ⟨(wc (wc (wc (wkf_nil _)))), (Holds.cells hH 0 [(.vec p0_nodes 4 (c38).length), (.vec p0_first_ 1 (x0.first_).length), (.vec p0_last_ 1 (x0.last_).length), (.vec p0_count 1 (x0.count).length), (eI ({ x0 with clock := v2 } : lists_Lists).free), (eI ({ x0 with clock := v2 } : lists_Lists).clock)] rfl (by first | rfl | simp only [updA_len hc39]))⟩
theorem lists_Lists_Add_ok {x0 : lists_Lists} {x1 : Int} {r : Int × Err × lists_Lists} (H : lists_Lists_Add x0 x1 = some r) (σ : St) {p0 p0_nodes p0_first_ p0_last_ p0_count : Nat} (h0 : σ.objs[p0]? = some [(.vec p0_nodes 4 (x0.nodes).length), (.vec p0_first_ 1 (x0.first_).length), (.vec p0_last_ 1 (x0.last_).length), (.vec p0_count 1 (x0.count).length), (eI x0.free), (eI x0.clock)]) (h0_nodes : σ.objs[p0_nodes]? = some (cL e_lists_link x0.nodes)) (h0_first_ : σ.objs[p0_first_]? = some (cL eI x0.first_)) (h0_last_ : σ.objs[p0_last_]? = some (cL eI x0.last_)) (h0_count : σ.objs[p0_count]? = some (cL eI x0.count)) (hd : [p0, p0_nodes, p0_first_, p0_last_, p0_count].Pairwise fun a b => a ≠ b) : ACall Tryd.prog 40 [(.ref p0 0), (eI x1)] σ (fun a τ => a = .tup [eI r.1, eErr r.2.1] ∧ τ = σ.puts [(p0, [(.vec p0_nodes 4 (r.2.2.nodes).length), (.vec p0_first_ 1 (r.2.2.first_).length), (.vec p0_last_ 1 (r.2.2.last_).length), (.vec p0_count 1 (r.2.2.count).length), (eI r.2.2.free), (eI r.2.2.clock)]), (p0_nodes, (cL e_lists_link r.2.2.nodes)), (p0_first_, (cL eI r.2.2.first_)), (p0_last_, (cL eI r.2.2.last_)), (p0_count, (cL eI r.2.2.count))]) := by
 unfold lists_Lists_Add at H
 refine ACall.outB [(p0, [(.vec p0_nodes 4 (r.2.2.nodes).length), (.vec p0_first_ 1 (r.2.2.first_).length), (.vec p0_last_ 1 (r.2.2.last_).length), (.vec p0_count 1 (r.2.2.count).length), (eI r.2.2.free), (eI r.2.2.clock)]), (p0_nodes, (cL e_lists_link r.2.2.nodes)), (p0_first_, (cL eI r.2.2.first_)), (p0_last_, (cL eI r.2.2.last_)), (p0_count, (cL eI r.2.2.count))] (by simp only [List.mem_cons, List.not_mem_nil, or_false]; rintro _ (rfl | rfl | rfl | rfl | rfl) <;> first | exact cut_cL enc106.cut _ _ _ | exact cut_cL (enc_i64 td3 sz3).cut _ _ _ | (simp only [cutL, cut_vec_id (idl_get h0_nodes), cut_vec_id (idl_get h0_first_), cut_vec_id (idl_get h0_last_), cut_vec_id (idl_get h0_count), (enc_i64 td3 sz3).cut _ _]; done)) (acall_start tk Tryd.func40 (by decide) rfl (nb rfl) ?_)
 have hH := Holds.brings (σ := σ) [(p0, [(.vec p0_nodes 4 (x0.nodes).length), (.vec p0_first_ 1 (x0.first_).length), (.vec p0_last_ 1 (x0.last_).length), (.vec p0_count 1 (x0.count).length), (eI x0.free), (eI x0.clock)]), (p0_nodes, (cL e_lists_link x0.nodes)), (p0_first_, (cL eI x0.first_)), (p0_last_, (cL eI x0.last_)), (p0_count, (cL eI x0.count))] (by simp only [List.mem_cons, List.not_mem_nil, or_false]; rintro _ (rfl | rfl | rfl | rfl | rfl) <;> assumption) hd
 refine sr rfl (ma tk (eI (0 : Int)) rfl rfl (ma tk (eErr Err.nil) rfl rfl (wpo_nil (awp_seq (awp_block (awp_seq ?_))))))
 obtain ⟨s1, hs3, hj4⟩ := ob H
 refine awp_cutn (fun fr τ => WkF fr (fm [(0, (.ref p0 0)), (1, (eI x1)), (7, (eB s1))]) ∧ Holds σ [(p0, [(.vec p0_nodes 4 (x0.nodes).length), (.vec p0_first_ 1 (x0.first_).length), (.vec p0_last_ 1 (x0.last_).length), (.vec p0_count 1 (x0.count).length), (eI x0.free), (eI x0.clock)]), (p0_nodes, (cL e_lists_link x0.nodes)), (p0_first_, (cL eI x0.first_)), (p0_last_, (cL eI x0.last_)), (p0_count, (cL eI x0.count))] [] τ) ?_ ?_
 ·rintro fr τ ⟨hfr, hH⟩
  have H12 := hj4
  refine AWP.fm [(0, (.ref p0 0)), (1, (eI x1)), (7, (eB s1))] hfr ?_
  refine awp_if H12 rfl (fun H13 => ?_) (fun H13 => ?_)
  ·refine sr rfl (mm tk (eI x1) rfl rfl ?_)
   refine b_ H13 eErr rfl (fun v15 hv => OpP.of_call rfl rfl (.cons wr (.cons wr (.cons wr .nil))) (trouble_New_ok hv)) fun v15 hv15 H14 => ?_
   refine ma tk (eI (-1 : Int)) rfl rfl (ma tk (eErr v15) rfl rfl (wpo_nil (awp_ret ?_)))
   obtain rfl := oi H14
   exact ⟨_, (.tup [(eI (-1 : Int)), (eErr v15)]), rfl, (wk_tup (.cons wr (.cons wr .nil))), .of_eq (by simp only [cutAV, cutL, (enc_i64 td3 sz3).cut _ _ _, encErr.cut _ _ _]), hH.noT⟩
  ·refine sr rfl (mm tk (.ref p0 0) rfl rfl (mc tk (.ref p0 0) rfl rfl (fun _ => rfl) (mc tk (.ref p0 4) rfl rfl (fun _ => rfl) (wpo_rd (a := (eI x0.free)) rfl rfl rfl (h_ld tk hH 0 rfl rfl rfl) ?_))))
   refine l_ H13 eB rfl (o_ar tk rfl rfl rfl) fun v17 H16 => ?_
   refine ma tk (eB v17) rfl rfl (wpo_nil ?_)
   refine awp_if H16 rfl (fun H18 => ?_) (fun H18 => ?_)
   ·refine sr rfl (mm tk (eI x1) rfl rfl ?_)
    refine b_ H18 eErr rfl (fun v20 hv => OpP.of_call rfl rfl (.cons wr (.cons wr (.cons wr .nil))) (trouble_New_ok hv)) fun v20 hv20 H19 => ?_
    refine ma tk (eI (-1 : Int)) rfl rfl (ma tk (eErr v20) rfl rfl (wpo_nil (awp_ret ?_)))
    obtain rfl := oi H19
    exact ⟨_, (.tup [(eI (-1 : Int)), (eErr v20)]), rfl, (wk_tup (.cons wr (.cons wr .nil))), .of_eq (by simp only [cutAV, cutL, (enc_i64 td3 sz3).cut _ _ _, encErr.cut _ _ _]), hH.noT⟩
   ·refine awp_skip (sr rfl (mm tk (.ref p0 0) rfl rfl (mc tk (.ref p0 0) rfl rfl (fun _ => rfl) (mc tk (.ref p0 4) rfl rfl (fun _ => rfl) (wpo_rd (a := (eI x0.free)) rfl rfl rfl (h_ld tk hH 0 rfl rfl rfl) (ma tk (eI x0.free) rfl rfl (wpo_nil (sr rfl ?_))))))))
    refine mm tk (.ref p0 0) rfl rfl (mm tk (.ref p0 0) rfl rfl (mc tk (.ref p0 0) rfl rfl (fun _ => rfl) (mc tk (.ref p0 0) rfl rfl (fun _ => rfl) (wpo_rd (a := (.vec p0_nodes 4 (x0.nodes).length)) rfl rfl rfl (h_ld tk hH 0 rfl rfl rfl) (mm tk (eI x0.free) rfl rfl ?_)))))
    refine b_ H18 (fun _ => .ref p0_nodes (0 + (x0.free : Int).toNat * 4 + 0)) rfl (fun v22 hv => o_vecx tk hv td102 sz106 (by decide) rfl rfl) fun v22 hv22 H21 => ?_
    refine mc tk (.ref p0_nodes (0 + (x0.free : Int).toNat * 4 + 1)) rfl rfl (fun _ => rfl) ?_
    refine wpo_bdr H21 (fun y => eI y.behind) rfl rfl rfl (fun v24 hv => h_ldx tk hH 1 hv rfl enc106 rfl (by decide) rfl) fun v24 hv24 H23 => ?_
    refine mc tk (.ref p0 0) rfl rfl (fun _ => rfl) (mc tk (.ref p0 4) rfl rfl (fun _ => rfl) ?_)
    refine wpo_z rfl rfl (h_st tk hH 0 rfl ty3 (by simp) rfl rfl wr (b := (eI v24.behind)) rfl rfl (nb rfl) [(.vec p0_nodes 4 (x0.nodes).length), (.vec p0_first_ 1 (x0.first_).length), (.vec p0_last_ 1 (x0.last_).length), (.vec p0_count 1 (x0.count).length), (eI ({ x0 with free := v24.behind } : lists_Lists).free), (eI ({ x0 with free := v24.behind } : lists_Lists).clock)] rfl) fun τ hH => ?_
    refine wpo_nil (sr rfl (mm tk (.ref p0 0) rfl rfl (mm tk (eI x0.free) rfl rfl (mm tk (eI x1) rfl rfl ?_))))
    refine wpo_cb H23 (fun x _ => .tup []) rfl rfl rfl (fun v27 hv => h_call1 hH [(0, (p0, [(.vec p0_nodes 4 (v27.nodes).length), (.vec p0_first_ 1 (v27.first_).length), (.vec p0_last_ 1 (v27.last_).length), (.vec p0_count 1 (v27.count).length), (eI v27.free), (eI v27.clock)])), (1, (p0_nodes, (cL e_lists_link v27.nodes))), (2, (p0_first_, (cL eI v27.first_))), (3, (p0_last_, (cL eI v27.last_))), (4, (p0_count, (cL eI v27.count)))] ⟨⟨_, rfl⟩, ⟨⟨_, rfl⟩, ⟨⟨_, rfl⟩, ⟨⟨_, rfl⟩, ⟨⟨_, rfl⟩, trivial⟩⟩⟩⟩⟩ rfl rfl (.cons wr (.cons wr (.cons wr .nil))) (lists_Lists_push_ok hv _ (hH.at_ 0 rfl) (hH.at_ 1 rfl) (hH.at_ 2 rfl) (hH.at_ 3 rfl) (hH.at_ 4 rfl) (hH.pw [0, 1, 2, 3, 4] rfl (by decide)))) fun v27 _ τ hv27 H26 (hH : Holds σ [(p0, [(.vec p0_nodes 4 (v27.nodes).length), (.vec p0_first_ 1 (v27.first_).length), (.vec p0_last_ 1 (v27.last_).length), (.vec p0_count 1 (v27.count).length), (eI v27.free), (eI v27.clock)]), (p0_nodes, (cL e_lists_link v27.nodes)), (p0_first_, (cL eI v27.first_)), (p0_last_, (cL eI v27.last_)), (p0_count, (cL eI v27.count))] [] τ) => ?_
    refine wpo_nil (sr rfl (mm tk (eI x0.free) rfl rfl (ma tk (eI x0.free) rfl rfl (ma tk (eErr Err.nil) rfl rfl (wpo_nil (awp_ret ?_))))))
    obtain rfl := oi H26
    exact ⟨_, (.tup [(eI x0.free), (eErr Err.nil)]), rfl, (wk_tup (.cons wr (.cons wr .nil))), .of_eq (by simp only [cutAV, cutL, (enc_i64 td3 sz3).cut _ _ _, encErr.cut _ _ _]), hH.noT⟩
 ·refine awp_region rfl (mm tk (eI x1) rfl rfl ?_)
  refine l_ hs3 eB rfl (o_ar tk rfl rfl rfl) fun v6 H5 => ?_
  refine mm tk (eB v6) rfl rfl ?_
  refine if_split H5 (fun hb H7 => ?_) (fun hb H7 => ?_)
  ·subst hb
   refine k_ rfl (k_ rfl (k_ rfl (k_ rfl (k_ rfl (k_ rfl (k_ rfl (pt tk (eB true) rfl rfl rfl (ma tk (eB true) rfl rfl ?_))))))))
   refine wpo_nil ?_
   have e := oi H7
   subst e
   exact ⟨(wc (wc (wc (wkf_nil _)))), hH⟩
  ·subst hb
   refine mm tk (eI x1) rfl rfl (mm tk (.ref p0 0) rfl rfl (mc tk (.ref p0 0) rfl rfl (fun _ => rfl) (mc tk (.ref p0 1) rfl rfl (fun _ => rfl) (wpo_rd (a := (.vec p0_first_ 1 (x0.first_).length)) rfl rfl rfl (h_ld tk hH 0 rfl rfl rfl) ?_))))
   refine l_ H7 eI rfl (o_vlen tk td70 rfl) fun v9 H8 => ?_
   refine l_ H8 eB rfl (o_ar tk rfl rfl rfl) fun v11 H10 => ?_
   refine pf tk (eB v11) rfl rfl rfl (ma tk (eB v11) rfl rfl (wpo_nil ?_))
   have e := oi H10
   subst e
   exact ⟨(wc (wc (wc (wkf_nil _)))), hH⟩
theorem slab_Budget_Take_ok {x0 : slab_Budget} {x1 : Int} {r : Err × slab_Budget} (H : slab_Budget_Take x0 x1 = some r) (σ : St) {p0 : Nat} (h0 : σ.objs[p0]? = some (c_slab_Budget x0)) : ACall Tryd.prog 41 [(.ref p0 0), (eI x1)] σ (fun a τ => a = eErr r.1 ∧ τ = σ.puts [(p0, (c_slab_Budget r.2))]) := by
 unfold slab_Budget_Take at H
 refine ACall.out [(p0, (c_slab_Budget r.2))] (by simp only [List.mem_cons, List.not_mem_nil, or_false]; rintro _ (rfl) ρ κ <;> exact c_slab_Budget_cut ρ κ _) (acall_start tk Tryd.func41 (by decide) rfl (nb rfl) ?_)
 have hH := Holds.init σ
 have hH := hH.bring h0 (fun _ h => by cases h)
 refine sr rfl (ma tk (eErr Err.nil) rfl rfl (wpo_nil (sr rfl (mm tk (eI x1) rfl rfl ?_))))
 refine b_ H eI rfl (fun v2 hv => OpP.of_call rfl rfl (.cons wr .nil) (slab_Size_ok hv)) fun v2 hv2 H1 => ?_
 refine ma tk (eI v2) rfl rfl (wpo_nil (awp_seq (awp_block (sr rfl (mm tk (eI v2) rfl rfl ?_)))))
 refine l_ H1 eB rfl (o_ar tk rfl rfl rfl) fun v4 H3 => ?_
 refine ma tk (eB v4) rfl rfl (wpo_nil ?_)
 refine awp_if H3 rfl (fun H5 => ?_) (fun H5 => ?_)
 ·refine sr rfl (mm tk (eI x1) rfl rfl ?_)
  refine b_ H5 eErr rfl (fun v7 hv => OpP.of_call rfl rfl (.cons wr (.cons wr (.cons wr .nil))) (trouble_New_ok hv)) fun v7 hv7 H6 => ?_
  refine ma tk (eErr v7) rfl rfl (wpo_nil (awp_ret ?_))
  obtain rfl := oi H6
  exact ⟨_, (eErr v7), rfl, wr, .of_eq (encErr.cut _ _ _), hH.noT⟩
 ·refine sr rfl (mm tk (eI v2) rfl rfl (mm tk (.ref p0 0) rfl rfl ?_))
  refine wpo_bdr H5 eI rfl rfl rfl (fun v9 hv => h_callr rfl rfl (.cons wr .nil) (slab_Budget_Left_ok hv _ (hH.at_ 0 rfl))) fun v9 hv9 H8 => ?_
  refine l_ H8 eB rfl (o_ar tk rfl rfl rfl) fun v11 H10 => ?_
  refine ma tk (eB v11) rfl rfl (wpo_nil ?_)
  refine awp_if H10 rfl (fun H12 => ?_) (fun H12 => ?_)
  ·refine sr rfl (mm tk (eI v2) rfl rfl ?_)
   refine b_ H12 eErr rfl (fun v14 hv => OpP.of_call rfl rfl (.cons wr (.cons wr (.cons wr .nil))) (trouble_New_ok hv)) fun v14 hv14 H13 => ?_
   refine ma tk (eErr v14) rfl rfl (wpo_nil (awp_ret ?_))
   obtain rfl := oi H13
   exact ⟨_, (eErr v14), rfl, wr, .of_eq (encErr.cut _ _ _), hH.noT⟩
  ·refine awp_skip (sr rfl (mm tk (.ref p0 0) rfl rfl (mc tk (.ref p0 0) rfl rfl (fun _ => rfl) (mc tk (.ref p0 1) rfl rfl (fun _ => rfl) (wpo_rd (a := (eI x0.used)) rfl rfl rfl (h_ld tk hH 0 rfl (g_slab_Budget_used _) rfl) (mm tk (eI v2) rfl rfl ?_))))))
   refine l_ H12 eI rfl (o_ar tk rfl rfl rfl) fun v16 H15 => ?_
   refine mc tk (.ref p0 0) rfl rfl (fun _ => rfl) (mc tk (.ref p0 1) rfl rfl (fun _ => rfl) ?_)
   obtain ⟨c18, hc19, H17⟩ := lt_ex H15
   refine wpo_z rfl rfl (h_st tk hH 0 rfl ty3 (by simp) rfl rfl wr (b := (eI v16)) rfl rfl (by rw [cl_slab_Budget]; decide) (c_slab_Budget c18) (by rw [← hc19]; exact s_slab_Budget_used _ _)) fun τ hH => ?_
   refine wpo_nil (awp_seq ?_)
   refine awp_drawS mixed [10] rfl (by decide +kernel) rfl rfl ?_
   refine wpdS_mv (a := (.ref p0 0)) rfl rfl rfl (o_mv tk rfl (Wk.refl _)) (wpdS_mv (a := (eI x1)) rfl rfl rfl (o_mv tk rfl (Wk.refl _)) (wpdS_mv (a := (.ref p0 0)) rfl rfl rfl (o_c tk false rfl (fun _ => rfl)) (wpdS_mv (a := (.ref p0 2)) rfl rfl rfl (o_c tk false rfl (fun _ => rfl)) ?_)))
   refine wpdS_bd H17 (fun _ => .ref p0 (2 + (x1 : Int).toNat * 1 + 0)) rfl rfl rfl (fun v21 hv => o_arrb tk hv td99 sz3 (by decide) rfl rfl) fun v21 hv21 H20 => ?_
   refine wpdS_bdr H20 (fun y => eI y) rfl (by decide +kernel) rfl rfl (fun v23 hv => h_ldb tk hH 0 hv rfl (sp_slab_Budget_count _) (al_slab_Budget_count _) (enc_i64 td3 sz3) (acut_enc (enc_i64 td3 sz3) rfl _) (by decide) rfl) fun v23 hv23 H22 => ?_
   refine wpdS_lt H22 eI rfl rfl rfl (o_ar tk rfl rfl rfl) fun v25 H24 => ?_
   refine wpdS_mv (a := (.ref p0 0)) rfl rfl rfl (o_c tk false rfl (fun _ => rfl)) (wpdS_mv (a := (.ref p0 2)) rfl rfl rfl (o_c tk false rfl (fun _ => rfl)) ?_)
   refine wpdS_bd H24 (fun _ => .ref p0 (2 + (x1 : Int).toNat * 1 + 0)) rfl rfl rfl (fun v27 hv => o_arrb tk hv td99 sz3 (by decide) rfl rfl) fun v27 hv27 H26 => ?_
   obtain ⟨v29, hv30, H28⟩ := ob H26
   obtain ⟨c31, hc32, H33⟩ := lt_ex H28
   refine wpdS_z rfl rfl rfl (by rw [← hc32]; exact (h_stb tk hH 0 hv30 rfl (sp_slab_Budget_count _) (sp_slab_Budget_count { c18 with count := v29 }) (al_slab_Budget_count _) (enc_i64 td3 sz3) ty3 (by simp) rfl rfl wr (b := (eI v25)) rfl rfl (by decide) (fun _ => rfl))) fun τ (hH : Holds σ [(p0, (c_slab_Budget c31))] [] τ) => ?_
   refine wpdS_nil (sr rfl (ma tk (eErr Err.nil) rfl rfl (wpo_nil (awp_ret ?_))))
   obtain rfl := oi H33
   exact ⟨_, (eErr Err.nil), rfl, wr, .of_eq (encErr.cut _ _ _), hH.noT⟩
theorem item_Copy_ok {x0 : aEn} {r : aEn} (H : item_Copy x0 = some r) (σ : St)  : ACall Tryd.prog 43 [(e_aEn x0)] σ (fun a τ => a = e_aEn r ∧ τ = σ) := by
 unfold item_Copy at H
 refine ACall.pure (acall_start tk Tryd.func43 (by decide) rfl (nb rfl) ?_)
 have hH := Holds.init σ
 refine sr rfl ?_
 refine wpo_a (av := fun id => .ref id 0) rfl rfl rfl (h_box tk hH rfl wr (b := (e_aEn x0)) (enc39.flat _) (c_aEn x0) rfl) fun id1 τ ⟨hH, n2⟩ => ?_
 refine wpo_a (av := fun id => .ref id 0) rfl rfl rfl (h_alloc tk hH ty39 [(eS z_aEn.Key), (eI z_aEn.Version), (eI z_aEn.AsOf), (eI z_aEn.Ends), AV.nils] rfl) fun id3 τ ⟨hH, n4⟩ => ?_
 refine wpo_nil (sr rfl (mc tk (eF 1 (@eU .u8 8) ([] : List (BitVec 8))) rfl rfl (fun _ => rfl) (mc tk (.ref id1 4) rfl rfl (fun _ => rfl) (wpo_rd (a := ((eL 1 (@eU .u8 8)) x0.Value)) rfl rfl rfl (h_ld tk hH 1 rfl rfl rfl) ?_))))
 obtain ⟨v6, hv7, H5⟩ := ob H
 refine wpo_a (av := fun t => eT t 1 (@eU .u8 8) v6) rfl rfl rfl (h_app0 tk hH hv7 td37 ty5 rfl (by decide) (.inr rfl) (src_l td37 rfl)) fun tk8 τ hH => ?_
 refine mc tk (.ref id1 4) rfl rfl (fun _ => rfl) ?_
 obtain ⟨c10, hc11, H9⟩ := lt_ex H5
 refine wpo_z rfl rfl (h_st (y := (eT tk8 1 (@eU .u8 8) v6)) tk hH 1 rfl ty37 (by simp) rfl rfl wk_no (b := ((eL 1 (@eU .u8 8)) v6)) rfl rfl (nb rfl) (c_aEn c10) (by rw [← hc11]; rfl)) fun τ hH => ?_
 refine wpo_nil (sr rfl (wpo_rd (a := (e_aEn c10)) rfl rfl rfl (h_ld tk hH 1 rfl rfl rfl) ?_))
 refine wpo_z rfl rfl (h_st tk hH 0 rfl ty39 (by simp) rfl rfl wr (b := (e_aEn c10)) (enc39.flat _) rfl (nb rfl) (c_aEn (c10 : aEn)) rfl) fun τ hH => ?_
 refine wpo_nil (awp_ret ?_)
 obtain rfl := oi H9
 exact ⟨_, (e_aEn (c10 : aEn)), (ares_1 (ares_cell hH 0 rfl rfl rfl)), wr, .of_eq (enc39.cut _ _ _), ((hH.noT.drop n4).drop n2)⟩
theorem ram_Ram_Set_ok {x0 : ram_Ram} {x1 : aEn} {x2 : Int} {r : (List aEn) × Err × ram_Ram} (H : ram_Ram_Set x0 x1 x2 = some r) (σ : St) {p0 p0B p0I p0N p0F p0L p0C p0H p0X p0G : Nat} (h0 : σ.objs[p0]? = some [(.ref p0B 0), (.ref p0I 0), (.vec p0H 1 (x0.heads).length), (.vec p0X 1 (x0.next_).length), (.vec p0G 5 (x0.things).length), (eI x0.count)]) (h0_budget : σ.objs[p0B]? = some (c_slab_Budget x0.budget)) (h0_lists : σ.objs[p0I]? = some [(.vec p0N 4 (x0.lists.nodes).length), (.vec p0F 1 (x0.lists.first_).length), (.vec p0L 1 (x0.lists.last_).length), (.vec p0C 1 (x0.lists.count).length), (eI x0.lists.free), (eI x0.lists.clock)]) (h0_lists_nodes : σ.objs[p0N]? = some (cL e_lists_link x0.lists.nodes)) (h0_lists_first_ : σ.objs[p0F]? = some (cL eI x0.lists.first_)) (h0_lists_last_ : σ.objs[p0L]? = some (cL eI x0.lists.last_)) (h0_lists_count : σ.objs[p0C]? = some (cL eI x0.lists.count)) (h0_heads : σ.objs[p0H]? = some (cL eI x0.heads)) (h0_next_ : σ.objs[p0X]? = some (cL eI x0.next_)) (h0_things : σ.objs[p0G]? = some (cL e_aEn x0.things)) (hd : [p0, p0B, p0I, p0N, p0F, p0L, p0C, p0H, p0X, p0G].Pairwise fun a b => a ≠ b) : ACall Tryd.prog 10 [(.ref p0 0), (e_aEn x1), (eI x2)] σ (fun a τ => a = .tup [(eL 5 e_aEn) r.1, eErr r.2.1] ∧ τ = σ.puts [(p0, [(.ref p0B 0), (.ref p0I 0), (.vec p0H 1 (r.2.2.heads).length), (.vec p0X 1 (r.2.2.next_).length), (.vec p0G 5 (r.2.2.things).length), (eI r.2.2.count)]), (p0B, (c_slab_Budget r.2.2.budget)), (p0I, [(.vec p0N 4 (r.2.2.lists.nodes).length), (.vec p0F 1 (r.2.2.lists.first_).length), (.vec p0L 1 (r.2.2.lists.last_).length), (.vec p0C 1 (r.2.2.lists.count).length), (eI r.2.2.lists.free), (eI r.2.2.lists.clock)]), (p0N, (cL e_lists_link r.2.2.lists.nodes)), (p0F, (cL eI r.2.2.lists.first_)), (p0L, (cL eI r.2.2.lists.last_)), (p0C, (cL eI r.2.2.lists.count)), (p0H, (cL eI r.2.2.heads)), (p0X, (cL eI r.2.2.next_)), (p0G, (cL e_aEn r.2.2.things))]) := by
 unfold ram_Ram_Set at H
 refine ACall.outB [(p0, [(.ref p0B 0), (.ref p0I 0), (.vec p0H 1 (r.2.2.heads).length), (.vec p0X 1 (r.2.2.next_).length), (.vec p0G 5 (r.2.2.things).length), (eI r.2.2.count)]), (p0B, (c_slab_Budget r.2.2.budget)), (p0I, [(.vec p0N 4 (r.2.2.lists.nodes).length), (.vec p0F 1 (r.2.2.lists.first_).length), (.vec p0L 1 (r.2.2.lists.last_).length), (.vec p0C 1 (r.2.2.lists.count).length), (eI r.2.2.lists.free), (eI r.2.2.lists.clock)]), (p0N, (cL e_lists_link r.2.2.lists.nodes)), (p0F, (cL eI r.2.2.lists.first_)), (p0L, (cL eI r.2.2.lists.last_)), (p0C, (cL eI r.2.2.lists.count)), (p0H, (cL eI r.2.2.heads)), (p0X, (cL eI r.2.2.next_)), (p0G, (cL e_aEn r.2.2.things))] (by simp only [List.mem_cons, List.not_mem_nil, or_false]; rintro _ (rfl | rfl | rfl | rfl | rfl | rfl | rfl | rfl | rfl | rfl) <;> first | exact c_slab_Budget_cut _ _ _ | exact cut_cL enc106.cut _ _ _ | exact cut_cL (enc_i64 td3 sz3).cut _ _ _ | exact cut_cL enc39.cut _ _ _ | (simp only [cutL, cut_ref_id (idl_get h0_budget), cut_ref_id (idl_get h0_lists), cut_vec_id (idl_get h0_heads), cut_vec_id (idl_get h0_next_), cut_vec_id (idl_get h0_things), (enc_i64 td3 sz3).cut _ _]; done) | (simp only [cutL, cut_vec_id (idl_get h0_lists_nodes), cut_vec_id (idl_get h0_lists_first_), cut_vec_id (idl_get h0_lists_last_), cut_vec_id (idl_get h0_lists_count), (enc_i64 td3 sz3).cut _ _]; done)) (acall_start tk Tryd.func10 (by decide) rfl (nb rfl) ?_)
 have hH := Holds.brings (σ := σ) [(p0, [(.ref p0B 0), (.ref p0I 0), (.vec p0H 1 (x0.heads).length), (.vec p0X 1 (x0.next_).length), (.vec p0G 5 (x0.things).length), (eI x0.count)]), (p0B, (c_slab_Budget x0.budget)), (p0I, [(.vec p0N 4 (x0.lists.nodes).length), (.vec p0F 1 (x0.lists.first_).length), (.vec p0L 1 (x0.lists.last_).length), (.vec p0C 1 (x0.lists.count).length), (eI x0.lists.free), (eI x0.lists.clock)]), (p0N, (cL e_lists_link x0.lists.nodes)), (p0F, (cL eI x0.lists.first_)), (p0L, (cL eI x0.lists.last_)), (p0C, (cL eI x0.lists.count)), (p0H, (cL eI x0.heads)), (p0X, (cL eI x0.next_)), (p0G, (cL e_aEn x0.things))] (by simp only [List.mem_cons, List.not_mem_nil, or_false]; rintro _ (rfl | rfl | rfl | rfl | rfl | rfl | rfl | rfl | rfl | rfl) <;> assumption) hd
 refine sr rfl (m_ (.fptr (c_aEn x1) 0) rfl (o_boxf tk rfl wr (b := (e_aEn x1)) (enc39.flat _)) (ma tk AV.nils rfl rfl (ma tk (eErr Err.nil) rfl rfl (wpo_nil (awp_seq (sr rfl (m_ (e_aEn x1) rfl (o_ld tk rfl rfl) ?_)))))))
 refine b_ H eErr rfl (fun v2 hv => OpP.of_call rfl rfl (.cons wr .nil) (item_Check_ok hv)) fun v2 hv2 H1 => ?_
 refine ma tk (eErr v2) rfl rfl (wpo_nil (sr rfl (mm tk (eErr v2) rfl rfl ?_)))
 refine l_ H1 eB rfl (o_err_neq tk rfl rfl rfl) fun v4 H3 => ?_
 refine wpo_nil ?_
 refine awp_if H3 rfl (fun H5 => ?_) (fun H5 => ?_)
 ·refine sr rfl (mm tk (eI x2) rfl rfl (mm tk (eErr v2) rfl rfl ?_))
  refine b_ H5 eErr rfl (fun v7 hv => OpP.of_call rfl rfl (.cons wr (.cons wr (.cons wr .nil))) (trouble_Wrap_ok hv)) fun v7 hv7 H6 => ?_
  refine ma tk AV.nils rfl rfl (ma tk (eErr v7) rfl rfl (wpo_nil (awp_ret ?_)))
  obtain rfl := oi H6
  exact ⟨_, (.tup [((eL 5 e_aEn) []), (eErr v7)]), rfl, (wk_tup (.cons (wk_nils _) (.cons wr .nil))), .of_eq (by simp only [cutAV, cutL, (enc_l td31 sz31 enc39.cut).cut _ _ _, encErr.cut _ _ _]), hH.noT⟩
 ·refine awp_skip (awp_seq (sr rfl (m_ (e_aEn x1) rfl (o_ld tk rfl rfl) ?_)))
  refine b_ H5 eI rfl (fun v9 hv => OpP.of_call rfl rfl (.cons wr .nil) (item_Size_ok hv)) fun v9 hv9 H8 => ?_
  refine ma tk (eI v9) rfl rfl (wpo_nil (awp_block (sr rfl (m_ (e_aEn x1) rfl (o_ld tk rfl rfl) (mm tk (eI x2) rfl rfl ?_)))))
  refine b_ H8 eB rfl (fun v11 hv => OpP.of_call rfl rfl (.cons wr (.cons wr .nil)) (item_Live_ok hv)) fun v11 hv11 H10 => ?_
  refine l_ H10 eB rfl (o_un tk rfl rfl) fun v13 H12 => ?_
  refine ma tk (eB v13) rfl rfl (wpo_nil ?_)
  refine awp_if H12 rfl (fun H14 => ?_) (fun H14 => ?_)
  ·refine sr rfl (mm tk (eI x2) rfl rfl ?_)
   refine b_ H14 eErr rfl (fun v16 hv => OpP.of_call rfl rfl (.cons wr (.cons wr (.cons wr .nil))) (trouble_New_ok hv)) fun v16 hv16 H15 => ?_
   refine ma tk AV.nils rfl rfl (ma tk (eErr v16) rfl rfl (wpo_nil (awp_ret ?_)))
   obtain rfl := oi H15
   exact ⟨_, (.tup [((eL 5 e_aEn) []), (eErr v16)]), rfl, (wk_tup (.cons (wk_nils _) (.cons wr .nil))), .of_eq (by simp only [cutAV, cutL, (enc_l td31 sz31 enc39.cut).cut _ _ _, encErr.cut _ _ _]), hH.noT⟩
  ·refine sr rfl (mm tk (.ref p0 0) rfl rfl (mc tk (.ref p0 0) rfl rfl (fun _ => rfl) (mc tk (.ref p0 0) rfl rfl (fun _ => rfl) (wpo_rd (a := (.ref p0B 0)) rfl rfl rfl (h_ld tk hH 0 rfl rfl rfl) (mm tk (eI v9) rfl rfl ?_)))))
   refine wpo_bdr H14 eB rfl rfl rfl (fun v18 hv => h_callr rfl rfl (.cons wr (.cons wr .nil)) (slab_Budget_Fits_ok hv _ (hH.at_ 1 rfl))) fun v18 hv18 H17 => ?_
   refine l_ H17 eB rfl (o_un tk rfl rfl) fun v20 H19 => ?_
   refine ma tk (eB v20) rfl rfl (wpo_nil ?_)
   refine awp_if H19 rfl (fun H21 => ?_) (fun H21 => ?_)
   ·refine sr rfl (mm tk (eI v9) rfl rfl ?_)
    refine b_ H21 eErr rfl (fun v23 hv => OpP.of_call rfl rfl (.cons wr (.cons wr (.cons wr .nil))) (trouble_New_ok hv)) fun v23 hv23 H22 => ?_
    refine ma tk AV.nils rfl rfl (ma tk (eErr v23) rfl rfl (wpo_nil (awp_ret ?_)))
    obtain rfl := oi H22
    exact ⟨_, (.tup [((eL 5 e_aEn) []), (eErr v23)]), rfl, (wk_tup (.cons (wk_nils _) (.cons wr .nil))), .of_eq (by simp only [cutAV, cutL, (enc_l td31 sz31 enc39.cut).cut _ _ _, encErr.cut _ _ _]), hH.noT⟩
   ·refine awp_skip (sr rfl (m_ (e_aEn x1) rfl (o_ld tk rfl rfl) ?_))
    refine b_ H21 eI rfl (fun v25 hv => OpP.of_call rfl rfl (.cons wr .nil) (item_Size_ok hv)) fun v25 hv25 H24 => ?_
    refine b_ H24 eI rfl (fun v27 hv => OpP.of_call rfl rfl (.cons wr .nil) (slab_Class_ok hv)) fun v27 hv27 H26 => ?_
    refine ma tk (eI v27) rfl rfl (wpo_nil (awp_seq (sr rfl (mm tk (.ref p0 0) rfl rfl (mc tk (.fptr (c_aEn x1) 0) rfl rfl (fun _ => rfl) (m_ (eS x1.Key) rfl (o_ld tk rfl rfl) ?_))))))
    refine wpo_bdr H26 eI rfl rfl rfl (fun v29 hv => h_callr rfl rfl (.cons wr (.cons wr .nil)) (ram_Ram_find_ok hv _ (hH.at_ 0 rfl) (hH.at_ 1 rfl) (hH.at_ 2 rfl) (hH.at_ 3 rfl) (hH.at_ 4 rfl) (hH.at_ 5 rfl) (hH.at_ 6 rfl) (hH.at_ 7 rfl) (hH.at_ 8 rfl) (hH.at_ 9 rfl) (hH.pw [0, 1, 2, 3, 4, 5, 6, 7, 8, 9] rfl (by decide)))) fun v29 hv29 H28 => ?_
    refine ma tk (eI v29) rfl rfl (wpo_nil (sr rfl (mm tk (eI v29) rfl rfl ?_)))
    refine l_ H28 eB rfl (o_ar tk rfl rfl rfl) fun v31 H30 => ?_
    refine wpo_nil ?_
    obtain ⟨s32, hs34, hj35⟩ := ob H30
    refine awp_cutn (fun fr τ => WkF fr (fm [(0, (.ref p0 0)), (2, (eI x2)), (4, (.fptr (c_aEn x1) 0)), (10, (eI v27))]) ∧ Holds σ [(p0, [(.ref p0B 0), (.ref p0I 0), (.vec p0H 1 (s32.2.2.2.2.2.2.2.1).length), (.vec p0X 1 (s32.2.2.2.2.2.2.2.2.1).length), (.vec p0G 5 (s32.2.2.2.2.2.2.2.2.2).length), (eI s32.1.count)]), (p0B, (c_slab_Budget s32.2.1)), (p0I, [(.vec p0N 4 (s32.2.2.2.1).length), (.vec p0F 1 (s32.2.2.2.2.1).length), (.vec p0L 1 (s32.2.2.2.2.2.1).length), (.vec p0C 1 (s32.2.2.2.2.2.2.1).length), (eI s32.2.2.1.free), (eI s32.2.2.1.clock)]), (p0N, (cL e_lists_link s32.2.2.2.1)), (p0F, (cL eI s32.2.2.2.2.1)), (p0L, (cL eI s32.2.2.2.2.2.1)), (p0C, (cL eI s32.2.2.2.2.2.2.1)), (p0H, (cL eI s32.2.2.2.2.2.2.2.1)), (p0X, (cL eI s32.2.2.2.2.2.2.2.2.1)), (p0G, (cL e_aEn s32.2.2.2.2.2.2.2.2.2))] [] τ) ?_ ?_
    ·rintro fr τ ⟨hfr, hH⟩
     have H39 := hj35
     refine AWP.fm [(0, (.ref p0 0)), (2, (eI x2)), (4, (.fptr (c_aEn x1) 0)), (10, (eI v27))] hfr ?_
     refine sr rfl (ma tk AV.nils rfl rfl (wpo_nil (awp_seq (awp_block ?_))))
     refine AWP.tokN hH 12 5 rfl fun tk51 τ hH => ?_
     obtain ⟨s59, hs53, hj54⟩ := ob H39
     refine awp_cutx 1 (fun fr τ => ∃ tk_12, WkF fr (fm [(0, (.ref p0 0)), (4, (.fptr (c_aEn x1) 0)), (10, (eI v27)), (12, (eT tk_12 5 e_aEn s59.1))]) ∧ Holds σ [(p0, [(.ref p0B 0), (.ref p0I 0), (.vec p0H 1 (s59.2.2.2.2.2.2.2.2.1).length), (.vec p0X 1 (s59.2.2.2.2.2.2.2.2.2.1).length), (.vec p0G 5 (s59.2.2.2.2.2.2.2.2.2.2).length), (eI s59.2.1.count)]), (p0B, (c_slab_Budget s59.2.2.1)), (p0I, [(.vec p0N 4 (s59.2.2.2.2.1).length), (.vec p0F 1 (s59.2.2.2.2.2.1).length), (.vec p0L 1 (s59.2.2.2.2.2.2.1).length), (.vec p0C 1 (s59.2.2.2.2.2.2.2.1).length), (eI s59.2.2.2.1.free), (eI s59.2.2.2.1.clock)]), (p0N, (cL e_lists_link s59.2.2.2.2.1)), (p0F, (cL eI s59.2.2.2.2.2.1)), (p0L, (cL eI s59.2.2.2.2.2.2.1)), (p0C, (cL eI s59.2.2.2.2.2.2.2.1)), (p0H, (cL eI s59.2.2.2.2.2.2.2.2.1)), (p0X, (cL eI s59.2.2.2.2.2.2.2.2.2.1)), (p0G, (cL e_aEn s59.2.2.2.2.2.2.2.2.2.2))] [tk_12] τ) ?_ ?_
     ·rintro fr τ ⟨tk_12, hfr, hH⟩
      have H84 := hj54
      refine AWP.fm [(0, (.ref p0 0)), (4, (.fptr (c_aEn x1) 0)), (10, (eI v27)), (12, (eT tk_12 5 e_aEn s59.1))] hfr ?_
      refine sr rfl (mm tk (.ref p0 0) rfl rfl (mc tk (.ref p0 0) rfl rfl (fun _ => rfl) (mc tk (.ref p0 1) rfl rfl (fun _ => rfl) (wpo_rd (a := (.ref p0I 0)) rfl rfl rfl (h_ld tk hH 0 rfl rfl rfl) (mm tk (eI v27) rfl rfl ?_)))))
      refine wpo_cb H84 (fun x _ => .tup [eI x.1, eErr x.2.1]) rfl rfl rfl (fun v86 hv => h_call1 hH [(2, (p0I, [(.vec p0N 4 (v86.2.2.nodes).length), (.vec p0F 1 (v86.2.2.first_).length), (.vec p0L 1 (v86.2.2.last_).length), (.vec p0C 1 (v86.2.2.count).length), (eI v86.2.2.free), (eI v86.2.2.clock)])), (3, (p0N, (cL e_lists_link v86.2.2.nodes))), (4, (p0F, (cL eI v86.2.2.first_))), (5, (p0L, (cL eI v86.2.2.last_))), (6, (p0C, (cL eI v86.2.2.count)))] ⟨⟨_, rfl⟩, ⟨⟨_, rfl⟩, ⟨⟨_, rfl⟩, ⟨⟨_, rfl⟩, ⟨⟨_, rfl⟩, trivial⟩⟩⟩⟩⟩ rfl rfl (.cons wr (.cons wr .nil)) (lists_Lists_Add_ok hv _ (hH.at_ 2 rfl) (hH.at_ 3 rfl) (hH.at_ 4 rfl) (hH.at_ 5 rfl) (hH.at_ 6 rfl) (hH.pw [2, 3, 4, 5, 6] rfl (by decide)))) fun v86 _ τ hv86 H85 (hH : Holds σ [(p0, [(.ref p0B 0), (.ref p0I 0), (.vec p0H 1 (s59.2.2.2.2.2.2.2.2.1).length), (.vec p0X 1 (s59.2.2.2.2.2.2.2.2.2.1).length), (.vec p0G 5 (s59.2.2.2.2.2.2.2.2.2.2).length), (eI s59.2.1.count)]), (p0B, (c_slab_Budget s59.2.2.1)), (p0I, [(.vec p0N 4 (v86.2.2.nodes).length), (.vec p0F 1 (v86.2.2.first_).length), (.vec p0L 1 (v86.2.2.last_).length), (.vec p0C 1 (v86.2.2.count).length), (eI v86.2.2.free), (eI v86.2.2.clock)]), (p0N, (cL e_lists_link v86.2.2.nodes)), (p0F, (cL eI v86.2.2.first_)), (p0L, (cL eI v86.2.2.last_)), (p0C, (cL eI v86.2.2.count)), (p0H, (cL eI s59.2.2.2.2.2.2.2.2.1)), (p0X, (cL eI s59.2.2.2.2.2.2.2.2.2.1)), (p0G, (cL e_aEn s59.2.2.2.2.2.2.2.2.2.2))] [tk_12] τ) => ?_
      refine mm tk (.tup [(eI v86.1), (eErr v86.2.1)]) rfl rfl (m_ (eI v86.1) rfl (o_ext tk rfl rfl) (m_ (eErr v86.2.1) rfl (o_ext tk rfl rfl) (ma tk (eI v86.1) rfl rfl (ma tk (eErr v86.2.1) rfl rfl (wpo_nil (awp_seq (sr rfl (mm tk (eErr v86.2.1) rfl rfl ?_))))))))
      refine l_ H85 eB rfl (o_err_neq tk rfl rfl rfl) fun v88 H87 => ?_
      refine wpo_nil ?_
      refine awp_if H87 rfl (fun H89 => ?_) (fun H89 => ?_)
      ·refine sr rfl (mm tk (eT tk_12 5 e_aEn s59.1) rfl rfl (mm tk (eI v27) rfl rfl (mm tk (eErr v86.2.1) rfl rfl ?_)))
       refine b_ H89 eErr rfl (fun v91 hv => OpP.of_call rfl rfl (.cons wr (.cons wr (.cons wr .nil))) (trouble_Wrap_ok hv)) fun v91 hv91 H90 => ?_
       refine ma tk (eT tk_12 5 e_aEn s59.1) rfl rfl (ma tk (eErr v91) rfl rfl (wpo_nil (awp_ret ?_)))
       obtain rfl := oi H90
       exact ⟨_, (.tup [((eL 5 e_aEn) s59.1), (eErr v91)]), rfl, (wk_tup (.cons wk_no (.cons wr .nil))), .of_eq (by simp only [cutAV, cutL, (enc_l td31 sz31 enc39.cut).cut _ _ _, encErr.cut _ _ _]), hH.noT⟩
      ·refine awp_skip (sr rfl (mm tk (.ref p0 0) rfl rfl (mc tk (.ref p0 0) rfl rfl (fun _ => rfl) (mc tk (.ref p0 0) rfl rfl (fun _ => rfl) (wpo_rd (a := (.ref p0B 0)) rfl rfl rfl (h_ld tk hH 0 rfl rfl rfl) (mm tk (eI v27) rfl rfl ?_))))))
       refine wpo_cb H89 (fun x _ => eErr x.1) rfl rfl rfl (fun v93 hv => h_call1 hH [(1, (p0B, (c_slab_Budget v93.2)))] ⟨⟨_, rfl⟩, trivial⟩ rfl rfl (.cons wr (.cons wr .nil)) (slab_Budget_Take_ok hv _ (hH.at_ 1 rfl))) fun v93 _ τ hv93 H92 hH => ?_
       refine wpo_nil (sr rfl (mm tk (.ref p0 0) rfl rfl (mc tk (.fptr (c_aEn x1) 0) rfl rfl (fun _ => rfl) (m_ (eS x1.Key) rfl (o_ld tk rfl rfl) ?_))))
       refine wpo_bdr H92 (fun r => .ref p0H (0 + (r : Int).toNat * 1 + 0)) rfl rfl rfl (fun v95 hv => h_callr rfl rfl (.cons wr (.cons wr .nil)) (ram_Ram_head_ok hv _ (hH.at_ 0 rfl) (hH.at_ 1 rfl) (hH.at_ 2 rfl) (hH.at_ 3 rfl) (hH.at_ 4 rfl) (hH.at_ 5 rfl) (hH.at_ 6 rfl) (hH.at_ 7 rfl) (hH.at_ 8 rfl) (hH.at_ 9 rfl) (hH.pw [0, 1, 2, 3, 4, 5, 6, 7, 8, 9] rfl (by decide)))) fun v95 hv95 H94 => ?_
       refine ma tk (.ref p0H (0 + (v95 : Int).toNat * 1 + 0)) rfl rfl (wpo_nil (awp_seq ?_))
       refine awp_drawS mixed [18, 20, 22] rfl (by decide +kernel) rfl rfl ?_
       refine wpdS_mv (a := (.ref p0 0)) rfl rfl rfl (o_mv tk rfl (Wk.refl _)) (wpdS_mv (a := (.ref p0 0)) rfl rfl rfl (o_c tk false rfl (fun _ => rfl)) (wpdS_mv (a := (.ref p0 4)) rfl rfl rfl (o_c tk false rfl (fun _ => rfl)) (wpdS_rd (a := (.vec p0G 5 (s59.2.2.2.2.2.2.2.2.2.2).length)) rfl (by decide +kernel) rfl rfl (h_ld tk hH 0 rfl rfl rfl) (wpdS_mv (a := (eI v86.1)) rfl rfl rfl (o_mv tk rfl (Wk.refl _)) (wpdS_mv (a := (.ref p0 0)) rfl rfl rfl (o_mv tk rfl (Wk.refl _)) (wpdS_mv (a := (.ref p0 0)) rfl rfl rfl (o_c tk false rfl (fun _ => rfl)) (wpdS_mv (a := (.ref p0 3)) rfl rfl rfl (o_c tk false rfl (fun _ => rfl)) (wpdS_rd (a := (.vec p0X 1 (s59.2.2.2.2.2.2.2.2.2.1).length)) rfl (by decide +kernel) rfl rfl (h_ld tk hH 0 rfl rfl rfl) ?_))))))))
       refine wpdS_mv (a := (eI v86.1)) rfl rfl rfl (o_mv tk rfl (Wk.refl _)) (wpdS_mv (a := (.ref p0H (0 + (v95 : Int).toNat * 1 + 0))) rfl rfl rfl (o_mv tk rfl (Wk.refl _)) (wpdS_mv (a := (e_aEn x1)) rfl rfl rfl (o_ld tk rfl rfl) ?_))
       refine wpdS_bd H94 e_aEn rfl rfl rfl (fun v97 hv => OpP.of_call rfl rfl (.cons wr .nil) (item_Copy_ok hv)) fun v97 hv97 H96 => ?_
       refine wpdS_mv (a := (.ref p0H (0 + (v95 : Int).toNat * 1 + 0))) rfl rfl rfl (o_mv tk rfl (Wk.refl _)) (wpdS_mv (a := (.ref p0H (0 + (v95 : Int).toNat * 1 + 0))) rfl rfl rfl (o_c tk false rfl (fun _ => rfl)) ?_)
       refine wpdS_bdr H96 (fun y => eI y) rfl (by decide +kernel) rfl rfl (fun v99 hv => h_ldx tk hH 7 hv rfl (enc_i64 td3 sz3) (acut_enc (enc_i64 td3 sz3) rfl _) (by decide) rfl) fun v99 hv99 H98 => ?_
       refine wpdS_mv (a := (eI v86.1)) rfl rfl rfl (o_mv tk rfl (Wk.refl _)) ?_
       refine wpdS_bd H98 (fun _ => .ref p0G (0 + (v86.1 : Int).toNat * 5 + 0)) rfl rfl rfl (fun v101 hv => o_vecx tk hv td31 sz39 (by decide) rfl rfl) fun v101 hv101 H100 => ?_
       obtain ⟨c103, hc104, H102⟩ := ob H100
       refine wpdS_z rfl rfl rfl (h_stx tk hH 9 hc104 rfl enc39 ty39 (by simp) rfl rfl wr (b := (e_aEn v97)) (enc39.flat _) rfl (by decide) (fun _ => (repl_all (enc39.len _) (enc39.len _)))) fun τ hH => ?_
       refine wpdS_bd H102 (fun _ => .ref p0X (0 + (v86.1 : Int).toNat * 1 + 0)) rfl rfl rfl (fun v106 hv => o_vecx tk hv td70 sz3 (by decide) rfl rfl) fun v106 hv106 H105 => ?_
       obtain ⟨c108, hc109, H107⟩ := ob H105
       refine wpdS_z rfl rfl rfl (h_stx tk hH 8 hc109 rfl (enc_i64 td3 sz3) ty3 (by simp) rfl rfl wr (b := (eI v99)) rfl rfl (by decide) (fun _ => rfl)) fun τ hH => ?_
       refine wpdS_mv (a := (.ref p0H (0 + (v95 : Int).toNat * 1 + 0))) rfl rfl rfl (o_c tk false rfl (fun _ => rfl)) ?_
       obtain ⟨c111, hc112, H110⟩ := ob H107
       refine wpdS_z rfl rfl rfl (h_stx tk hH 7 hc112 rfl (enc_i64 td3 sz3) ty3 (by simp) rfl rfl wr (b := (eI v86.1)) rfl rfl (by decide) (fun _ => rfl)) fun τ hH => ?_
       refine wpdS_nil (sr rfl (mm tk (.ref p0 0) rfl rfl (mc tk (.ref p0 0) rfl rfl (fun _ => rfl) (mc tk (.ref p0 5) rfl rfl (fun _ => rfl) (wpo_rd (a := (eI s59.2.1.count)) rfl rfl rfl (h_ld tk hH 0 rfl rfl rfl) ?_)))))
       refine l_ H110 eI rfl (o_ar tk rfl rfl rfl) fun v114 H113 => ?_
       refine mc tk (.ref p0 0) rfl rfl (fun _ => rfl) (mc tk (.ref p0 5) rfl rfl (fun _ => rfl) ?_)
       refine wpo_z rfl rfl (h_st tk hH 0 rfl ty3 (by simp) rfl rfl wr (b := (eI v114)) rfl rfl (nb rfl) [(.ref p0B 0), (.ref p0I 0), (.vec p0H 1 (s59.2.2.2.2.2.2.2.2.1).length), (.vec p0X 1 (s59.2.2.2.2.2.2.2.2.2.1).length), (.vec p0G 5 (s59.2.2.2.2.2.2.2.2.2.2).length), (eI ({ s59.2.1 with count := v114 } : ram_Ram).count)] rfl) fun τ hH => ?_
       refine wpo_nil (sr rfl (mm tk (eT tk_12 5 e_aEn s59.1) rfl rfl (ma tk (eT tk_12 5 e_aEn s59.1) rfl rfl (ma tk (eErr Err.nil) rfl rfl (wpo_nil (awp_ret ?_))))))
       have hH : Holds σ [(p0, [(.ref p0B 0), (.ref p0I 0), (.vec p0H 1 (c111).length), (.vec p0X 1 (c108).length), (.vec p0G 5 (c103).length), (eI ({ s59.2.1 with count := v114 } : ram_Ram).count)]), (p0B, (c_slab_Budget v93.2)), (p0I, [(.vec p0N 4 (v86.2.2.nodes).length), (.vec p0F 1 (v86.2.2.first_).length), (.vec p0L 1 (v86.2.2.last_).length), (.vec p0C 1 (v86.2.2.count).length), (eI v86.2.2.free), (eI v86.2.2.clock)]), (p0N, (cL e_lists_link v86.2.2.nodes)), (p0F, (cL eI v86.2.2.first_)), (p0L, (cL eI v86.2.2.last_)), (p0C, (cL eI v86.2.2.count)), (p0H, (cL eI c111)), (p0X, (cL eI c108)), (p0G, (cL e_aEn c103))] [tk_12] _ := (Holds.cells hH 0 [(.ref p0B 0), (.ref p0I 0), (.vec p0H 1 (c111).length), (.vec p0X 1 (c108).length), (.vec p0G 5 (c103).length), (eI ({ s59.2.1 with count := v114 } : ram_Ram).count)] rfl (by first | rfl | simp only [updA_len hc112, updA_len hc109, updA_len hc104]))
       obtain rfl := oi H113
       exact ⟨_, (.tup [((eL 5 e_aEn) s59.1), (eErr Err.nil)]), rfl, (wk_tup (.cons wk_no (.cons wr .nil))), .of_eq (by simp only [cutAV, cutL, (enc_l td31 sz31 enc39.cut).cut _ _ _, encErr.cut _ _ _]), hH.noT⟩
     ·refine awp_loopO (body := fun s => ram_Ram_Set_b0 x1 x2 v27 s.1 s.2.1 s.2.2.1 s.2.2.2.1 s.2.2.2.2.1 s.2.2.2.2.2.1 s.2.2.2.2.2.2.1 s.2.2.2.2.2.2.2.1 s.2.2.2.2.2.2.2.2.1 s.2.2.2.2.2.2.2.2.2.1 s.2.2.2.2.2.2.2.2.2.2) hs53 (fun (s : (List aEn) × ram_Ram × slab_Budget × lists_Lists × (List lists_link) × (List Int) × (List Int) × (List Int) × (List Int) × (List Int) × (List aEn)) fr τ => ∃ tk_12, WkF fr (fm [(0, (.ref p0 0)), (2, (eI x2)), (4, (.fptr (c_aEn x1) 0)), (10, (eI v27)), (12, (eT tk_12 5 e_aEn s.1))]) ∧ Holds σ [(p0, [(.ref p0B 0), (.ref p0I 0), (.vec p0H 1 (s.2.2.2.2.2.2.2.2.1).length), (.vec p0X 1 (s.2.2.2.2.2.2.2.2.2.1).length), (.vec p0G 5 (s.2.2.2.2.2.2.2.2.2.2).length), (eI s.2.1.count)]), (p0B, (c_slab_Budget s.2.2.1)), (p0I, [(.vec p0N 4 (s.2.2.2.2.1).length), (.vec p0F 1 (s.2.2.2.2.2.1).length), (.vec p0L 1 (s.2.2.2.2.2.2.1).length), (.vec p0C 1 (s.2.2.2.2.2.2.2.1).length), (eI s.2.2.2.1.free), (eI s.2.2.2.1.clock)]), (p0N, (cL e_lists_link s.2.2.2.2.1)), (p0F, (cL eI s.2.2.2.2.2.1)), (p0L, (cL eI s.2.2.2.2.2.2.1)), (p0C, (cL eI s.2.2.2.2.2.2.2.1)), (p0H, (cL eI s.2.2.2.2.2.2.2.2.1)), (p0X, (cL eI s.2.2.2.2.2.2.2.2.2.1)), (p0G, (cL e_aEn s.2.2.2.2.2.2.2.2.2.2))] [tk_12] τ) ⟨tk51, (wc (wc (wc (wc (wc (wkf_nil _)))))), hH⟩ ?_
      rintro ⟨c40, c41, c42, c43, c44, c45, c46, c47, c48, c49, c50⟩ fr τ y55 ⟨tk_12, hfr, hH⟩ hb57 hy58
      have H60 : ram_Ram_Set_b0 x1 x2 v27 c40 c41 c42 c43 c44 c45 c46 c47 c48 c49 c50 = some y55 := hb57
      unfold ram_Ram_Set_b0 at H60
      refine AWP.fm [(0, (.ref p0 0)), (2, (eI x2)), (4, (.fptr (c_aEn x1) 0)), (10, (eI v27)), (12, (eT tk_12 5 e_aEn c40))] hfr ?_
      have hH : Holds σ [(p0, [(.ref p0B 0), (.ref p0I 0), (.vec p0H 1 (c48).length), (.vec p0X 1 (c49).length), (.vec p0G 5 (c50).length), (eI c41.count)]), (p0B, (c_slab_Budget c42)), (p0I, [(.vec p0N 4 (c44).length), (.vec p0F 1 (c45).length), (.vec p0L 1 (c46).length), (.vec p0C 1 (c47).length), (eI c43.free), (eI c43.clock)]), (p0N, (cL e_lists_link c44)), (p0F, (cL eI c45)), (p0L, (cL eI c46)), (p0C, (cL eI c47)), (p0H, (cL eI c48)), (p0X, (cL eI c49)), (p0G, (cL e_aEn c50))] [tk_12] τ := hH
      refine awp_seq (awp_seq ?_)
      refine awp_drawS mixed [] rfl (by decide +kernel) rfl rfl ?_
      refine wpdS_mv (a := (eI v27)) rfl rfl rfl (o_mv tk rfl (Wk.refl _)) ?_
      refine wpdS_bd H60 eI rfl rfl rfl (fun v62 hv => OpP.of_call rfl rfl (.cons wr .nil) (slab_Size_ok hv)) fun v62 hv62 H61 => ?_
      refine wpdS_mv (a := (.ref p0 0)) rfl rfl rfl (o_mv tk rfl (Wk.refl _)) (wpdS_mv (a := (.ref p0 0)) rfl rfl rfl (o_c tk false rfl (fun _ => rfl)) (wpdS_mv (a := (.ref p0 0)) rfl rfl rfl (o_c tk false rfl (fun _ => rfl)) (wpdS_rd (a := (.ref p0B 0)) rfl (by decide +kernel) rfl rfl (h_ld tk hH 0 rfl rfl rfl) ?_)))
      refine wpdS_bdr H61 eI rfl (by decide +kernel) rfl rfl (fun v64 hv => h_callr rfl rfl (.cons wr .nil) (slab_Budget_Left_ok hv _ (hH.at_ 1 rfl))) fun v64 hv64 H63 => ?_
      refine wpdS_lt H63 eB rfl rfl rfl (o_ar tk rfl rfl rfl) fun v66 H65 => ?_
      refine wpdS_nil ?_
      refine awp_if H65 rfl (fun H67 => ?_) (fun H67 => ?_)
      ·refine awp_skip (awp_block (sr rfl (mm tk (.ref p0 0) rfl rfl (mm tk (.ref p0 0) rfl rfl (mc tk (.ref p0 0) rfl rfl (fun _ => rfl) (mc tk (.ref p0 1) rfl rfl (fun _ => rfl) (wpo_rd (a := (.ref p0I 0)) rfl rfl rfl (h_ld tk hH 0 rfl rfl rfl) ?_)))))))
       refine wpo_bdr H67 eI rfl rfl rfl (fun v69 hv => h_callr rfl rfl (.cons wr .nil) (lists_Lists_Oldest_ok hv _ (hH.at_ 2 rfl) (hH.at_ 3 rfl) (hH.at_ 4 rfl) (hH.at_ 5 rfl) (hH.at_ 6 rfl) (hH.pw [2, 3, 4, 5, 6] rfl (by decide)))) fun v69 hv69 H68 => ?_
       refine wpo_cb H68 (fun x _ => e_aEn x.1) rfl rfl rfl (fun v71 hv => h_call1 hH [(0, (p0, [(.ref p0B 0), (.ref p0I 0), (.vec p0H 1 (v71.2.heads).length), (.vec p0X 1 (v71.2.next_).length), (.vec p0G 5 (v71.2.things).length), (eI v71.2.count)])), (1, (p0B, (c_slab_Budget v71.2.budget))), (2, (p0I, [(.vec p0N 4 (v71.2.lists.nodes).length), (.vec p0F 1 (v71.2.lists.first_).length), (.vec p0L 1 (v71.2.lists.last_).length), (.vec p0C 1 (v71.2.lists.count).length), (eI v71.2.lists.free), (eI v71.2.lists.clock)])), (3, (p0N, (cL e_lists_link v71.2.lists.nodes))), (4, (p0F, (cL eI v71.2.lists.first_))), (5, (p0L, (cL eI v71.2.lists.last_))), (6, (p0C, (cL eI v71.2.lists.count))), (7, (p0H, (cL eI v71.2.heads))), (8, (p0X, (cL eI v71.2.next_))), (9, (p0G, (cL e_aEn v71.2.things)))] ⟨⟨_, rfl⟩, ⟨⟨_, rfl⟩, ⟨⟨_, rfl⟩, ⟨⟨_, rfl⟩, ⟨⟨_, rfl⟩, ⟨⟨_, rfl⟩, ⟨⟨_, rfl⟩, ⟨⟨_, rfl⟩, ⟨⟨_, rfl⟩, ⟨⟨_, rfl⟩, trivial⟩⟩⟩⟩⟩⟩⟩⟩⟩⟩ rfl rfl (.cons wr (.cons wr .nil)) (ram_Ram_remove_ok hv _ (hH.at_ 0 rfl) (hH.at_ 1 rfl) (hH.at_ 2 rfl) (hH.at_ 3 rfl) (hH.at_ 4 rfl) (hH.at_ 5 rfl) (hH.at_ 6 rfl) (hH.at_ 7 rfl) (hH.at_ 8 rfl) (hH.at_ 9 rfl) (hH.pw [0, 1, 2, 3, 4, 5, 6, 7, 8, 9] rfl (by decide)))) fun v71 _ τ hv71 H70 (hH : Holds σ [(p0, [(.ref p0B 0), (.ref p0I 0), (.vec p0H 1 (v71.2.heads).length), (.vec p0X 1 (v71.2.next_).length), (.vec p0G 5 (v71.2.things).length), (eI v71.2.count)]), (p0B, (c_slab_Budget v71.2.budget)), (p0I, [(.vec p0N 4 (v71.2.lists.nodes).length), (.vec p0F 1 (v71.2.lists.first_).length), (.vec p0L 1 (v71.2.lists.last_).length), (.vec p0C 1 (v71.2.lists.count).length), (eI v71.2.lists.free), (eI v71.2.lists.clock)]), (p0N, (cL e_lists_link v71.2.lists.nodes)), (p0F, (cL eI v71.2.lists.first_)), (p0L, (cL eI v71.2.lists.last_)), (p0C, (cL eI v71.2.lists.count)), (p0H, (cL eI v71.2.heads)), (p0X, (cL eI v71.2.next_)), (p0G, (cL e_aEn v71.2.things))] [tk_12] τ) => ?_
       refine wpo_a (av := fun id => .ref id 0) rfl rfl rfl (h_alloc tk hH ty39 [(eS z_aEn.Key), (eI z_aEn.Version), (eI z_aEn.AsOf), (eI z_aEn.Ends), AV.nils] rfl) fun id72 τ ⟨hH, n73⟩ => ?_
       refine wpo_z rfl rfl (h_st tk hH 0 rfl ty39 (by simp) rfl rfl wr (b := (e_aEn v71.1)) (enc39.flat _) rfl (nb rfl) (c_aEn (v71.1 : aEn)) rfl) fun τ hH => ?_
       refine wpo_nil (sr rfl (wpo_rd (a := (e_aEn (v71.1 : aEn))) rfl rfl rfl (h_ld tk hH 0 rfl rfl rfl) (mm tk (eI x2) rfl rfl ?_)))
       refine b_ H70 eB rfl (fun v76 hv => OpP.of_call rfl rfl (.cons wr (.cons wr .nil)) (item_Live_ok hv)) fun v76 hv76 H75 => ?_
       refine wpo_nil ?_
       refine awp_if H75 rfl (fun H77 => ?_) (fun H77 => ?_)
       ·refine awp_region rfl (mm tk (eT tk_12 5 e_aEn c40) rfl rfl (wpo_rd (a := (e_aEn (v71.1 : aEn))) rfl rfl rfl (h_ld tk hH 0 rfl rfl rfl) ?_))
        refine l_ H77 (eF 5 e_aEn) rfl (o_c tk false rfl (fun _ => rfl)) fun v79 H78 => ?_
        obtain ⟨v81, hv82, H80⟩ := ob H78
        refine wpo_a (av := fun t => eT t 5 e_aEn v81) rfl rfl rfl (h_app tk hH 0 hv82 rfl td31 ty39 rfl (by decide) rfl (src_l td31 rfl)) fun tk83 τ hH => ?_
        refine ma tk (eT tk83 5 e_aEn v81) rfl rfl (wpo_nil ?_)
        exact ⟨(v81, v71.2, v71.2.budget, v71.2.lists, v71.2.lists.nodes, v71.2.lists.first_, v71.2.lists.last_, v71.2.lists.count, v71.2.heads, v71.2.next_, v71.2.things), inj_inl H80, tk83, (wc (wc (wc (wc (wc (wkf_nil _)))))), (hH.drop n73)⟩
       ·refine awp_skip ?_
        exact ⟨(c40, v71.2, v71.2.budget, v71.2.lists, v71.2.lists.nodes, v71.2.lists.first_, v71.2.lists.last_, v71.2.lists.count, v71.2.heads, v71.2.next_, v71.2.things), inj_inl H77, tk_12, (wc (wc (wc (wc (wc (wkf_nil _)))))), (hH.drop n73)⟩
      ·refine awp_exit ?_
       have hz := hy58 _ (inj_inr H67)
       subst hz
       exact ⟨⟨_, inj_inr H67⟩, tk_12, (wc (wc (wc (wc (wkf_nil _))))), hH⟩
    ·refine awp_if hs34 rfl (fun H36 => ?_) (fun H36 => ?_)
     ·refine awp_region rfl (mm tk (.ref p0 0) rfl rfl (mm tk (eI v29) rfl rfl ?_))
      refine wpo_cb H36 (fun x _ => e_aEn x.1) rfl rfl rfl (fun v38 hv => h_call1 hH [(0, (p0, [(.ref p0B 0), (.ref p0I 0), (.vec p0H 1 (v38.2.heads).length), (.vec p0X 1 (v38.2.next_).length), (.vec p0G 5 (v38.2.things).length), (eI v38.2.count)])), (1, (p0B, (c_slab_Budget v38.2.budget))), (2, (p0I, [(.vec p0N 4 (v38.2.lists.nodes).length), (.vec p0F 1 (v38.2.lists.first_).length), (.vec p0L 1 (v38.2.lists.last_).length), (.vec p0C 1 (v38.2.lists.count).length), (eI v38.2.lists.free), (eI v38.2.lists.clock)])), (3, (p0N, (cL e_lists_link v38.2.lists.nodes))), (4, (p0F, (cL eI v38.2.lists.first_))), (5, (p0L, (cL eI v38.2.lists.last_))), (6, (p0C, (cL eI v38.2.lists.count))), (7, (p0H, (cL eI v38.2.heads))), (8, (p0X, (cL eI v38.2.next_))), (9, (p0G, (cL e_aEn v38.2.things)))] ⟨⟨_, rfl⟩, ⟨⟨_, rfl⟩, ⟨⟨_, rfl⟩, ⟨⟨_, rfl⟩, ⟨⟨_, rfl⟩, ⟨⟨_, rfl⟩, ⟨⟨_, rfl⟩, ⟨⟨_, rfl⟩, ⟨⟨_, rfl⟩, ⟨⟨_, rfl⟩, trivial⟩⟩⟩⟩⟩⟩⟩⟩⟩⟩ rfl rfl (.cons wr (.cons wr .nil)) (ram_Ram_remove_ok hv _ (hH.at_ 0 rfl) (hH.at_ 1 rfl) (hH.at_ 2 rfl) (hH.at_ 3 rfl) (hH.at_ 4 rfl) (hH.at_ 5 rfl) (hH.at_ 6 rfl) (hH.at_ 7 rfl) (hH.at_ 8 rfl) (hH.at_ 9 rfl) (hH.pw [0, 1, 2, 3, 4, 5, 6, 7, 8, 9] rfl (by decide)))) fun v38 _ τ hv38 H37 (hH : Holds σ [(p0, [(.ref p0B 0), (.ref p0I 0), (.vec p0H 1 (v38.2.heads).length), (.vec p0X 1 (v38.2.next_).length), (.vec p0G 5 (v38.2.things).length), (eI v38.2.count)]), (p0B, (c_slab_Budget v38.2.budget)), (p0I, [(.vec p0N 4 (v38.2.lists.nodes).length), (.vec p0F 1 (v38.2.lists.first_).length), (.vec p0L 1 (v38.2.lists.last_).length), (.vec p0C 1 (v38.2.lists.count).length), (eI v38.2.lists.free), (eI v38.2.lists.clock)]), (p0N, (cL e_lists_link v38.2.lists.nodes)), (p0F, (cL eI v38.2.lists.first_)), (p0L, (cL eI v38.2.lists.last_)), (p0C, (cL eI v38.2.lists.count)), (p0H, (cL eI v38.2.heads)), (p0X, (cL eI v38.2.next_)), (p0G, (cL e_aEn v38.2.things))] [] τ) => ?_
      refine wpo_nil ?_
      have e := oi H37
      subst e
      exact ⟨(wc (wc (wc (wc (wkf_nil _))))), hH⟩
     ·refine awp_skip ?_
      have e := oi H36
      subst e
      exact ⟨(wc (wc (wc (wc (wkf_nil _))))), hH⟩
theorem ram_Ram_Peek_ok {x0 : ram_Ram} {x1 : List (BitVec 8)} {r : aEn × Bool} (H : ram_Ram_Peek x0 x1 = some r) (σ : St) {p0 p0B p0I p0N p0F p0L p0C p0H p0X p0G : Nat} (h0 : σ.objs[p0]? = some [(.ref p0B 0), (.ref p0I 0), (.vec p0H 1 (x0.heads).length), (.vec p0X 1 (x0.next_).length), (.vec p0G 5 (x0.things).length), (eI x0.count)]) (h0_budget : σ.objs[p0B]? = some (c_slab_Budget x0.budget)) (h0_lists : σ.objs[p0I]? = some [(.vec p0N 4 (x0.lists.nodes).length), (.vec p0F 1 (x0.lists.first_).length), (.vec p0L 1 (x0.lists.last_).length), (.vec p0C 1 (x0.lists.count).length), (eI x0.lists.free), (eI x0.lists.clock)]) (h0_lists_nodes : σ.objs[p0N]? = some (cL e_lists_link x0.lists.nodes)) (h0_lists_first_ : σ.objs[p0F]? = some (cL eI x0.lists.first_)) (h0_lists_last_ : σ.objs[p0L]? = some (cL eI x0.lists.last_)) (h0_lists_count : σ.objs[p0C]? = some (cL eI x0.lists.count)) (h0_heads : σ.objs[p0H]? = some (cL eI x0.heads)) (h0_next_ : σ.objs[p0X]? = some (cL eI x0.next_)) (h0_things : σ.objs[p0G]? = some (cL e_aEn x0.things)) (hd : [p0, p0B, p0I, p0N, p0F, p0L, p0C, p0H, p0X, p0G].Pairwise fun a b => a ≠ b) : ACall Tryd.prog 11 [(.ref p0 0), (eS x1)] σ (fun a τ => a = .tup [e_aEn r.1, eB r.2] ∧ τ = σ) := by
 unfold ram_Ram_Peek at H
 refine ACall.pure (acall_start tk Tryd.func11 (by decide) rfl (nb rfl) ?_)
 have hH := Holds.brings (σ := σ) [(p0, [(.ref p0B 0), (.ref p0I 0), (.vec p0H 1 (x0.heads).length), (.vec p0X 1 (x0.next_).length), (.vec p0G 5 (x0.things).length), (eI x0.count)]), (p0B, (c_slab_Budget x0.budget)), (p0I, [(.vec p0N 4 (x0.lists.nodes).length), (.vec p0F 1 (x0.lists.first_).length), (.vec p0L 1 (x0.lists.last_).length), (.vec p0C 1 (x0.lists.count).length), (eI x0.lists.free), (eI x0.lists.clock)]), (p0N, (cL e_lists_link x0.lists.nodes)), (p0F, (cL eI x0.lists.first_)), (p0L, (cL eI x0.lists.last_)), (p0C, (cL eI x0.lists.count)), (p0H, (cL eI x0.heads)), (p0X, (cL eI x0.next_)), (p0G, (cL e_aEn x0.things))] (by simp only [List.mem_cons, List.not_mem_nil, or_false]; rintro _ (rfl | rfl | rfl | rfl | rfl | rfl | rfl | rfl | rfl | rfl) <;> assumption) hd
 refine sr rfl ?_
 refine wpo_a (av := fun id => .ref id 0) rfl rfl rfl (h_alloc tk hH ty39 [(eS z_aEn.Key), (eI z_aEn.Version), (eI z_aEn.AsOf), (eI z_aEn.Ends), AV.nils] rfl) fun id1 τ ⟨hH, n2⟩ => ?_
 refine ma tk (eB false) rfl rfl (wpo_nil (sr rfl (mm tk (.ref p0 0) rfl rfl (mm tk (eS x1) rfl rfl ?_))))
 refine wpo_bdr H eI rfl rfl rfl (fun v4 hv => h_callr rfl rfl (.cons wr (.cons wr .nil)) (ram_Ram_find_ok hv _ (hH.at_ 1 rfl) (hH.at_ 2 rfl) (hH.at_ 3 rfl) (hH.at_ 4 rfl) (hH.at_ 5 rfl) (hH.at_ 6 rfl) (hH.at_ 7 rfl) (hH.at_ 8 rfl) (hH.at_ 9 rfl) (hH.at_ 10 rfl) (hH.pw [1, 2, 3, 4, 5, 6, 7, 8, 9, 10] rfl (by decide)))) fun v4 hv4 H3 => ?_
 refine ma tk (eI v4) rfl rfl (wpo_nil (awp_seq (sr rfl (mm tk (eI v4) rfl rfl ?_))))
 refine l_ H3 eB rfl (o_ar tk rfl rfl rfl) fun v6 H5 => ?_
 refine wpo_nil ?_
 refine awp_if H5 rfl (fun H7 => ?_) (fun H7 => ?_)
 ·refine sr rfl (mc tk (.agg [(eS (⟨[], 0, 0, 0, []⟩ : aEn).Key), (eI (⟨[], 0, 0, 0, []⟩ : aEn).Version), (eI (⟨[], 0, 0, 0, []⟩ : aEn).AsOf), (eI (⟨[], 0, 0, 0, []⟩ : aEn).Ends), AV.nils]) rfl rfl (fun _ => rfl) ?_)
  refine wpo_z rfl rfl (h_st (y := (.agg [(eS (⟨[], 0, 0, 0, []⟩ : aEn).Key), (eI (⟨[], 0, 0, 0, []⟩ : aEn).Version), (eI (⟨[], 0, 0, 0, []⟩ : aEn).AsOf), (eI (⟨[], 0, 0, 0, []⟩ : aEn).Ends), AV.nils])) tk hH 0 rfl ty39 (by simp) rfl rfl wr (b := (.agg [(eS (⟨[], 0, 0, 0, []⟩ : aEn).Key), (eI (⟨[], 0, 0, 0, []⟩ : aEn).Version), (eI (⟨[], 0, 0, 0, []⟩ : aEn).AsOf), (eI (⟨[], 0, 0, 0, []⟩ : aEn).Ends), AV.nils])) rfl rfl (nb rfl) [(eS ((⟨[], 0, 0, 0, []⟩ : aEn) : aEn).Key), (eI ((⟨[], 0, 0, 0, []⟩ : aEn) : aEn).Version), (eI ((⟨[], 0, 0, 0, []⟩ : aEn) : aEn).AsOf), (eI ((⟨[], 0, 0, 0, []⟩ : aEn) : aEn).Ends), AV.nils] rfl) fun τ hH => ?_
  refine ma tk (eB false) rfl rfl (wpo_nil (awp_ret ?_))
  obtain rfl := oi H7
  exact ⟨_, (.tup [(e_aEn ((⟨[], 0, 0, 0, []⟩ : aEn) : aEn)), (eB false)]), (ares_2 (ares_cell hH 0 rfl rfl rfl) rfl), (wk_tup (.cons (wk_agg (.cons wr (.cons wr (.cons wr (.cons wr (.cons (wk_nils _) .nil)))))) (.cons wr .nil))), .of_eq (by simp only [cutAV, cutL, enc39.cut _ _ _, (enc_b td4 sz4).cut _ _ _]), (((((((((((hH.noT.drop n2).unbring h0).unbring h0_budget).unbring h0_lists).unbring h0_lists_nodes).unbring h0_lists_first_).unbring h0_lists_last_).unbring h0_lists_count).unbring h0_heads).unbring h0_next_).unbring h0_things)⟩
 ·refine awp_skip (sr rfl (mm tk (.ref p0 0) rfl rfl (mc tk (.ref p0 0) rfl rfl (fun _ => rfl) (mc tk (.ref p0 4) rfl rfl (fun _ => rfl) (wpo_rd (a := (.vec p0G 5 (x0.things).length)) rfl rfl rfl (h_ld tk hH 1 rfl rfl rfl) (mm tk (eI v4) rfl rfl ?_))))))
  refine b_ H7 (fun _ => .ref p0G (0 + (v4 : Int).toNat * 5 + 0)) rfl (fun v10 hv => o_vecx tk hv td31 sz39 (by decide) rfl rfl) fun v10 hv10 H9 => ?_
  refine wpo_bdr H9 (fun y => e_aEn y) rfl rfl rfl (fun v12 hv => h_ldx tk hH 10 hv rfl enc39 (acut_enc enc39 rfl _) (by decide) rfl) fun v12 hv12 H11 => ?_
  refine b_ H11 e_aEn rfl (fun v14 hv => OpP.of_call rfl rfl (.cons wr .nil) (item_Copy_ok hv)) fun v14 hv14 H13 => ?_
  refine wpo_z rfl rfl (h_st tk hH 0 rfl ty39 (by simp) rfl rfl wr (b := (e_aEn v14)) (enc39.flat _) rfl (nb rfl) (c_aEn (v14 : aEn)) rfl) fun τ hH => ?_
  refine ma tk (eB true) rfl rfl (wpo_nil (awp_ret ?_))
  obtain rfl := oi H13
  exact ⟨_, (.tup [(e_aEn (v14 : aEn)), (eB true)]), (ares_2 (ares_cell hH 0 rfl rfl rfl) rfl), (wk_tup (.cons wr (.cons wr .nil))), .of_eq (by simp only [cutAV, cutL, enc39.cut _ _ _, (enc_b td4 sz4).cut _ _ _]), (((((((((((hH.noT.drop n2).unbring h0).unbring h0_budget).unbring h0_lists).unbring h0_lists_nodes).unbring h0_lists_first_).unbring h0_lists_last_).unbring h0_lists_count).unbring h0_heads).unbring h0_next_).unbring h0_things)⟩
theorem R02_Same_ok {x0 : List (BitVec 8)} {x1 : List (BitVec 8)} {r : Bool} (H : R02_Same x0 x1 = some r) (σ : St)  : ACall Tryd.prog 44 [((eL 1 (@eU .u8 8)) x0), ((eL 1 (@eU .u8 8)) x1)] σ (fun a τ => a = eB r ∧ τ = σ) := by
 unfold R02_Same at H
 refine ACall.pure (acall_start tk Tryd.func44 (by decide) rfl (nb rfl) ?_)
 have hH := Holds.init σ
 refine sr rfl (ma tk (eB false) rfl rfl (wpo_nil (awp_seq (sr rfl (mm tk ((eL 1 (@eU .u8 8)) x0) rfl rfl ?_)))))
 refine l_ H eI rfl (o_len tk td37 rfl) fun v2 H1 => ?_
 refine mm tk ((eL 1 (@eU .u8 8)) x1) rfl rfl ?_
 refine l_ H1 eI rfl (o_len tk td37 rfl) fun v4 H3 => ?_
 refine l_ H3 eB rfl (o_ar tk rfl rfl rfl) fun v6 H5 => ?_
 refine wpo_nil ?_
 refine awp_if H5 rfl (fun H7 => ?_) (fun H7 => ?_)
 ·refine sr rfl (ma tk (eB false) rfl rfl (wpo_nil (awp_ret ?_)))
  obtain rfl := oi H7
  exact ⟨_, (eB false), rfl, wr, .of_eq ((enc_b td4 sz4).cut _ _ _), hH.noT⟩
 ·refine awp_skip (awp_seq (sr rfl (ma tk (eI (0 : Int)) rfl rfl (wpo_nil (awp_block ?_)))))
  obtain ⟨o9, hs10, hj11⟩ := ob H7
  refine awp_cutx 0 (fun fr τ => ∃ s16 : Unit, o9 = .inl s16 ∧ WkF fr (fm []) ∧ Holds σ [] [] τ) ?_ ?_
  ·rintro fr τ ⟨s16, rfl, hfr, hH⟩
   have H33 := hj11
   simp only [Sum.elim_inl] at H33
   refine AWP.fm [] hfr ?_
   refine sr rfl (ma tk (eB true) rfl rfl (wpo_nil (awp_ret ?_)))
   obtain rfl := oi H33
   exact ⟨_, (eB true), rfl, wr, .of_eq ((enc_b td4 sz4).cut _ _ _), hH.noT⟩
  ·refine awp_loopO (body := fun s => R02_Same_b0 x0 x1 s) hs10 (fun (s : Int) fr τ => WkF fr (fm [(0, ((eL 1 (@eU .u8 8)) x0)), (1, ((eL 1 (@eU .u8 8)) x1)), (5, (eI s))]) ∧ Holds σ [] [] τ) ⟨(wc (wc (wc (wkf_nil _)))), hH⟩ ?_
   rintro c8 fr τ y12 ⟨hfr, hH⟩ hb14 hy15
   have H17 : R02_Same_b0 x0 x1 c8 = some y12 := hb14
   unfold R02_Same_b0 at H17
   refine AWP.fm [(0, ((eL 1 (@eU .u8 8)) x0)), (1, ((eL 1 (@eU .u8 8)) x1)), (5, (eI c8))] hfr ?_
   have hH : Holds σ [] [] τ := hH
   refine awp_seq (sr rfl (mm tk (eI c8) rfl rfl (mm tk ((eL 1 (@eU .u8 8)) x0) rfl rfl ?_)))
   refine l_ H17 eI rfl (o_len tk td37 rfl) fun v19 H18 => ?_
   refine l_ H18 eB rfl (o_ar tk rfl rfl rfl) fun v21 H20 => ?_
   refine wpo_nil ?_
   refine awp_if H20 rfl (fun H22 => ?_) (fun H22 => ?_)
   ·refine awp_skip (awp_seq (awp_block (awp_seq ?_)))
    refine awp_drawS mixed [] rfl (by decide +kernel) rfl rfl ?_
    refine wpdS_mv (a := ((eL 1 (@eU .u8 8)) x0)) rfl rfl rfl (o_mv tk rfl (Wk.refl _)) (wpdS_mv (a := (eI c8)) rfl rfl rfl (o_mv tk rfl (Wk.refl _)) ?_)
    refine wpdS_bd H22 (fun y => .fptr ((@eU .u8 8) y).cells 0) rfl rfl rfl (fun v24 hv => o_ixa tk hv td37 (enc_u td5 sz5) rfl rfl) fun v24 hv24 H23 => ?_
    refine wpdS_mv (a := ((@eU .u8 8) v24)) rfl rfl rfl (o_ld_e tk (enc_u td5 sz5) rfl rfl) (wpdS_mv (a := ((eL 1 (@eU .u8 8)) x1)) rfl rfl rfl (o_mv tk rfl (Wk.refl _)) (wpdS_mv (a := (eI c8)) rfl rfl rfl (o_mv tk rfl (Wk.refl _)) ?_))
    refine wpdS_bd H23 (fun y => .fptr ((@eU .u8 8) y).cells 0) rfl rfl rfl (fun v26 hv => o_ixa tk hv td37 (enc_u td5 sz5) rfl rfl) fun v26 hv26 H25 => ?_
    refine wpdS_mv (a := ((@eU .u8 8) v26)) rfl rfl rfl (o_ld_e tk (enc_u td5 sz5) rfl rfl) ?_
    refine wpdS_lt H25 eB rfl rfl rfl (o_neq_u tk rfl rfl) fun v28 H27 => ?_
    refine wpdS_nil ?_
    refine awp_if H27 rfl (fun H29 => ?_) (fun H29 => ?_)
    ·refine sr rfl (ma tk (eB false) rfl rfl (wpo_nil (awp_ret ?_)))
     have hz := hy15 _ (inj_inr H29)
     refine ⟨⟨_, inj_inr H29⟩, ?_⟩
     rw [← hz] at hj11
     have H30 := (show some _ = some _ from hj11)
     obtain rfl := oi H30
     exact ⟨_, (eB false), rfl, wr, .of_eq ((enc_b td4 sz4).cut _ _ _), hH.noT⟩
    ·refine awp_skip (awp_region rfl (mm tk (eI c8) rfl rfl ?_))
     refine l_ H29 eI rfl (o_ar tk rfl rfl rfl) fun v32 H31 => ?_
     refine ma tk (eI v32) rfl rfl (wpo_nil ?_)
     exact ⟨v32, inj_inl H31, (wc (wc (wc (wkf_nil _)))), hH⟩
   ·refine awp_exit ?_
    have hz := hy15 _ (inj_inr H22)
    exact ⟨⟨_, inj_inr H22⟩, (), hz.symm, (wkf_nil _), hH⟩
theorem R06_Same_ok {x0 : aEn} {x1 : aEn} {r : Bool} (H : R06_Same x0 x1 = some r) (σ : St)  : ACall Tryd.prog 12 [(e_aEn x0), (e_aEn x1)] σ (fun a τ => a = eB r ∧ τ = σ) := by
 unfold R06_Same at H
 refine ACall.pure (acall_start tk Tryd.func12 (by decide) rfl (nb rfl) ?_)
 have hH := Holds.init σ
 refine sr rfl (m_ (.fptr (c_aEn x0) 0) rfl (o_boxf tk rfl wr (b := (e_aEn x0)) (enc39.flat _)) (m_ (.fptr (c_aEn x1) 0) rfl (o_boxf tk rfl wr (b := (e_aEn x1)) (enc39.flat _)) (ma tk (eB false) rfl rfl (wpo_nil (sr rfl (mc tk (.fptr (c_aEn x0) 0) rfl rfl (fun _ => rfl) (m_ (eS x0.Key) rfl (o_ld tk rfl rfl) (mc tk (.fptr (c_aEn x1) 0) rfl rfl (fun _ => rfl) ?_))))))))
 refine m_ (eS x1.Key) rfl (o_ld tk rfl rfl) ?_
 refine l_ H eB rfl (o_eql_s tk rfl rfl) fun v2 H1 => ?_
 refine mm tk (eB v2) rfl rfl ?_
 refine if_split H1 (fun hb H3 => ?_) (fun hb H3 => ?_)
 ·subst hb
  refine mc tk (.fptr (c_aEn x0) 1) rfl rfl (fun _ => rfl) (m_ (eI x0.Version) rfl (o_ld tk rfl rfl) (mc tk (.fptr (c_aEn x1) 1) rfl rfl (fun _ => rfl) (m_ (eI x1.Version) rfl (o_ld tk rfl rfl) ?_)))
  refine l_ H3 eB rfl (o_ar tk rfl rfl rfl) fun v5 H4 => ?_
  refine pt tk (eB v5) rfl rfl rfl (mm tk (eB v5) rfl rfl ?_)
  refine if_split H4 (fun hb H6 => ?_) (fun hb H6 => ?_)
  ·subst hb
   refine mc tk (.fptr (c_aEn x0) 2) rfl rfl (fun _ => rfl) (m_ (eI x0.AsOf) rfl (o_ld tk rfl rfl) (mc tk (.fptr (c_aEn x1) 2) rfl rfl (fun _ => rfl) (m_ (eI x1.AsOf) rfl (o_ld tk rfl rfl) ?_)))
   refine l_ H6 eB rfl (o_ar tk rfl rfl rfl) fun v8 H7 => ?_
   refine pt tk (eB v8) rfl rfl rfl (mm tk (eB v8) rfl rfl ?_)
   refine if_split H7 (fun hb H9 => ?_) (fun hb H9 => ?_)
   ·subst hb
    refine mc tk (.fptr (c_aEn x0) 3) rfl rfl (fun _ => rfl) (m_ (eI x0.Ends) rfl (o_ld tk rfl rfl) (mc tk (.fptr (c_aEn x1) 3) rfl rfl (fun _ => rfl) (m_ (eI x1.Ends) rfl (o_ld tk rfl rfl) ?_)))
    refine l_ H9 eB rfl (o_ar tk rfl rfl rfl) fun v11 H10 => ?_
    refine pt tk (eB v11) rfl rfl rfl (mm tk (eB v11) rfl rfl ?_)
    refine if_split H10 (fun hb H12 => ?_) (fun hb H12 => ?_)
    ·subst hb
     refine mc tk (.fptr (c_aEn x0) 4) rfl rfl (fun _ => rfl) (m_ ((eL 1 (@eU .u8 8)) x0.Value) rfl (o_ld tk rfl rfl) (mc tk (.fptr (c_aEn x1) 4) rfl rfl (fun _ => rfl) (m_ ((eL 1 (@eU .u8 8)) x1.Value) rfl (o_ld tk rfl rfl) ?_)))
     refine b_ H12 eB rfl (fun v14 hv => OpP.of_call rfl rfl (.cons wr (.cons wr .nil)) (R02_Same_ok hv)) fun v14 hv14 H13 => ?_
     refine pt tk (eB v14) rfl rfl rfl (ma tk (eB v14) rfl rfl (wpo_nil (awp_ret ?_)))
     obtain rfl := oi H13
     exact ⟨_, (eB v14), rfl, wr, .of_eq ((enc_b td4 sz4).cut _ _ _), hH.noT⟩
    ·subst hb
     refine k_ rfl (k_ rfl (k_ rfl (k_ rfl (k_ rfl (pf tk (eB false) rfl rfl rfl (ma tk (eB false) rfl rfl (wpo_nil (awp_ret ?_))))))))
     obtain rfl := oi H12
     exact ⟨_, (eB false), rfl, wr, .of_eq ((enc_b td4 sz4).cut _ _ _), hH.noT⟩
   ·subst hb
    refine k_ rfl (k_ rfl (k_ rfl (k_ rfl (k_ rfl (pf tk (eB false) rfl rfl rfl (mm tk (eB false) rfl rfl (k_ rfl (k_ rfl ?_))))))))
    refine k_ rfl (k_ rfl (k_ rfl (pf tk (eB false) rfl rfl rfl (ma tk (eB false) rfl rfl (wpo_nil (awp_ret ?_))))))
    obtain rfl := oi H9
    exact ⟨_, (eB false), rfl, wr, .of_eq ((enc_b td4 sz4).cut _ _ _), hH.noT⟩
  ·subst hb
   refine k_ rfl (k_ rfl (k_ rfl (k_ rfl (k_ rfl (pf tk (eB false) rfl rfl rfl (mm tk (eB false) rfl rfl (k_ rfl (k_ rfl ?_))))))))
   refine k_ rfl (k_ rfl (k_ rfl (pf tk (eB false) rfl rfl rfl (mm tk (eB false) rfl rfl (k_ rfl (k_ rfl (k_ rfl (k_ rfl ?_))))))))
   refine k_ rfl (pf tk (eB false) rfl rfl rfl (ma tk (eB false) rfl rfl (wpo_nil (awp_ret ?_))))
   obtain rfl := oi H6
   exact ⟨_, (eB false), rfl, wr, .of_eq ((enc_b td4 sz4).cut _ _ _), hH.noT⟩
 ·subst hb
  refine k_ rfl (k_ rfl (k_ rfl (k_ rfl (k_ rfl (pf tk (eB false) rfl rfl rfl (mm tk (eB false) rfl rfl (k_ rfl (k_ rfl ?_))))))))
  refine k_ rfl (k_ rfl (k_ rfl (pf tk (eB false) rfl rfl rfl (mm tk (eB false) rfl rfl (k_ rfl (k_ rfl (k_ rfl (k_ rfl ?_))))))))
  refine k_ rfl (pf tk (eB false) rfl rfl rfl (mm tk (eB false) rfl rfl (k_ rfl (k_ rfl (k_ rfl (k_ rfl (k_ rfl (pf tk (eB false) rfl rfl rfl ?_))))))))
  refine ma tk (eB false) rfl rfl (wpo_nil (awp_ret ?_))
  obtain rfl := oi H3
  exact ⟨_, (eB false), rfl, wr, .of_eq ((enc_b td4 sz4).cut _ _ _), hH.noT⟩
end Go.Proofs.YtggeboakilalhaaDoor

/- WHAT IS USED IS LAST TO GO: a node that was touched is ahead of all others of its list, which stay in their order; if there are others, it is not the oldest. (part 4 of 7) -/
import Derived.Test.YtobbifgmjkgkfaaDoorKListsTouch3
import Derived.LaidEql
import Derived.RowKitTokens
import Derived.Stop.Asserts
import Derived.Test.YtobbifgmjkgkfaaDoorProg
import Derived.WalkKit
namespace Go.Proofs.YtobbifgmjkgkfaaDoor
open Go Go.Va
set_option linter.unusedVariables false
set_option linter.unusedSimpArgs false
set_option maxRecDepth 20000
noncomputable def butteryref09_New_b0 (x1 : Int) (c28 : Int) (c29 : butteryref09_Lists) : Option ((Int × butteryref09_Lists) ⊕ (butteryref09_Lists)) :=
  lt (decide (c28 < x1)) fun v41 =>
  if v41 = true then
    lt (([c28] : List Int)) fun v44 =>
    (app 8 c29.Free v44).bind fun v46 =>
    lt (w64 (c28 + (1 : Int))) fun v51 =>
    some (.inl (v51, ({ c29 with Free := v46 } : butteryref09_Lists)))
  else
    some (.inr c29)
noncomputable def butteryref09_New_l0 (x1 : Int) (s : Int × butteryref09_Lists) : Option (butteryref09_Lists) := loopO (fun s => butteryref09_New_b0 x1 s.1 s.2) s
noncomputable def butteryref09_New (x0 : Int) (x1 : Int) : Option (butteryref09_Lists × Int) :=
  (
    lt (decide (x0 < (1 : Int))) fun v8 =>
    if v8 = true then
      some true
    else
      lt (decide (x0 > (64 : Int))) fun v11 =>
      if v11 = true then
        some true
      else
        lt (decide (x1 < (1 : Int))) fun v14 =>
        if v14 = true then
          some true
        else
          lt (decide (x1 > (65536 : Int))) fun v17 =>
          some v17
   : Option (Bool)).bind fun s3 =>
    if s3 = true then
      some (((⟨([] : List (List Int)), ([] : List Int), ([] : List Int), (0 : Int)⟩ : butteryref09_Lists) : butteryref09_Lists), (2 : Int))
    else
      (mkS 24 x0 ([] : List Int)).bind fun v22 =>
      (butteryref09_New_l0 x1 ((0 : Int), ((⟨v22, ([] : List Int), ([] : List Int), x1⟩ : butteryref09_Lists) : butteryref09_Lists))).bind fun s38 =>
        some ((s38 : butteryref09_Lists), (0 : Int))
end Go.Proofs.YtobbifgmjkgkfaaDoor
namespace Go.Proofs.YtobbifgmjkgkfaaDoor
open Go Go.Va
set_option linter.unusedVariables false
set_option linter.unusedSimpArgs false
set_option maxRecDepth 20000
noncomputable def butteryref09_with (x0 : butteryref09_Lists) (x1 : Int) (x2 : List Int) : Option (butteryref09_Lists) :=
  (app 24 ([] : List (List Int)) x0.L).bind fun v8 =>
  (chk (v8).length x1).bind fun v14 =>
  (updA (v8).length v8 x1 (fun _ => x2)).bind fun c16 =>
  some (({ ({ ({ (x0 : butteryref09_Lists) with L := [] } : butteryref09_Lists) with L := v8 } : butteryref09_Lists) with L := c16 } : butteryref09_Lists) : butteryref09_Lists)
end Go.Proofs.YtobbifgmjkgkfaaDoor
namespace Go.Proofs.YtobbifgmjkgkfaaDoor
open Go Go.Va
set_option linter.unusedVariables false
set_option linter.unusedSimpArgs false
set_option maxRecDepth 20000
noncomputable def butteryref09_ahead (x0 : List Int) (x1 : Int) : Option ((List Int)) :=
  lt (([x1] : List Int)) fun v2 =>
  (app 8 v2 x0).bind fun v4 =>
  some v4
end Go.Proofs.YtobbifgmjkgkfaaDoor
namespace Go.Proofs.YtobbifgmjkgkfaaDoor
open Go Go.Va
set_option linter.unusedVariables false
set_option linter.unusedSimpArgs false
set_option maxRecDepth 20000
noncomputable def butteryref09_Add (x0 : butteryref09_Lists) (x1 : Int) : Option (butteryref09_Lists × Int × Int) :=
  (
    lt (decide (x1 < (0 : Int))) fun v8 =>
    if v8 = true then
      some true
    else
      lt (((x0.L).length : Int)) fun v11 =>
      lt (decide (x1 ≥ v11)) fun v13 =>
      some v13
   : Option (Bool)).bind fun s3 =>
    if s3 = true then
      some ((x0 : butteryref09_Lists), (-1 : Int), (2 : Int))
    else
      lt (((x0.Free).length : Int)) fun v18 =>
      lt (v18 == (0 : Int)) fun v20 =>
      if v20 = true then
        some ((x0 : butteryref09_Lists), (-1 : Int), (4 : Int))
      else
        (ix x0.Free (0 : Int)).bind fun v24 =>
        (ix x0.L x1).bind fun v26 =>
        (butteryref09_ahead v26 v24).bind fun v28 =>
        (butteryref09_with x0 x1 v28).bind fun v30 =>
        (cutFrom x0.Free (1 : Int)).bind fun v35 =>
        lt (({ (v30 : butteryref09_Lists) with Free := v35 } : butteryref09_Lists)) fun c37 =>
        (butteryref09_ahead x0.Used v24).bind fun v40 =>
        lt (({ c37 with Used := v40 } : butteryref09_Lists)) fun c42 =>
        some ((c42 : butteryref09_Lists), v24, (0 : Int))
end Go.Proofs.YtobbifgmjkgkfaaDoor
namespace Go.Proofs.YtobbifgmjkgkfaaDoor
open Go Go.Va
set_option linter.unusedVariables false
set_option linter.unusedSimpArgs false
set_option maxRecDepth 20000
noncomputable def butteryref09_But_b0 (x0 : List Int) (x1 : Int) (c1 : List Int) (c2 : Int) : Option (((List Int) × Int) ⊕ ((List Int))) :=
  lt (((x0).length : Int)) fun v14 =>
  lt (decide (c2 < v14)) fun v16 =>
  if v16 = true then
    (ix x0 c2).bind fun v19 =>
    lt (v19 != x1) fun v21 =>
    if v21 = true then
      (ix x0 c2).bind fun v24 =>
      lt (([v24] : List Int)) fun v26 =>
      (app 8 c1 v26).bind fun v28 =>
      lt (w64 (c2 + (1 : Int))) fun v32 =>
      some (.inl (v28, v32))
    else
      lt (w64 (c2 + (1 : Int))) fun v34 =>
      some (.inl (c1, v34))
  else
    some (.inr c1)
noncomputable def butteryref09_But_l0 (x0 : List Int) (x1 : Int) (s : (List Int) × Int) : Option ((List Int)) := loopO (fun s => butteryref09_But_b0 x0 x1 s.1 s.2) s
noncomputable def butteryref09_But (x0 : List Int) (x1 : Int) : Option ((List Int)) :=
  (butteryref09_But_l0 x0 x1 ([], (0 : Int))).bind fun s11 =>
    some s11
end Go.Proofs.YtobbifgmjkgkfaaDoor
namespace Go.Proofs.YtobbifgmjkgkfaaDoor
open Go Go.Va
set_option linter.unusedVariables false
set_option linter.unusedSimpArgs false
set_option maxRecDepth 20000
noncomputable def butteryref02_Has_b0 (x0 : List Int) (x1 : Int) (c1 : Int) : Option ((Int) ⊕ (Unit ⊕ (Bool))) :=
  lt (((x0).length : Int)) fun v12 =>
  lt (decide (c1 < v12)) fun v14 =>
  if v14 = true then
    (ix x0 c1).bind fun v17 =>
    lt (v17 == x1) fun v19 =>
    if v19 = true then
      some (.inr (.inr true))
    else
      lt (w64 (c1 + (1 : Int))) fun v23 =>
      some (.inl v23)
  else
    some (.inr (.inl ()))
noncomputable def butteryref02_Has_l0 (x0 : List Int) (x1 : Int) (s : Int) : Option (Unit ⊕ (Bool)) := loopO (fun s => butteryref02_Has_b0 x0 x1 s) s
noncomputable def butteryref02_Has (x0 : List Int) (x1 : Int) : Option (Bool) :=
  (butteryref02_Has_l0 x0 x1 (0 : Int)).bind fun o2 =>
    Sum.elim (fun s9 : Unit =>
      some false
      ) (fun y => some y) o2
end Go.Proofs.YtobbifgmjkgkfaaDoor
namespace Go.Proofs.YtobbifgmjkgkfaaDoor
open Go Go.Va
set_option linter.unusedVariables false
set_option linter.unusedSimpArgs false
set_option maxRecDepth 20000
noncomputable def butteryref09_List_b0 (x0 : butteryref09_Lists) (x1 : Int) (c1 : Int) : Option ((Int) ⊕ (Unit ⊕ (Int))) :=
  lt (((x0.L).length : Int)) fun v12 =>
  lt (decide (c1 < v12)) fun v14 =>
  if v14 = true then
    (ix x0.L c1).bind fun v17 =>
    (butteryref02_Has v17 x1).bind fun v19 =>
    if v19 = true then
      some (.inr (.inr c1))
    else
      lt (w64 (c1 + (1 : Int))) fun v23 =>
      some (.inl v23)
  else
    some (.inr (.inl ()))
noncomputable def butteryref09_List_l0 (x0 : butteryref09_Lists) (x1 : Int) (s : Int) : Option (Unit ⊕ (Int)) := loopO (fun s => butteryref09_List_b0 x0 x1 s) s
noncomputable def butteryref09_List (x0 : butteryref09_Lists) (x1 : Int) : Option (Int) :=
  (butteryref09_List_l0 x0 x1 (0 : Int)).bind fun o2 =>
    Sum.elim (fun s9 : Unit =>
      some (-1 : Int)
      ) (fun y => some y) o2
end Go.Proofs.YtobbifgmjkgkfaaDoor
namespace Go.Proofs.YtobbifgmjkgkfaaDoor
open Go Go.Va
set_option linter.unusedVariables false
set_option linter.unusedSimpArgs false
set_option maxRecDepth 20000
noncomputable def butteryref09_at (x0 : butteryref09_Lists) (x1 : Int) : Option (Int) :=
  (
    lt (decide (x1 < (0 : Int))) fun v6 =>
    if v6 = true then
      some true
    else
      lt (decide (x1 ≥ x0.Nodes)) fun v9 =>
      some v9
   : Option (Bool)).bind fun s1 =>
    if s1 = true then
      some (2 : Int)
    else
      (butteryref09_List x0 x1).bind fun v13 =>
      lt (decide (v13 < (0 : Int))) fun v15 =>
      if v15 = true then
        some (9 : Int)
      else
        some (0 : Int)
end Go.Proofs.YtobbifgmjkgkfaaDoor
namespace Go.Proofs.YtobbifgmjkgkfaaDoor
open Go Go.Va
set_option linter.unusedVariables false
set_option linter.unusedSimpArgs false
set_option maxRecDepth 20000
noncomputable def butteryref09_Drop (x0 : butteryref09_Lists) (x1 : Int) : Option (butteryref09_Lists × Int) :=
  (butteryref09_at x0 x1).bind fun v4 =>
  lt (v4 != (0 : Int)) fun v6 =>
  if v6 = true then
    some ((x0 : butteryref09_Lists), v4)
  else
    (butteryref09_List x0 x1).bind fun v10 =>
    (ix x0.L v10).bind fun v12 =>
    (butteryref09_But v12 x1).bind fun v14 =>
    (butteryref09_with x0 v10 v14).bind fun v16 =>
    (butteryref09_ahead x0.Free x1).bind fun v21 =>
    lt (({ (v16 : butteryref09_Lists) with Free := v21 } : butteryref09_Lists)) fun c23 =>
    (butteryref09_But x0.Used x1).bind fun v26 =>
    lt (({ c23 with Used := v26 } : butteryref09_Lists)) fun c28 =>
    some ((c28 : butteryref09_Lists), (0 : Int))
end Go.Proofs.YtobbifgmjkgkfaaDoor
namespace Go.Proofs.YtobbifgmjkgkfaaDoor
open Go Go.Va
set_option linter.unusedVariables false
set_option linter.unusedSimpArgs false
set_option maxRecDepth 20000
noncomputable def butteryref09_Touch (x0 : butteryref09_Lists) (x1 : Int) : Option (butteryref09_Lists × Int) :=
  (butteryref09_at x0 x1).bind fun v4 =>
  lt (v4 != (0 : Int)) fun v6 =>
  if v6 = true then
    some ((x0 : butteryref09_Lists), v4)
  else
    (butteryref09_List x0 x1).bind fun v10 =>
    (ix x0.L v10).bind fun v12 =>
    (butteryref09_But v12 x1).bind fun v14 =>
    (butteryref09_ahead v14 x1).bind fun v16 =>
    (butteryref09_with x0 v10 v16).bind fun v18 =>
    (butteryref09_But x0.Used x1).bind fun v23 =>
    (butteryref09_ahead v23 x1).bind fun v25 =>
    lt (({ (v18 : butteryref09_Lists) with Used := v25 } : butteryref09_Lists)) fun c27 =>
    some ((c27 : butteryref09_Lists), (0 : Int))
end Go.Proofs.YtobbifgmjkgkfaaDoor
namespace Go.Proofs.YtobbifgmjkgkfaaDoor
open Go Go.Va
set_option linter.unusedVariables false
set_option linter.unusedSimpArgs false
set_option maxRecDepth 20000
noncomputable def butterylaw09_do (x0 : lists_Lists) (x1 : butteryref09_Lists) (x2 : butterylaw09_Op) : Option (butteryref09_Lists × Bool × lists_Lists) :=
  lt (x2.Kind == (0 : Int)) fun v4 =>
  if v4 = true then
    (butteryref09_Add x1 x2.At).bind fun v7 =>
    (lists_Lists_Add x0 x2.At).bind fun v12 =>
    lt (v12.1 == v7.2.1) fun v14 =>
    if v14 = true then
      (trouble_Of v12.2.1).bind fun v17 =>
      lt (v17 == v7.2.2) fun v19 =>
      some (((v7.1 : butteryref09_Lists) : butteryref09_Lists), v19, v12.2.2)
    else
      some (((v7.1 : butteryref09_Lists) : butteryref09_Lists), false, v12.2.2)
  else
    lt (x2.Kind == (1 : Int)) fun v23 =>
    if v23 = true then
      (butteryref09_Drop x1 x2.At).bind fun v26 =>
      (lists_Lists_Drop x0 x2.At).bind fun v31 =>
      (trouble_Of v31.1).bind fun v33 =>
      lt (v33 == v26.2) fun v35 =>
      some (((v26.1 : butteryref09_Lists) : butteryref09_Lists), v35, v31.2)
    else
      lt (x2.Kind == (2 : Int)) fun v38 =>
      if v38 = true then
        (butteryref09_Touch x1 x2.At).bind fun v41 =>
        (lists_Lists_Touch x0 x2.At).bind fun v46 =>
        (trouble_Of v46.1).bind fun v48 =>
        lt (v48 == v41.2) fun v50 =>
        some (((v41.1 : butteryref09_Lists) : butteryref09_Lists), v50, v46.2)
      else
        some ((x1 : butteryref09_Lists), true, x0)
end Go.Proofs.YtobbifgmjkgkfaaDoor
namespace Go.Proofs.YtobbifgmjkgkfaaDoor
open Go Go.Va
set_option linter.unusedVariables false
set_option linter.unusedSimpArgs false
set_option maxRecDepth 20000
noncomputable def butterylaw09_ListsTouch_b0 (x0 : List butterylaw09_Op) (x1 : BitVec 8) (c36 : Int) (c37 : butteryref09_Lists) (c38 : lists_Lists) (c39 : List lists_link) (c40 : List Int) (c41 : List Int) (c42 : List Int) : Option ((Int × butteryref09_Lists × lists_Lists × (List lists_link) × (List Int) × (List Int) × (List Int)) ⊕ (butteryref09_Lists × lists_Lists × (List lists_link) × (List Int) × (List Int) × (List Int))) :=
  lt (((x0).length : Int)) fun v53 =>
  lt (decide (c36 < v53)) fun v55 =>
  if v55 = true then
    (ix x0 c36).bind fun v58 =>
    (butterylaw09_do ({ c38 with nodes := c39, first_ := c40, last_ := c41, count := c42 } : lists_Lists) c37 v58).bind fun v60 =>
    lt ((v60.1 : butteryref09_Lists)) fun c62 =>
    lt (w64 (c36 + (1 : Int))) fun v65 =>
    some (.inl (v65, c62, v60.2.2, v60.2.2.nodes, v60.2.2.first_, v60.2.2.last_, v60.2.2.count))
  else
    some (.inr (c37, c38, c39, c40, c41, c42))
noncomputable def butterylaw09_ListsTouch_l0 (x0 : List butterylaw09_Op) (x1 : BitVec 8) (s : Int × butteryref09_Lists × lists_Lists × (List lists_link) × (List Int) × (List Int) × (List Int)) : Option (butteryref09_Lists × lists_Lists × (List lists_link) × (List Int) × (List Int) × (List Int)) := loopO (fun s => butterylaw09_ListsTouch_b0 x0 x1 s.1 s.2.1 s.2.2.1 s.2.2.2.1 s.2.2.2.2.1 s.2.2.2.2.2.1 s.2.2.2.2.2.2) s
noncomputable def butterylaw09_ListsTouch (x0 : List butterylaw09_Op) (x1 : BitVec 8) : Option (Bool) :=
  lt (((x0).length : Int)) fun v2 =>
  lt (decide (v2 > (80 : Int))) fun v4 =>
  if v4 = true then
    (butterylaw09_works).bind fun v7 =>
    some v7
  else
    (lists_New (3 : Int) (20 : Int)).bind fun v9 =>
    Option.elim v9.1 (
      (
        lt (!Err.isNil v9.2) fun v19 =>
        if v19 = true then
          some ()
        else
          some ()
       : Option (Unit)).bind fun s14 =>
        some false
    ) (fun c10 =>
      (
        lt (!Err.isNil v9.2) fun v27 =>
        if v27 = true then
          some true
        else
          some false
       : Option (Bool)).bind fun s22 =>
        if s22 = true then
          some false
        else
          (butteryref09_New (3 : Int) (20 : Int)).bind fun v32 =>
          (butterylaw09_ListsTouch_l0 x0 x1 ((0 : Int), (v32.1 : butteryref09_Lists), c10, c10.nodes, c10.first_, c10.last_, c10.count)).bind fun s50 =>
            lt (((s50.1.Used).length : Int)) fun v68 =>
            lt (v68 == (0 : Int)) fun v70 =>
            if v70 = true then
              (lists_Lists_Oldest ({ s50.2.1 with nodes := s50.2.2.1, first_ := s50.2.2.2.1, last_ := s50.2.2.2.2.1, count := s50.2.2.2.2.2 } : lists_Lists)).bind fun v73 =>
              lt (v73 == (-1 : Int)) fun v75 =>
              if v75 = true then
                (butterylaw09_works).bind fun v78 =>
                some v78
              else
                some false
            else
              lt ((BitVec.toNat x1 : Int)) fun v80 =>
              lt (((s50.1.Used).length : Int)) fun v82 =>
              ((dv v82).map fun m => Int.tmod v80 m).bind fun v84 =>
              (ix s50.1.Used v84).bind fun v86 =>
              (lists_Lists_List ({ s50.2.1 with nodes := s50.2.2.1, first_ := s50.2.2.2.1, last_ := s50.2.2.2.2.1, count := s50.2.2.2.2.2 } : lists_Lists) v86).bind fun v88 =>
              (lists_Lists_Order ({ s50.2.1 with nodes := s50.2.2.1, first_ := s50.2.2.2.1, last_ := s50.2.2.2.2.1, count := s50.2.2.2.2.2 } : lists_Lists) v88).bind fun v90 =>
              (lists_Lists_Touch ({ s50.2.1 with nodes := s50.2.2.1, first_ := s50.2.2.2.1, last_ := s50.2.2.2.2.1, count := s50.2.2.2.2.2 } : lists_Lists) v86).bind fun v92 =>
              lt (!Err.isNil v92.1) fun v94 =>
              if v94 = true then
                some false
              else
                (lists_Lists_Order v92.2 v88).bind fun v97 =>
                (
                  lt (((v97).length : Int)) fun v103 =>
                  lt (((v90).length : Int)) fun v105 =>
                  lt (v103 != v105) fun v107 =>
                  if v107 = true then
                    some true
                  else
                    lt (((v97).length : Int)) fun v110 =>
                    lt (v110 == (0 : Int)) fun v112 =>
                    if v112 = true then
                      some true
                    else
                      (ix v97 (0 : Int)).bind fun v115 =>
                      lt (v115 != v86) fun v117 =>
                      some v117
                 : Option (Bool)).bind fun s98 =>
                  if s98 = true then
                    some false
                  else
                    (cutFrom v97 (1 : Int)).bind fun v121 =>
                    (butteryref09_But v90 v86).bind fun v123 =>
                    (butteryref02_Ints v121 v123).bind fun v125 =>
                    if v125 = true then
                      lt (((s50.1.Used).length : Int)) fun v128 =>
                      lt (v128 == (1 : Int)) fun v130 =>
                      if v130 = true then
                        (butterylaw09_works).bind fun v133 =>
                        some v133
                      else
                        (lists_Lists_Oldest v92.2).bind fun v135 =>
                        lt (v135 != v86) fun v137 =>
                        if v137 = true then
                          (butterylaw09_works).bind fun v140 =>
                          some v140
                        else
                          some false
                    else
                      some false
    )
end Go.Proofs.YtobbifgmjkgkfaaDoor
namespace Go.Proofs.YtobbifgmjkgkfaaDoor
open Go.RowKit Go.Extern.Stop Go.Stop Go.Extern
/-- errors.As(nil, target). -/
theorem as_nil (t : Value) (w : World) :
    Calls Tryd.prog 43 #[.nilIface, t] w fun e w' => e = .returned (.bool false) ∧ w' = w := by
  go_enter Tryd.func43, Tryd.ntmps43
  go_wp2
  go_ret
  exact ⟨rfl, rfl⟩

theorem Tryd.valueOf27 (t : Addr) (w : World) : (ReflectliteValue.unpack (.iface 96 (.pointer (some t)))).run Tryd.prog w
    = .ok (.agg #[.pointer (some ⟨1, 96, none⟩), .pointer (some ⟨w.heap.size, 0, none⟩), .int .u64 150]) (w.alloc (.cells #[.pointer (some t)] 96)) := by kernel_rfl
theorem Tryd.type27 (a : Addr) (w : World) : (ReflectliteValue.methodAny (ReflectliteValue.valueError "reflectlite.Value.Type" 0) (fun t _ _ _ => ReflectliteType.toType t) #[.agg #[.pointer (some ⟨1, 96, none⟩), .pointer (some a), .int .u64 150]]).run Tryd.prog w
    = .ok (.iface 151 (.agg #[.pointer (some ⟨1, 96, none⟩)])) w := by kernel_rfl
theorem Tryd.methodKind (h : Value) (w : World) : (Go.method 295 151 (.agg #[h]) "Kind").run Tryd.prog w = .ok (104, h) w := by kernel_rfl
theorem Tryd.kind27 (w : World) : ((ReflectliteType.abiMethod fun t => (fun a : Nat => Value.int IntKind.u8 (a : Int)) <$> Rtype.kind t) #[.pointer (some ⟨1, 96, none⟩)]).run Tryd.prog w = .ok (.int .u8 22) w := by kernel_rfl
theorem Tryd.kind25 (w : World) : ((ReflectliteType.abiMethod fun t => (fun a : Nat => Value.int IntKind.u8 (a : Int)) <$> Rtype.kind t) #[.pointer (some ⟨1, 94, none⟩)]).run Tryd.prog w = .ok (.int .u8 22) w := by kernel_rfl

theorem rlm (z : Sem Value) (f : TypeId → Addr → Nat → Nat → Sem Value) (v : Value) :
    ReflectliteValue.method z f #[v] = (do match ← ReflectliteValue.parts v with | none => z | some (t, a, fl) => f t a fl (fl % 32)) := rfl
theorem Tryd.parts27 (a : Addr) (w : World) : (ReflectliteValue.parts (.agg #[.pointer (some ⟨1, 96, none⟩), .pointer (some a), .int .u64 150])).run Tryd.prog w = .ok (some (96, a, 150)) w := by kernel_rfl
/-- (Value).IsNil at the Value of a **p.E that is not nil. -/
theorem Tryd.isNil27 (a p : Addr) (W : World) (ha : W.cell? a = some (.pointer (some p))) :
    (ReflectliteValue.method (ReflectliteValue.valueError "reflectlite.Value.IsNil" 0) ReflectliteValue.isNil #[.agg #[.pointer (some ⟨1, 96, none⟩), .pointer (some a), .int .u64 150]]).run Tryd.prog W = .ok (.bool false) W := by
  rw [rlm]
  simp only [Sem.run_bind, Tryd.parts27, Result.andThen]
  simp [ReflectliteValue.isNil, loadVar, isAgg, underlying, Tryd.underlying96, ha, Result.andThen]

theorem Tryd.methodElem (h : Value) (w : World) : (Go.method 295 151 (.agg #[h]) "Elem").run Tryd.prog w = .ok (116, .agg #[h]) w := by kernel_rfl
theorem Tryd.methodImplements (h : Value) (w : World) : (Go.method 295 151 (.agg #[h]) "Implements").run Tryd.prog w = .ok (117, .agg #[h]) w := by kernel_rfl
theorem Tryd.methodAssignableTo (h : Value) (w : World) : (Go.method 295 151 (.agg #[h]) "AssignableTo").run Tryd.prog w = .ok (114, .agg #[h]) w := by kernel_rfl
theorem Tryd.elem27 (w : World) : (ReflectliteType.method ReflectliteType.elem #[.agg #[.pointer (some ⟨1, 96, none⟩)]]).run Tryd.prog w = .ok (.iface 151 (.agg #[.pointer (some ⟨1, 94, none⟩)])) w := by kernel_rfl
theorem Tryd.implements25 (w : World) : (ReflectliteType.relation "Implements" ReflectliteType.implements_ #[.agg #[.pointer (some ⟨1, 94, none⟩)], .iface 151 (.agg #[.pointer (some ⟨1, 27, none⟩)])]).run Tryd.prog w = .ok (.bool true) w := by kernel_rfl
theorem Tryd.typeOf25 (v : Value) (w : World) : (ReflectliteType.typeOf #[.iface 94 v]).run Tryd.prog w = .ok (.iface 151 (.agg #[.pointer (some ⟨1, 94, none⟩)])) w := by kernel_rfl
theorem Tryd.assignable25 (w : World) : (ReflectliteType.relation "AssignableTo" ReflectliteType.assignableTo #[.agg #[.pointer (some ⟨1, 94, none⟩)], .iface 151 (.agg #[.pointer (some ⟨1, 94, none⟩)])]).run Tryd.prog w = .ok (.bool true) w := by kernel_rfl
theorem Tryd.valueOf25 (e : Addr) (w : World) : (ReflectliteValue.unpack (.iface 94 (.pointer (some e)))).run Tryd.prog w
    = .ok (.agg #[.pointer (some ⟨1, 94, none⟩), .pointer (some ⟨w.heap.size, 0, none⟩), .int .u64 150]) (w.alloc (.cells #[.pointer (some e)] 94)) := by kernel_rfl

theorem Tryd.elemOf27 (w : World) : (Rtype.elem? 96).run Tryd.prog w = .ok (some 94) w := by kernel_rfl
theorem Tryd.mk25 (p : Addr) (w : World) : (ReflectliteValue.mk 94 p ReflectliteValue.flagAddr).run Tryd.prog w = .ok (.agg #[.pointer (some ⟨1, 94, none⟩), .pointer (some p), .int .u64 406]) w := by kernel_rfl
/-- (Value).Elem at the Value of a **p.E that is not nil: the Value of the *p.E variable that it points to, addressable. -/
theorem Tryd.elemV27 (a p : Addr) (W : World) (ha : W.cell? a = some (.pointer (some p))) :
    (ReflectliteValue.method (ReflectliteValue.valueError "reflectlite.Value.Elem" 0) ReflectliteValue.elem #[.agg #[.pointer (some ⟨1, 96, none⟩), .pointer (some a), .int .u64 150]]).run Tryd.prog W
      = .ok (.agg #[.pointer (some ⟨1, 94, none⟩), .pointer (some p), .int .u64 406]) W := by
  rw [rlm]
  simp only [Sem.run_bind, Tryd.parts27, Result.andThen]
  simp [ReflectliteValue.elem, loadVar, isAgg, underlying, Tryd.underlying96, ha, Result.andThen, Tryd.elemOf27, Tryd.mk25]
theorem rls (v x : Value) : ReflectliteValue.set #[v, x] = (do
    let (some (dst, a, fl), some (src, b, _)) := (← ReflectliteValue.parts v, ← ReflectliteValue.parts x)
      | unsupported (.noEntry "extern/(internal/reflectlite.Value).Set.zeroValue")
    if fl / ReflectliteValue.flagAddr % 2 == 0 then unsupported (.noEntry "extern/(internal/reflectlite.Value).Set.unaddressable")
    let val ← loadVar src b
    if ← Rtype.directlyAssignable dst src then storeVar dst a val
    else if ← Rtype.implements dst src then
      if (← Rtype.kind src) == 20 then
        match val with
        | .nilIface => unsupported (.noEntry "extern/reflectlite: a nil value of one interface type handed on as a value of another")
        | _ => storeVar dst a val
      else storeVar dst a (.iface src val)
    else panicString ("reflectlite.Set: value of type " ++ (← Rtype.spelt src) ++ " is not assignable to type " ++ (← Rtype.spelt dst))
    pure (.tuple #[])) := rfl
theorem Tryd.parts25a (a : Addr) (w : World) : (ReflectliteValue.parts (.agg #[.pointer (some ⟨1, 94, none⟩), .pointer (some a), .int .u64 406])).run Tryd.prog w = .ok (some (94, a, 406)) w := by kernel_rfl
theorem Tryd.parts25 (a : Addr) (w : World) : (ReflectliteValue.parts (.agg #[.pointer (some ⟨1, 94, none⟩), .pointer (some a), .int .u64 150])).run Tryd.prog w = .ok (some (94, a, 150)) w := by kernel_rfl
theorem Tryd.direct25 (w : World) : (Rtype.directlyAssignable 94 94).run Tryd.prog w = .ok true w := by kernel_rfl
theorem Tryd.size25 (w : World) : (sizeOf 94).run Tryd.prog w = .ok 1 w := by kernel_rfl
/-- (Value).Set: the *p.E variable at 'ta' gets what the Value's own variable 'b' holds. -/
theorem Tryd.set25 (ta b e : Addr) (old : Value) (W : World) (hb : W.cell? b = some (.pointer (some e))) (ht : W.cell? ta = some old) (hf : W.frozen? ta = false) :
    (ReflectliteValue.set #[.agg #[.pointer (some ⟨1, 94, none⟩), .pointer (some ta), .int .u64 406], .agg #[.pointer (some ⟨1, 94, none⟩), .pointer (some b), .int .u64 150]]).run Tryd.prog W
      = .ok (.tuple #[]) (W.setCell ta (.pointer (some e))) := by
  rw [rls]
  simp only [Sem.run_bind, Tryd.parts25a, Tryd.parts25, Result.andThen]
  simp [ReflectliteValue.flagAddr, loadVar, isAgg, underlying, Tryd.underlying94, hb, Result.andThen, Tryd.direct25, storeVar, Value.cells, storeCells, Addr.add]
  rw [run_store Tryd.prog W ta _ _ (by rfl)]
  simp [ht, hf]

set_option maxHeartbeats 8000000 in
set_option maxRecDepth 100000 in
theorem as_hit (e t : Addr) (old : Value) (w : World) (hg : w.cell? ⟨0, 0, none⟩ = some (.iface 151 (.agg #[.pointer (some ⟨1, 27, none⟩)]))) (ht0 : w.cell? t = some old) (hf0 : w.frozen? t = false) :
    Calls Tryd.prog 43 #[.iface 94 (.pointer (some e)), .iface 96 (.pointer (some t))] w fun ev w' => ev = .returned (.bool true) ∧ w' = ((((w.alloc (.cells #[.pointer (some t)] 96)).alloc (.cells #[.pointer (some ⟨1, 96, none⟩), .pointer (some ⟨w.heap.size, 0, none⟩), .int .u64 150] 129)).alloc (.cells #[.pointer (some ⟨1, 96, none⟩), .pointer (some ⟨w.heap.size, 0, none⟩), .int .u64 150] 129)).alloc (.cells #[.pointer (some e)] 94)).setCell t (.pointer (some e)) := by
  have h6 := @run_callFunc_extern Tryd.prog 70 _ (fun args => ReflectliteValue.unpack (args.getD 0 (.tuple #[]))) Tryd.func70 (by kernel_rfl) (by kernel_rfl) (by kernel_rfl) (by kernel_rfl)
  have h7 := @run_callFunc_extern Tryd.prog 71 _ (ReflectliteValue.methodAny (ReflectliteValue.valueError "reflectlite.Value.Type" 0) (fun t _ _ _ => ReflectliteType.toType t)) Tryd.func71 (by kernel_rfl) (by kernel_rfl) (by kernel_rfl) (by kernel_rfl)
  have h8 := @run_callFunc_extern Tryd.prog 72 _ (ReflectliteValue.method (ReflectliteValue.valueError "reflectlite.Value.IsNil" 0) ReflectliteValue.isNil) Tryd.func72 (by kernel_rfl) (by kernel_rfl) (by kernel_rfl) (by kernel_rfl)
  have h27 := @run_callFunc_extern Tryd.prog 104 _ (ReflectliteType.abiMethod fun t => do pure (.int .u8 (← Rtype.kind t))) Tryd.func104 (by kernel_rfl) (by kernel_rfl) (by kernel_rfl) (by kernel_rfl)
  have h37 := @run_callFunc_extern Tryd.prog 116 _ (ReflectliteType.method ReflectliteType.elem) Tryd.func116 (by kernel_rfl) (by kernel_rfl) (by kernel_rfl) (by kernel_rfl)
  have h38 := @run_callFunc_extern Tryd.prog 117 _ (ReflectliteType.relation "Implements" ReflectliteType.implements_) Tryd.func117 (by kernel_rfl) (by kernel_rfl) (by kernel_rfl) (by kernel_rfl)
  have h10 := @run_callFunc_extern Tryd.prog 87 _ ReflectliteType.typeOf Tryd.func87 (by kernel_rfl) (by kernel_rfl) (by kernel_rfl) (by kernel_rfl)
  have h35 := @run_callFunc_extern Tryd.prog 114 _ (ReflectliteType.relation "AssignableTo" ReflectliteType.assignableTo) Tryd.func114 (by kernel_rfl) (by kernel_rfl) (by kernel_rfl) (by kernel_rfl)
  have h11 := @run_callFunc_extern Tryd.prog 88 _ (ReflectliteValue.method (ReflectliteValue.valueError "reflectlite.Value.Elem" 0) ReflectliteValue.elem) Tryd.func88 (by kernel_rfl) (by kernel_rfl) (by kernel_rfl) (by kernel_rfl)
  have h12 := @run_callFunc_extern Tryd.prog 89 _ ReflectliteValue.set Tryd.func89 (by kernel_rfl) (by kernel_rfl) (by kernel_rfl) (by kernel_rfl)
  have tO := Tryd.typeOf25
  have mA := Tryd.methodAssignableTo
  have a25 := Tryd.assignable25
  have v25 := Tryd.valueOf25
  have f6 := Tryd.valueOf27
  have f7 := Tryd.type27
  have mK := Tryd.methodKind
  have mE := Tryd.methodElem
  have mI := Tryd.methodImplements
  have k27 := Tryd.kind27
  have k25 := Tryd.kind25
  have e27 := Tryd.elem27
  have i25 := Tryd.implements25
  have n8 := Tryd.isNil27 ⟨w.heap.size, 0, none⟩ t ((w.alloc (.cells #[.pointer (some t)] 96)).alloc (.cells #[.pointer (some ⟨1, 96, none⟩), .pointer (some ⟨w.heap.size, 0, none⟩), .int .u64 150] 129)) (by simp)
  have hlt : 0 < w.heap.size := by
    rcases Nat.eq_zero_or_pos w.heap.size with h0 | h
    · simp [World.cell?, h0] at hg
    · exact h
  have hg2 : ((w.alloc (.cells #[.pointer (some t)] 96)).alloc (.cells #[.pointer (some ⟨1, 96, none⟩), .pointer (some ⟨w.heap.size, 0, none⟩), .int .u64 150] 129)).cell? ⟨0, 0, none⟩ = some (.iface 151 (.agg #[.pointer (some ⟨1, 27, none⟩)])) := by
    rw [World.cell?_alloc_lt _ _ ⟨0, 0, none⟩ (by simp), World.cell?_alloc_lt _ _ ⟨0, 0, none⟩ hlt]; exact hg
  have htl : t.block < w.heap.size := by
    rcases Nat.lt_or_ge t.block w.heap.size with h | h
    · exact h
    · simp [World.cell?, Array.getElem?_eq_none h] at ht0
  have el := Tryd.elemV27 ⟨w.heap.size, 0, none⟩ t (((w.alloc (.cells #[.pointer (some t)] 96)).alloc (.cells #[.pointer (some ⟨1, 96, none⟩), .pointer (some ⟨w.heap.size, 0, none⟩), .int .u64 150] 129)).alloc (.cells #[.pointer (some ⟨1, 96, none⟩), .pointer (some ⟨w.heap.size, 0, none⟩), .int .u64 150] 129)) (by rw [World.cell?_alloc_lt _ _ ⟨w.heap.size, 0, none⟩ (by simp; omega)]; simp)
  have st := Tryd.set25 t ⟨w.heap.size + 1 + 1 + 1, 0, none⟩ e old ((((w.alloc (.cells #[.pointer (some t)] 96)).alloc (.cells #[.pointer (some ⟨1, 96, none⟩), .pointer (some ⟨w.heap.size, 0, none⟩), .int .u64 150] 129)).alloc (.cells #[.pointer (some ⟨1, 96, none⟩), .pointer (some ⟨w.heap.size, 0, none⟩), .int .u64 150] 129)).alloc (.cells #[.pointer (some e)] 94))
    (by rw [World.cell?_alloc_at _ _ _ _ (by simp)]; rfl)
    (by rw [World.cell?_alloc_lt _ _ t (by simp; omega), World.cell?_alloc_lt _ _ t (by simp; omega), World.cell?_alloc_lt _ _ t (by simp; omega), World.cell?_alloc_lt _ _ t htl]; exact ht0)
    (by rw [World.frozen?_alloc_old _ _ t (by simp; omega), World.frozen?_alloc_old _ _ t (by simp; omega), World.frozen?_alloc_old _ _ t (by simp; omega), World.frozen?_alloc_old _ _ t (Nat.ne_of_lt htl)]; exact hf0)
  go_enter Tryd.func43, Tryd.ntmps43
  go_wp2
  refine wp_loop_rounds 1 ?_
  rw [rounds_succ]
  go_wp2
  go_ret
  exact ⟨rfl, rfl⟩
end Go.Proofs.YtobbifgmjkgkfaaDoor
namespace Go.Proofs.YtobbifgmjkgkfaaDoor
open Go Go.Va
set_option linter.unusedVariables false
set_option linter.unusedSimpArgs false
def gls : List (Addr × Value) := [(⟨0, 0, none⟩, .iface 151 (.agg #[.pointer (some ⟨1, 27, none⟩)]))]
section
variable {P : Program} {Ty : TypeId → Option TI} {fr : Nat → AV} {d : Option Tmp} {t : TypeId} {pos : String} {af : Array Edge} {g : Option (Nat × Bool)} {ox oy : Operand} {T T' : TypeId}
theorem o_err_eql (hT : TyOk P Ty) {x : Err} (ht : tdOf Ty T = .iface) (hx : aeval fr ox = eErr x) (hy : oy = .const .nilIface) : OpP P ⟨d, .binOp .eql T ox oy T', t, pos, af, g⟩ fr (eB x.isNil) := by
  subst hy
  refine OpP.of_aop' hT (mu := false) rfl (fun τ => ?_)
  have h2 : aeval fr (.const .nilIface) = .nili := rfl
  simp only [aop, hx, h2]
  cases x with
  | nil => simp [eErr, abin', abin, ht, isC, aeq, pairO, Err.isNil, eB]
  | fault o a c u => simp [eErr, abin', abin, ht, isC, aeq, pairO, Err.isNil, eB]
theorem o_err_neq (hT : TyOk P Ty) {x : Err} (ht : tdOf Ty T = .iface) (hx : aeval fr ox = eErr x) (hy : oy = .const .nilIface) : OpP P ⟨d, .binOp .neq T ox oy T', t, pos, af, g⟩ fr (eB (!x.isNil)) := by
  subst hy
  refine OpP.of_aop' hT (mu := false) rfl (fun τ => ?_)
  have h2 : aeval fr (.const .nilIface) = .nili := rfl
  simp only [aop, hx, h2]
  cases x with
  | nil => simp [eErr, abin', abin, ht, isC, aeq, pairO, Err.isNil, eB]
  | fault o a c u => simp [eErr, abin', abin, ht, isC, aeq, pairO, Err.isNil, eB]
end
/-- The pointer that an error holds. -/
def Err.ptr : Err → AV
  | .nil => .nilp
  | .fault o a c u => .fptr [eS o, eI a, eI c, eErr u] 0
theorem as_ok {x : Err} (hx : x.isNil = false) {σ : St} {id : Nat} (ho : σ.objs[id]? = some [.nilp]) (hg : σ.gl = gls) : ACall Tryd.prog 43 [eErr x, .iface 96 (.ref id 0)] σ (fun a τ => a = eB true ∧ τ = σ.puts [(id, [x.ptr])]) := by
  cases x with
  | nil => cases hx
  | fault o a c u =>
    refine ⟨⟨_, Tryd.func43, by decide, rfl⟩, fun w0 G w vs hI hr => ?_⟩
    obtain ⟨v0, h0, r0⟩ := hr.get (i := 0) rfl
    obtain ⟨v1, h1, r1⟩ := hr.get (i := 1) rfl
    have hvs : vs = #[v0, v1] := by
      obtain ⟨l⟩ := vs
      have hl := hr.len
      simp only [List.length_cons, List.length_nil] at hl h0 h1
      match l, hl, h0, h1 with
      | [x, y], _, h0, h1 => simp at h0 h1; subst h0; subst h1; rfl
    subst hvs
    simp only [eErr] at r0
    cases r0 with | iface _ v0 _ r0 =>
    cases r1 with | iface _ v1 _ r1 =>
    cases r0 with | fptr b o' off _ val hf hv =>
    cases r1 with | ref _ _ b1 hl =>
    obtain ⟨b2, T, cs, e1, e2, e3, e4, e5, e6⟩ := hI.loc id _ ho (by simp) rfl
    rw [hl] at e1
    cases e1
    obtain ⟨u1, hu1, ru1⟩ := e4.rel.get (i := 0) rfl
    have hcs : cs[0]? = some (.pointer none) := by
      cases ru1
      rw [List.getElem?_take] at hu1
      simpa using hu1
    have hsz : 1 ≤ cs.size := e4.le
    have hglob := hI.below
    have hg0 : w0.cell? ⟨0, 0, none⟩ = some (.iface 151 (.agg #[.pointer (some ⟨1, 27, none⟩)])) := hI.gl _ (by rw [hg]; exact List.mem_singleton.2 rfl)
    have hg1 : w.cell? ⟨0, 0, none⟩ = some (.iface 151 (.agg #[.pointer (some ⟨1, 27, none⟩)])) := by
      have hb := World.block_lt_of_cell? w0 _ hg0
      simp only [World.cell?] at hg0 ⊢
      rw [hI.below.block _ hb]; exact hg0
    have hc : w.cell? ⟨b1, 0, none⟩ = some (.pointer none) := by simp [World.cell?, e3, hcs]
    have hfz : w.frozen? ⟨b1, 0, none⟩ = false := by simp [World.frozen?, e3]
    refine (as_hit ⟨b, o' + 0, none⟩ ⟨b1, 0, none⟩ (.pointer none) w hg1 hc hfz).mono ?_
    rintro e w' ⟨rfl, rfl⟩
    have k1 := hI.alloc_fz #[.pointer (some ⟨b1, 0, none⟩)] 96 (by simp [Value.oneCell']) (0, 0)
    have k2 := k1.2.alloc_fz #[.pointer (some ⟨1, 96, none⟩), .pointer (some ⟨w.heap.size, 0, none⟩), .int .u64 150] 129 (by simp [Value.oneCell']) (0, 0)
    have k3 := k2.2.alloc_fz #[.pointer (some ⟨1, 96, none⟩), .pointer (some ⟨w.heap.size, 0, none⟩), .int .u64 150] 129 (by simp [Value.oneCell']) (0, 0)
    have k4 := k3.2.alloc_fz #[.pointer (some ⟨b, o' + 0, none⟩)] 94 (by simp [Value.oneCell']) (0, 0)
    have hle := k1.1.trans (k2.1.trans (k3.1.trans k4.1))
    have hb1 : b1 < w.heap.size := (Array.getElem?_eq_some_iff.1 e3).1
    have k5 := k4.2.write (id := id) (off := 0) (news := [.pointer (some ⟨b, o' + 0, none⟩)]) (nc := [.fptr [eS o, eI a, eI c, eErr u] 0]) ho (hle.loc _ _ hl) (by simp) rfl ((RelL.nil _).cons (.fptr b o' 0 _ val (fun j a h1 => hle.fz _ _ _ (hf j a h1)) (fun j a h1 => (hv j a h1).mono hle))) (by simp [Value.oneCell']) (by simp) (by rw [hle.bsz _ _ hl, ← e6]; simpa using hsz)
    refine ⟨.bool true, eB true, _, _, rfl, hle, ?_, .bool true, rfl, rfl⟩
    simp only [World.setCells, List.take_zero, List.nil_append, List.length_cons, List.length_nil, List.drop_succ_cons, List.drop_zero, List.drop_nil, List.append_nil] at k5
    exact k5
end Go.Proofs.YtobbifgmjkgkfaaDoor
namespace Go.Proofs.YtobbifgmjkgkfaaDoor
open Go Go.Va
set_option linter.unusedVariables false
set_option linter.unusedSimpArgs false
set_option maxRecDepth 20000
theorem trouble_Of_ok {x0 : Err} {r : Int} (H : trouble_Of x0 = some r) (σ : St) (hg : σ.gl = gls) : ACall Tryd.prog 12 [eErr x0] σ (fun a τ => a = eI r ∧ τ = σ) := by
  obtain rfl := Option.some.inj H
  refine ACall.pure (acall_start tk Tryd.func12 (by decide) rfl (Nat.le_of_ble_eq_true rfl) ?_)
  have hH := Holds.init σ
  refine awp_seq ?_
  refine awp_region rfl ?_
  refine wpo_mv (a := (eI (0 : Int))) rfl rfl rfl (o_as tk rfl (Wk.refl _)) ?_
  refine wpo_nil ?_
  refine awp_seq ?_
  refine awp_block ?_
  have hs := trouble_Of_l0 x0
  refine awp_cutx 0 (fun fr τ => codeOf x0 = 0 ∧ WkF fr (fm []) ∧ Holds σ [] [] τ) ?_ ?_
  · rintro fr τ ⟨h0, hfr, hH⟩
    refine AWP.fm [] hfr ?_
    refine awp_seq ?_
    refine awp_region rfl ?_
    refine wpo_mv (a := (eI 0)) rfl rfl rfl (o_as tk rfl (Wk.refl _)) ?_
    refine wpo_nil ?_
    refine awp_ret ?_
    rw [h0]
    exact ⟨_, (eI 0), rfl, (.of_eq rfl), .of_eq rfl, hH.noT⟩
  · refine awp_loopO (body := trouble_Of_b0) hs (fun (s : Err) fr τ => WkF fr (fm [(0, eErr s)]) ∧ Holds σ [] [] τ) ⟨(wkf_cons (.of_eq rfl) (wkf_nil _)), hH⟩ ?_
    rintro c1 fr τ y ⟨hfr, hH⟩ hb hy
    refine AWP.fm [(0, eErr c1)] hfr ?_
    cases c1 with
    | nil =>
      refine awp_seq ?_
      refine awp_seq ?_
      refine awp_region rfl ?_
      refine wpo_mv (a := eErr .nil) rfl rfl rfl (o_mv tk rfl (Wk.refl _)) ?_
      refine wpo_mv (a := eB false) rfl rfl rfl (o_err_neq (x := .nil) tk rfl rfl rfl) ?_
      refine wpo_nil ?_
      refine awp_false rfl ?_
      refine awp_exit ?_
      have hb : some (Sum.inr (Sum.inl ())) = some y := hb
      have hz := hy _ (Option.some.inj hb).symm
      refine ⟨⟨_, (Option.some.inj hb).symm⟩, ?_, (wkf_nil _), hH⟩
      split at hz
      · assumption
      · cases hz
    | fault o a c u =>
      refine awp_seq ?_
      refine awp_seq ?_
      refine awp_region rfl ?_
      refine wpo_mv (a := eErr (.fault o a c u)) rfl rfl rfl (o_mv tk rfl (Wk.refl _)) ?_
      refine wpo_mv (a := eB true) rfl rfl rfl (o_err_neq (x := .fault o a c u) tk rfl rfl rfl) ?_
      refine wpo_nil ?_
      refine awp_true rfl ?_
      refine awp_skip ?_
      refine awp_block ?_
      refine awp_seq ?_
      refine awp_region rfl ?_
      refine wpo_a (av := fun id => .ref id 0) rfl rfl rfl (h_alloc tk hH ty94 [.nilp] rfl) fun id τ ⟨hH, hn⟩ => ?_
      refine wpo_nil ?_
      refine awp_seq ?_
      refine awp_seq ?_
      refine awp_region rfl ?_
      refine wpo_mv (a := eErr (.fault o a c u)) rfl rfl rfl (o_mv tk rfl (Wk.refl _)) ?_
      refine wpo_mv (a := .iface 96 (.ref id 0)) rfl rfl rfl (o_c tk false rfl (fun _ => rfl)) ?_
      refine wpo_cb (α := Unit) (z := some ()) (k := fun _ => some ()) (r := ()) rfl (fun _ _ => eB true) rfl rfl rfl (fun v hv => h_call1 hH [(0, (id, [(Err.fault o a c u).ptr]))] ⟨⟨_, rfl⟩, trivial⟩ rfl rfl (.cons (.of_eq rfl) (.cons (.of_eq rfl) .nil)) (as_ok (x := .fault o a c u) rfl (hH.at_ 0 rfl) (hH.gl.trans hg))) fun _ _ τ _ _ hH => ?_
      refine wpo_mv (a := eB false) rfl rfl rfl (o_un tk rfl rfl) ?_
      refine wpo_nil ?_
      refine awp_false rfl ?_
      refine awp_skip ?_
      refine awp_seq ?_
      refine awp_seq ?_
      refine awp_region rfl ?_
      refine wpo_rd (a := (Err.fault o a c u).ptr) rfl rfl rfl (h_ld tk hH 0 rfl rfl rfl) ?_
      refine wpo_mv (a := (Err.fault o a c u).ptr) rfl rfl rfl (o_c tk false rfl (fun _ => rfl)) ?_
      refine wpo_mv (a := .fptr [eS o, eI a, eI c, eErr u] 2) rfl rfl rfl (o_c tk false rfl (fun _ => rfl)) ?_
      refine wpo_mv (a := eI c) rfl rfl rfl (o_ld tk rfl rfl) ?_
      refine wpo_mv (a := eB (c != 0)) rfl rfl rfl (o_ar tk rfl rfl rfl) ?_
      refine wpo_nil ?_
      have hb : (if (c != 0) = true then some (.inr (.inr c)) else some (.inl u)) = some y := hb
      refine awp_if hb rfl (fun hb => ?_) (fun hb => ?_)
      · refine awp_seq ?_
        refine awp_region rfl ?_
        refine wpo_rd (a := (Err.fault o a c u).ptr) rfl rfl rfl (h_ld tk hH 0 rfl rfl rfl) ?_
        refine wpo_mv (a := (Err.fault o a c u).ptr) rfl rfl rfl (o_c tk false rfl (fun _ => rfl)) ?_
        refine wpo_mv (a := .fptr [eS o, eI a, eI c, eErr u] 2) rfl rfl rfl (o_c tk false rfl (fun _ => rfl)) ?_
        refine wpo_mv (a := eI c) rfl rfl rfl (o_ld tk rfl rfl) ?_
        refine wpo_mv (a := eI c) rfl rfl rfl (o_as tk rfl (Wk.refl _)) ?_
        refine wpo_nil ?_
        refine awp_ret ?_
        have hz := hy _ (Option.some.inj hb).symm
        refine ⟨⟨_, (Option.some.inj hb).symm⟩, ?_⟩
        have hc : codeOf x0 = c := by
          split at hz
          · cases hz
          · exact Sum.inr.inj hz.symm
        rw [hc]
        exact ⟨_, (eI c), rfl, (.of_eq rfl), .of_eq rfl, (hH.noT.drop hn)⟩
      · refine awp_skip ?_
        refine awp_region rfl ?_
        refine wpo_rd (a := (Err.fault o a c u).ptr) rfl rfl rfl (h_ld tk hH 0 rfl rfl rfl) ?_
        refine wpo_mv (a := (Err.fault o a c u).ptr) rfl rfl rfl (o_c tk false rfl (fun _ => rfl)) ?_
        refine wpo_mv (a := .fptr [eS o, eI a, eI c, eErr u] 3) rfl rfl rfl (o_c tk false rfl (fun _ => rfl)) ?_
        refine wpo_mv (a := eErr u) rfl rfl rfl (o_ld tk rfl (by cases u <;> rfl)) ?_
        refine wpo_mv (a := eErr u) rfl rfl rfl (o_as tk rfl (Wk.refl _)) ?_
        refine wpo_nil ?_
        exact ⟨u, (Option.some.inj hb).symm, (wkf_cons (.of_eq rfl) (wkf_nil _)), hH.drop hn⟩
end Go.Proofs.YtobbifgmjkgkfaaDoor
namespace Go.Proofs.YtobbifgmjkgkfaaDoor
open Go Go.Va
set_option linter.unusedVariables false
set_option linter.unusedSimpArgs false
set_option maxRecDepth 20000
theorem trouble_New_ok {x0 : List (BitVec 8)} {x1 : Int} {x2 : Int} {r : Err} (H : trouble_New x0 x1 x2 = some r) (σ : St)  : ACall Tryd.prog 40 [(eS x0), (eI x1), (eI x2)] σ (fun a τ => a = eErr r ∧ τ = σ) := by
  unfold trouble_New at H
  refine ACall.pure (acall_start tk Tryd.func40 (by decide) rfl (Nat.le_of_ble_eq_true rfl) ?_)
  have hH := Holds.init σ
  refine awp_seq ?_
  refine awp_region rfl ?_
  refine wpo_mv (a := (eErr Err.nil)) rfl rfl rfl (o_as tk rfl (Wk.refl _)) ?_
  refine wpo_nil ?_
  refine awp_seq ?_
  refine awp_seq ?_
  refine awp_region rfl ?_
  refine wpo_mv (a := (eI x2)) rfl rfl rfl (o_mv tk rfl (Wk.refl _)) ?_
  refine wpo_lt H eB rfl rfl rfl (o_ar tk rfl rfl rfl) fun v2 H1 => ?_
  refine wpo_nil ?_
  refine awp_if H1 rfl (fun H3 => ?_) (fun H3 => ?_)
  · refine awp_seq ?_
    refine awp_region rfl ?_
    refine wpo_mv (a := (eErr Err.nil)) rfl rfl rfl (o_as tk rfl (Wk.refl _)) ?_
    refine wpo_nil ?_
    refine awp_ret ?_
    obtain rfl := Option.some.inj H3
    exact ⟨_, (eErr Err.nil), rfl, (.of_eq rfl), .of_eq (encErr.cut _ _ _), hH.noT⟩
  · refine awp_skip ?_
    refine awp_seq ?_
    refine awp_region rfl ?_
    refine wpo_mv (a := (eS x0)) rfl rfl rfl (o_mv tk rfl (Wk.refl _)) ?_
    refine wpo_mv (a := (eI x1)) rfl rfl rfl (o_mv tk rfl (Wk.refl _)) ?_
    refine wpo_mv (a := (eI x2)) rfl rfl rfl (o_mv tk rfl (Wk.refl _)) ?_
    refine wpo_lt H3 e_trouble_fault rfl rfl rfl (o_c tk false rfl (fun _ => rfl)) fun v5 H4 => ?_
    refine wpo_mv (a := (.fptr (c_trouble_fault v5) 0)) rfl rfl rfl (o_boxf tk rfl (.of_eq rfl) (b := (e_trouble_fault v5)) (enc98.flat _)) ?_
    refine wpo_mv (a := (eErr (Err.fault v5.op v5.at_ v5.code v5.under))) rfl rfl rfl (o_c tk false rfl (fun _ => rfl)) ?_
    refine wpo_mv (a := (eErr (Err.fault v5.op v5.at_ v5.code v5.under))) rfl rfl rfl (o_as tk rfl (Wk.refl _)) ?_
    refine wpo_nil ?_
    refine awp_ret ?_
    obtain rfl := Option.some.inj H4
    exact ⟨_, (eErr (Err.fault v5.op v5.at_ v5.code v5.under)), rfl, (.of_eq rfl), .of_eq (encErr.cut _ _ _), hH.noT⟩
end Go.Proofs.YtobbifgmjkgkfaaDoor
namespace Go.Proofs.YtobbifgmjkgkfaaDoor
open Go Go.Va
set_option linter.unusedVariables false
set_option linter.unusedSimpArgs false
set_option maxRecDepth 20000
theorem lists_New_ok {x0 : Int} {x1 : Int} {r : (Option lists_Lists) × Err} (H : lists_New x0 x1 = some r) (σ : St)  : ACall Tryd.prog 24 [(eI x0), (eI x1)] σ (fun a τ => NewB (fun f c => [[(.vec (f 1) 4 (c.nodes).length), (.vec (f 2) 1 (c.first_).length), (.vec (f 3) 1 (c.last_).length), (.vec (f 4) 1 (c.count).length), (eI c.free), (eI c.clock)], (cL e_lists_link c.nodes), (cL eI c.first_), (cL eI c.last_), (cL eI c.count)]) [eErr r.2] σ r.1 a τ) := by
  unfold lists_New at H
  refine ACall.newB 5 (fun f c => rfl) (by decide) (fun ρ κ => by simp only [cutL, encErr.cut ρ κ]) (fun c ρ κ f g h => by exact (.cons rfl (.cons (cut_vec (h 1 (by decide))) (.cons (cut_vec (h 2 (by decide))) (.cons (cut_vec (h 3 (by decide))) (.cons (cut_vec (h 4 (by decide))) (.cons (.of_eq ((enc_i64 td3 sz3).cut ρ κ _)) (.cons (.of_eq ((enc_i64 td3 sz3).cut ρ κ _)) .nil)))))) (.cons (by first | rfl | exact (cutL_spcl ρ κ _).trans (spcl_cL enc116 _)) (by rw [cut_cL enc116.cut ρ κ]; exact .refl _) (.cons (by first | rfl | exact (cutL_spcl ρ κ _).trans (spcl_cL (enc_i64 td3 sz3) _)) (by rw [cut_cL (enc_i64 td3 sz3).cut ρ κ]; exact .refl _) (.cons (by first | rfl | exact (cutL_spcl ρ κ _).trans (spcl_cL (enc_i64 td3 sz3) _)) (by rw [cut_cL (enc_i64 td3 sz3).cut ρ κ]; exact .refl _) (.cons (by first | rfl | exact (cutL_spcl ρ κ _).trans (spcl_cL (enc_i64 td3 sz3) _)) (by rw [cut_cL (enc_i64 td3 sz3).cut ρ κ]; exact .refl _) .nil)))))) (acall_start tk Tryd.func24 (by decide) rfl (Nat.le_of_ble_eq_true rfl) ?_)
  have hH := Holds.init σ
  refine awp_seq ?_
  refine awp_region rfl ?_
  refine wpo_mv (a := .nilp) rfl rfl rfl (o_as tk rfl (Wk.refl _)) ?_
  refine wpo_mv (a := (eErr Err.nil)) rfl rfl rfl (o_as tk rfl (Wk.refl _)) ?_
  refine wpo_nil ?_
  refine awp_seq ?_
  refine awp_seq ?_
  obtain ⟨s1, hs3, hj4⟩ := Option.bind_eq_some_iff.1 H
  refine awp_cutn (fun fr τ => WkF fr (fm [(0, (eI x0)), (1, (eI x1)), (14, (eB s1))]) ∧ Holds σ [] [] τ) ?_ ?_
  · rintro fr τ ⟨hfr, hH⟩
    have H10 := hj4
    refine AWP.fm [(0, (eI x0)), (1, (eI x1)), (14, (eB s1))] hfr ?_
    refine awp_if H10 rfl (fun H11 => ?_) (fun H11 => ?_)
    · refine awp_seq ?_
      refine awp_region rfl ?_
      refine wpo_mv (a := (eI x0)) rfl rfl rfl (o_mv tk rfl (Wk.refl _)) ?_
      refine wpo_bd H11 eErr rfl rfl rfl (fun v13 hv => OpP.of_call rfl rfl (.cons (.of_eq rfl) (.cons (.of_eq rfl) (.cons (.of_eq rfl) .nil))) (trouble_New_ok hv)) fun v13 hv13 H12 => ?_
      refine wpo_mv (a := .nilp) rfl rfl rfl (o_as tk rfl (Wk.refl _)) ?_
      refine wpo_mv (a := (eErr v13)) rfl rfl rfl (o_as tk rfl (Wk.refl _)) ?_
      refine wpo_nil ?_
      refine awp_ret ?_
      obtain rfl := Option.some.inj H12
      exact ⟨_, .tup [.nilp, (eErr v13)], rfl, .of_eq rfl, NewBE.none hH.noT⟩
    · refine awp_skip ?_
      refine awp_seq ?_
      refine awp_seq ?_
      obtain ⟨s14, hs16, hj17⟩ := Option.bind_eq_some_iff.1 H11
      refine awp_cutn (fun fr τ => WkF fr (fm [(0, (eI x0)), (1, (eI x1)), (22, (eB s14))]) ∧ Holds σ [] [] τ) ?_ ?_
      · rintro fr τ ⟨hfr, hH⟩
        have H23 := hj17
        refine AWP.fm [(0, (eI x0)), (1, (eI x1)), (22, (eB s14))] hfr ?_
        refine awp_if H23 rfl (fun H24 => ?_) (fun H24 => ?_)
        · refine awp_seq ?_
          refine awp_region rfl ?_
          refine wpo_mv (a := (eI x1)) rfl rfl rfl (o_mv tk rfl (Wk.refl _)) ?_
          refine wpo_bd H24 eErr rfl rfl rfl (fun v26 hv => OpP.of_call rfl rfl (.cons (.of_eq rfl) (.cons (.of_eq rfl) (.cons (.of_eq rfl) .nil))) (trouble_New_ok hv)) fun v26 hv26 H25 => ?_
          refine wpo_mv (a := .nilp) rfl rfl rfl (o_as tk rfl (Wk.refl _)) ?_
          refine wpo_mv (a := (eErr v26)) rfl rfl rfl (o_as tk rfl (Wk.refl _)) ?_
          refine wpo_nil ?_
          refine awp_ret ?_
          obtain rfl := Option.some.inj H25
          exact ⟨_, .tup [.nilp, (eErr v26)], rfl, .of_eq rfl, NewBE.none hH.noT⟩
        · refine awp_skip ?_
          refine awp_seq ?_
          obtain ⟨v28, hv29, H27⟩ := Option.bind_eq_some_iff.1 H24
          obtain ⟨v33, hv34, H32⟩ := Option.bind_eq_some_iff.1 H27
          obtain ⟨v38, hv39, H37⟩ := Option.bind_eq_some_iff.1 H32
          obtain ⟨v43, hv44, H42⟩ := Option.bind_eq_some_iff.1 H37
          refine awp_drawU mixed hH 8 [1, 3, 5, 7] [(.p, fun _ => (eI x1)), (.a (cL e_lists_link v28), fun b => .vec b 4 (v28).length), (.p, fun _ => (eI x0)), (.a (cL eI v33), fun b => .vec b 1 (v33).length), (.p, fun _ => (eI x0)), (.a (cL eI v38), fun b => .vec b 1 (v38).length), (.p, fun _ => (eI x0)), (.a (cL eI v43), fun b => .vec b 1 (v43).length)] [9] rfl rfl rfl (by decide +kernel) rfl rfl rfl (by decide +kernel) rfl ?_
          refine wpdU_mv rfl rfl (o_mv tk rfl (Wk.refl _)) ?_
          refine wpdU_a rfl rfl (fun σ1 O1 hH => (h_makeV tk hH hv29 td112 ty116 rfl rfl rfl rfl)) fun id30 n31 => ?_
          refine wpdU_mv rfl rfl (o_mv tk rfl (Wk.refl _)) ?_
          refine wpdU_a rfl rfl (fun σ1 O1 hH => (h_makeV tk hH hv34 td62 ty3 rfl rfl rfl rfl)) fun id35 n36 => ?_
          refine wpdU_mv rfl rfl (o_mv tk rfl (Wk.refl _)) ?_
          refine wpdU_a rfl rfl (fun σ1 O1 hH => (h_makeV tk hH hv39 td62 ty3 rfl rfl rfl rfl)) fun id40 n41 => ?_
          refine wpdU_mv rfl rfl (o_mv tk rfl (Wk.refl _)) ?_
          refine wpdU_a rfl rfl (fun σ1 O1 hH => (h_makeV tk hH hv44 td62 ty3 rfl rfl rfl rfl)) fun id45 n46 => ?_
          refine wpdU_nil fun τ hH => ?_
          have hH : Holds σ [(id45, (cL eI v43)), (id40, (cL eI v38)), (id35, (cL eI v33)), (id30, (cL e_lists_link v28))] [] τ := hH
          refine wpdS_mv (a := (.agg [(.vec id30 4 (v28).length), (.vec id35 1 (v33).length), (.vec id40 1 (v38).length), (.vec id45 1 (v43).length), (eI (⟨v28, v33, v38, v43, (0 : Int), (0 : Int)⟩ : lists_Lists).free), (eI (⟨v28, v33, v38, v43, (0 : Int), (0 : Int)⟩ : lists_Lists).clock)])) rfl rfl rfl (o_c tk false rfl (fun _ => rfl)) ?_
          refine wpdS_a (av := fun id => .ref id 0) rfl rfl rfl (h_box tk hH rfl (.of_eq rfl) (b := (.agg [(.vec id30 4 (v28).length), (.vec id35 1 (v33).length), (.vec id40 1 (v38).length), (.vec id45 1 (v43).length), (eI (⟨v28, v33, v38, v43, (0 : Int), (0 : Int)⟩ : lists_Lists).free), (eI (⟨v28, v33, v38, v43, (0 : Int), (0 : Int)⟩ : lists_Lists).clock)])) rfl [(.vec id30 4 (v28).length), (.vec id35 1 (v33).length), (.vec id40 1 (v38).length), (.vec id45 1 (v43).length), (eI (⟨v28, v33, v38, v43, (0 : Int), (0 : Int)⟩ : lists_Lists).free), (eI (⟨v28, v33, v38, v43, (0 : Int), (0 : Int)⟩ : lists_Lists).clock)] rfl) fun id47 τ ⟨hH, n48⟩ => ?_
          refine wpdS_mv (a := (.ref id47 0)) rfl rfl rfl (o_as tk rfl (Wk.refl _)) ?_
          refine wpdS_nil ?_
          refine awp_seq ?_
          refine awp_seq ?_
          refine awp_region rfl ?_
          refine wpo_mv (a := (.ref id47 0)) rfl rfl rfl (o_mv tk rfl (Wk.refl _)) ?_
          refine wpo_mv (a := (.ref id47 0)) rfl rfl rfl (o_c tk false rfl (fun _ => rfl)) ?_
          refine wpo_mv (a := (.ref id47 1)) rfl rfl rfl (o_c tk false rfl (fun _ => rfl)) ?_
          refine wpo_rd (a := (.vec id35 1 (v33).length)) rfl rfl rfl (h_ld tk hH 0 rfl rfl rfl) ?_
          refine wpo_lt H42 eI rfl rfl rfl (o_vlen tk td62 rfl) fun v50 H49 => ?_
          refine wpo_mv (a := (eI (0 : Int))) rfl rfl rfl (o_mv tk rfl (Wk.refl _)) ?_
          refine wpo_nil ?_
          refine awp_block ?_
          obtain ⟨s61, hs55, hj56⟩ := Option.bind_eq_some_iff.1 H49
          refine awp_cutx 0 (fun fr τ => WkF fr (fm [(1, (eI x1)), (6, (.ref id47 0))]) ∧ Holds σ [(id47, [(.vec id30 4 (v28).length), (.vec id35 1 (s61.2).length), (.vec id40 1 (s61.1).length), (.vec id45 1 (v43).length), (eI (⟨v28, v33, v38, v43, (0 : Int), (0 : Int)⟩ : lists_Lists).free), (eI (⟨v28, v33, v38, v43, (0 : Int), (0 : Int)⟩ : lists_Lists).clock)]), (id45, (cL eI v43)), (id40, (cL eI s61.1)), (id35, (cL eI s61.2)), (id30, (cL e_lists_link v28))] [] τ) ?_ ?_
          · rintro fr τ ⟨hfr, hH⟩
            have H78 := hj56
            refine AWP.fm [(1, (eI x1)), (6, (.ref id47 0))] hfr ?_
            refine awp_seq ?_
            refine awp_seq ?_
            refine awp_region rfl ?_
            refine wpo_mv (a := (.ref id47 0)) rfl rfl rfl (o_mv tk rfl (Wk.refl _)) ?_
            refine wpo_mv (a := (.ref id47 0)) rfl rfl rfl (o_c tk false rfl (fun _ => rfl)) ?_
            refine wpo_mv (a := (.ref id47 0)) rfl rfl rfl (o_c tk false rfl (fun _ => rfl)) ?_
            refine wpo_rd (a := (.vec id30 4 (v28).length)) rfl rfl rfl (h_ld tk hH 0 rfl rfl rfl) ?_
            refine wpo_lt H78 eI rfl rfl rfl (o_vlen tk td112 rfl) fun v80 H79 => ?_
            refine wpo_mv (a := (eI (0 : Int))) rfl rfl rfl (o_mv tk rfl (Wk.refl _)) ?_
            refine wpo_nil ?_
            refine awp_block ?_
            obtain ⟨s90, hs84, hj85⟩ := Option.bind_eq_some_iff.1 H79
            refine awp_cutx 2 (fun fr τ => WkF fr (fm [(1, (eI x1)), (6, (.ref id47 0))]) ∧ Holds σ [(id47, [(.vec id30 4 (s90).length), (.vec id35 1 (s61.2).length), (.vec id40 1 (s61.1).length), (.vec id45 1 (v43).length), (eI (⟨v28, v33, v38, v43, (0 : Int), (0 : Int)⟩ : lists_Lists).free), (eI (⟨v28, v33, v38, v43, (0 : Int), (0 : Int)⟩ : lists_Lists).clock)]), (id45, (cL eI v43)), (id40, (cL eI s61.1)), (id35, (cL eI s61.2)), (id30, (cL e_lists_link s90))] [] τ) ?_ ?_
            · rintro fr τ ⟨hfr, hH⟩
              have H106 := hj85
              refine AWP.fm [(1, (eI x1)), (6, (.ref id47 0))] hfr ?_
              refine awp_seq ?_
              refine awp_region rfl ?_
              refine wpo_mv (a := (.ref id47 0)) rfl rfl rfl (o_mv tk rfl (Wk.refl _)) ?_
              refine wpo_mv (a := (.ref id47 0)) rfl rfl rfl (o_c tk false rfl (fun _ => rfl)) ?_
              refine wpo_mv (a := (.ref id47 0)) rfl rfl rfl (o_c tk false rfl (fun _ => rfl)) ?_
              refine wpo_rd (a := (.vec id30 4 (s90).length)) rfl rfl rfl (h_ld tk hH 0 rfl rfl rfl) ?_
              refine wpo_mv (a := (eI x1)) rfl rfl rfl (o_mv tk rfl (Wk.refl _)) ?_
              refine wpo_lt H106 eI rfl rfl rfl (o_ar tk rfl rfl rfl) fun v108 H107 => ?_
              refine wpo_bd H107 (fun _ => .ref id30 (0 + (v108 : Int).toNat * 4 + 0)) rfl rfl rfl (fun v110 hv => o_vecx tk hv td112 sz116 (by decide) rfl rfl) fun v110 hv110 H109 => ?_
              refine wpo_mv (a := (.ref id30 (0 + (v108 : Int).toNat * 4 + 1))) rfl rfl rfl (o_c tk false rfl (fun _ => rfl)) ?_
              obtain ⟨c112, hc113, H111⟩ := Option.bind_eq_some_iff.1 H109
              refine wpo_z rfl rfl (h_stx tk hH 4 hc113 rfl enc116 ty3 (by simp) rfl rfl (.of_eq rfl) (b := (eI (-1 : Int))) rfl rfl (by decide) (fun _ => rfl)) fun τ hH => ?_
              refine wpo_nil ?_
              refine awp_seq ?_
              refine awp_region rfl ?_
              refine wpo_mv (a := (.ref id47 0)) rfl rfl rfl (o_mv tk rfl (Wk.refl _)) ?_
              refine wpo_mv (a := (.ref id47 0)) rfl rfl rfl (o_as tk rfl (Wk.refl _)) ?_
              refine wpo_mv (a := (eErr Err.nil)) rfl rfl rfl (o_as tk rfl (Wk.refl _)) ?_
              refine wpo_nil ?_
              refine awp_ret ?_
              have hH : Holds σ [(id47, [(.vec id30 4 (c112).length), (.vec id35 1 (s61.2).length), (.vec id40 1 (s61.1).length), (.vec id45 1 (v43).length), (eI (⟨v28, v33, v38, v43, (0 : Int), (0 : Int)⟩ : lists_Lists).free), (eI (⟨v28, v33, v38, v43, (0 : Int), (0 : Int)⟩ : lists_Lists).clock)]), (id45, (cL eI v43)), (id40, (cL eI s61.1)), (id35, (cL eI s61.2)), (id30, (cL e_lists_link c112))] [] _ := (Holds.cells hH 0 [(.vec id30 4 (c112).length), (.vec id35 1 (s61.2).length), (.vec id40 1 (s61.1).length), (.vec id45 1 (v43).length), (eI (⟨v28, v33, v38, v43, (0 : Int), (0 : Int)⟩ : lists_Lists).free), (eI (⟨v28, v33, v38, v43, (0 : Int), (0 : Int)⟩ : lists_Lists).clock)] rfl (by first | rfl | simp only [updA_len hc113]))
              obtain rfl := Option.some.inj H111
              refine ⟨_, .tup [.ref id47 0, (eErr Err.nil)], rfl, .of_eq rfl, NewBE.some (fun i => [id47, id30, id35, id40, id45].getD i 0) (by intro i hi; match i, hi with | 0, _ => exact n48 | 1, _ => exact n31 | 2, _ => exact n36 | 3, _ => exact n41 | 4, _ => exact n46 | k + 5, hi => exact absurd hi (by simp)) (hH.pick (by simp only [zipB, List.mem_cons, List.not_mem_nil, or_false]; rintro _ (rfl | rfl | rfl | rfl | rfl) <;> simp) ?_ (by simp only [List.mem_cons, List.not_mem_nil, or_false]; rintro _ (rfl | rfl | rfl | rfl | rfl) <;> first | exact .inl (by assumption) | exact .inr (by simp [zipB])) (fun t h => by cases h) .nil)⟩
              exact pw_zip (hH.pw [0, 4, 3, 2, 1] rfl (by decide))
            · refine awp_loopO (body := fun s => lists_New_b1 x1 v28 v33 v38 v43 s61 v80 s.1 s.2) hs84 (fun (s : Int × (List lists_link)) fr τ => WkF fr (fm [(1, (eI x1)), (6, (.ref id47 0)), (60, (eI v80)), (61, (eI s.1))]) ∧ Holds σ [(id47, [(.vec id30 4 (s.2).length), (.vec id35 1 (s61.2).length), (.vec id40 1 (s61.1).length), (.vec id45 1 (v43).length), (eI (⟨v28, v33, v38, v43, (0 : Int), (0 : Int)⟩ : lists_Lists).free), (eI (⟨v28, v33, v38, v43, (0 : Int), (0 : Int)⟩ : lists_Lists).clock)]), (id45, (cL eI v43)), (id40, (cL eI s61.1)), (id35, (cL eI s61.2)), (id30, (cL e_lists_link s.2))] [] τ) ⟨(wkf_cons (.of_eq rfl) (wkf_cons (.of_eq rfl) (wkf_cons (.of_eq rfl) (wkf_cons (.of_eq rfl) (wkf_nil _))))), hH⟩ ?_
              rintro ⟨c81, c82⟩ fr τ y86 ⟨hfr, hH⟩ hb88 hy89
              have H91 : lists_New_b1 x1 v28 v33 v38 v43 s61 v80 c81 c82 = some y86 := hb88
              unfold lists_New_b1 at H91
              refine AWP.fm [(1, (eI x1)), (6, (.ref id47 0)), (60, (eI v80)), (61, (eI c81))] hfr ?_
              have hH : Holds σ [(id47, [(.vec id30 4 (c82).length), (.vec id35 1 (s61.2).length), (.vec id40 1 (s61.1).length), (.vec id45 1 (v43).length), (eI (⟨v28, v33, v38, v43, (0 : Int), (0 : Int)⟩ : lists_Lists).free), (eI (⟨v28, v33, v38, v43, (0 : Int), (0 : Int)⟩ : lists_Lists).clock)]), (id45, (cL eI v43)), (id40, (cL eI s61.1)), (id35, (cL eI s61.2)), (id30, (cL e_lists_link c82))] [] τ := hH
              refine awp_seq ?_
              refine awp_region rfl ?_
              refine wpo_lt H91 eB rfl rfl rfl (o_ar tk rfl rfl rfl) fun v93 H92 => ?_
              refine wpo_nil ?_
              refine awp_seq ?_
              refine awp_if H92 rfl (fun H94 => ?_) (fun H94 => ?_)
              · refine awp_skip ?_
                refine awp_seq ?_
                refine awp_block ?_
                refine awp_seq ?_
                refine awp_region rfl ?_
                refine wpo_mv (a := (eI c81)) rfl rfl rfl (o_mv tk rfl (Wk.refl _)) ?_
                refine wpo_mv (a := (eI c81)) rfl rfl rfl (o_as tk rfl (Wk.refl _)) ?_
                refine wpo_nil ?_
                refine awp_region rfl ?_
                refine wpo_mv (a := (.ref id47 0)) rfl rfl rfl (o_mv tk rfl (Wk.refl _)) ?_
                refine wpo_mv (a := (.ref id47 0)) rfl rfl rfl (o_c tk false rfl (fun _ => rfl)) ?_
                refine wpo_mv (a := (.ref id47 0)) rfl rfl rfl (o_c tk false rfl (fun _ => rfl)) ?_
                refine wpo_rd (a := (.vec id30 4 (c82).length)) rfl rfl rfl (h_ld tk hH 0 rfl rfl rfl) ?_
                refine wpo_mv (a := (eI c81)) rfl rfl rfl (o_mv tk rfl (Wk.refl _)) ?_
                refine wpo_mv (a := (eI c81)) rfl rfl rfl (o_mv tk rfl (Wk.refl _)) ?_
                refine wpo_lt H94 eI rfl rfl rfl (o_ar tk rfl rfl rfl) fun v96 H95 => ?_
                refine wpo_lt H95 e_lists_link rfl rfl rfl (o_c tk false rfl (fun _ => rfl)) fun v98 H97 => ?_
                refine wpo_bd H97 (fun _ => .ref id30 (0 + (c81 : Int).toNat * 4 + 0)) rfl rfl rfl (fun v100 hv => o_vecx tk hv td112 sz116 (by decide) rfl rfl) fun v100 hv100 H99 => ?_
                obtain ⟨c102, hc103, H101⟩ := Option.bind_eq_some_iff.1 H99
                refine wpo_z rfl rfl (h_stx tk hH 4 hc103 rfl enc116 ty116 (by simp) rfl rfl (.of_eq rfl) (b := (e_lists_link v98)) (enc116.flat _) rfl (by decide) (fun _ => (repl_all (enc116.len _) (enc116.len _)))) fun τ hH => ?_
                refine wpo_nil ?_
                refine awp_region rfl ?_
                refine wpo_lt H101 eI rfl rfl rfl (o_ar tk rfl rfl rfl) fun v105 H104 => ?_
                refine wpo_mv (a := (eI v105)) rfl rfl rfl (o_mv tk rfl (Wk.refl _)) ?_
                refine wpo_nil ?_
                exact ⟨(v105, c102), inj_inl H104, (wkf_cons (.of_eq rfl) (wkf_cons (.of_eq rfl) (wkf_cons (.of_eq rfl) (wkf_cons (.of_eq rfl) (wkf_nil _))))), (Holds.cells hH 0 [(.vec id30 4 (c102).length), (.vec id35 1 (s61.2).length), (.vec id40 1 (s61.1).length), (.vec id45 1 (v43).length), (eI (⟨v28, v33, v38, v43, (0 : Int), (0 : Int)⟩ : lists_Lists).free), (eI (⟨v28, v33, v38, v43, (0 : Int), (0 : Int)⟩ : lists_Lists).clock)] rfl (by first | rfl | simp only [updA_len hc103]))⟩
              · refine awp_exit ?_
                have hz := hy89 _ (inj_inr H94)
                subst hz
                exact ⟨⟨_, inj_inr H94⟩, (wkf_cons (.of_eq rfl) (wkf_cons (.of_eq rfl) (wkf_nil _))), hH⟩
          · refine awp_loopO (body := fun s => lists_New_b0 x1 v28 v33 v38 v43 v50 s.1 s.2.1 s.2.2) hs55 (fun (s : Int × (List Int) × (List Int)) fr τ => WkF fr (fm [(1, (eI x1)), (6, (.ref id47 0)), (39, (eI v50)), (40, (eI s.1))]) ∧ Holds σ [(id47, [(.vec id30 4 (v28).length), (.vec id35 1 (s.2.2).length), (.vec id40 1 (s.2.1).length), (.vec id45 1 (v43).length), (eI (⟨v28, v33, v38, v43, (0 : Int), (0 : Int)⟩ : lists_Lists).free), (eI (⟨v28, v33, v38, v43, (0 : Int), (0 : Int)⟩ : lists_Lists).clock)]), (id45, (cL eI v43)), (id40, (cL eI s.2.1)), (id35, (cL eI s.2.2)), (id30, (cL e_lists_link v28))] [] τ) ⟨(wkf_cons (.of_eq rfl) (wkf_cons (.of_eq rfl) (wkf_cons (.of_eq rfl) (wkf_cons (.of_eq rfl) (wkf_nil _))))), hH⟩ ?_
            rintro ⟨c51, c52, c53⟩ fr τ y57 ⟨hfr, hH⟩ hb59 hy60
            have H62 : lists_New_b0 x1 v28 v33 v38 v43 v50 c51 c52 c53 = some y57 := hb59
            unfold lists_New_b0 at H62
            refine AWP.fm [(1, (eI x1)), (6, (.ref id47 0)), (39, (eI v50)), (40, (eI c51))] hfr ?_
            have hH : Holds σ [(id47, [(.vec id30 4 (v28).length), (.vec id35 1 (c53).length), (.vec id40 1 (c52).length), (.vec id45 1 (v43).length), (eI (⟨v28, v33, v38, v43, (0 : Int), (0 : Int)⟩ : lists_Lists).free), (eI (⟨v28, v33, v38, v43, (0 : Int), (0 : Int)⟩ : lists_Lists).clock)]), (id45, (cL eI v43)), (id40, (cL eI c52)), (id35, (cL eI c53)), (id30, (cL e_lists_link v28))] [] τ := hH
            refine awp_seq ?_
            refine awp_region rfl ?_
            refine wpo_lt H62 eB rfl rfl rfl (o_ar tk rfl rfl rfl) fun v64 H63 => ?_
            refine wpo_nil ?_
            refine awp_seq ?_
            refine awp_if H63 rfl (fun H65 => ?_) (fun H65 => ?_)
            · refine awp_skip ?_
              refine awp_seq ?_
              refine awp_block ?_
              refine awp_seq ?_
              refine awp_region rfl ?_
              refine wpo_mv (a := (eI c51)) rfl rfl rfl (o_mv tk rfl (Wk.refl _)) ?_
              refine wpo_mv (a := (eI c51)) rfl rfl rfl (o_as tk rfl (Wk.refl _)) ?_
              refine wpo_nil ?_
              refine awp_drawS mixed [11, 13] rfl (by decide +kernel) rfl rfl ?_
              refine wpdS_mv (a := (.ref id47 0)) rfl rfl rfl (o_mv tk rfl (Wk.refl _)) ?_
              refine wpdS_mv (a := (.ref id47 0)) rfl rfl rfl (o_c tk false rfl (fun _ => rfl)) ?_
              refine wpdS_mv (a := (.ref id47 1)) rfl rfl rfl (o_c tk false rfl (fun _ => rfl)) ?_
              refine wpdS_rd (a := (.vec id35 1 (c53).length)) rfl (by decide +kernel) rfl rfl (h_ld tk hH 0 rfl rfl rfl) ?_
              refine wpdS_mv (a := (eI c51)) rfl rfl rfl (o_mv tk rfl (Wk.refl _)) ?_
              refine wpdS_mv (a := (.ref id47 0)) rfl rfl rfl (o_mv tk rfl (Wk.refl _)) ?_
              refine wpdS_mv (a := (.ref id47 0)) rfl rfl rfl (o_c tk false rfl (fun _ => rfl)) ?_
              refine wpdS_mv (a := (.ref id47 2)) rfl rfl rfl (o_c tk false rfl (fun _ => rfl)) ?_
              refine wpdS_rd (a := (.vec id40 1 (c52).length)) rfl (by decide +kernel) rfl rfl (h_ld tk hH 0 rfl rfl rfl) ?_
              refine wpdS_mv (a := (eI c51)) rfl rfl rfl (o_mv tk rfl (Wk.refl _)) ?_
              refine wpdS_bd H65 (fun _ => .ref id35 (0 + (c51 : Int).toNat * 1 + 0)) rfl rfl rfl (fun v67 hv => o_vecx tk hv td62 sz3 (by decide) rfl rfl) fun v67 hv67 H66 => ?_
              obtain ⟨c69, hc70, H68⟩ := Option.bind_eq_some_iff.1 H66
              refine wpdS_z rfl rfl rfl (h_stx tk hH 3 hc70 rfl (enc_i64 td3 sz3) ty3 (by simp) rfl rfl (.of_eq rfl) (b := (eI (-1 : Int))) rfl rfl (by decide) (fun _ => rfl)) fun τ hH => ?_
              refine wpdS_bd H68 (fun _ => .ref id40 (0 + (c51 : Int).toNat * 1 + 0)) rfl rfl rfl (fun v72 hv => o_vecx tk hv td62 sz3 (by decide) rfl rfl) fun v72 hv72 H71 => ?_
              obtain ⟨c74, hc75, H73⟩ := Option.bind_eq_some_iff.1 H71
              refine wpdS_z rfl rfl rfl (h_stx tk hH 2 hc75 rfl (enc_i64 td3 sz3) ty3 (by simp) rfl rfl (.of_eq rfl) (b := (eI (-1 : Int))) rfl rfl (by decide) (fun _ => rfl)) fun τ hH => ?_
              refine wpdS_nil ?_
              refine awp_region rfl ?_
              refine wpo_lt H73 eI rfl rfl rfl (o_ar tk rfl rfl rfl) fun v77 H76 => ?_
              refine wpo_mv (a := (eI v77)) rfl rfl rfl (o_mv tk rfl (Wk.refl _)) ?_
              refine wpo_nil ?_
              exact ⟨(v77, c74, c69), inj_inl H76, (wkf_cons (.of_eq rfl) (wkf_cons (.of_eq rfl) (wkf_cons (.of_eq rfl) (wkf_cons (.of_eq rfl) (wkf_nil _))))), (Holds.cells hH 0 [(.vec id30 4 (v28).length), (.vec id35 1 (c69).length), (.vec id40 1 (c74).length), (.vec id45 1 (v43).length), (eI (⟨v28, v33, v38, v43, (0 : Int), (0 : Int)⟩ : lists_Lists).free), (eI (⟨v28, v33, v38, v43, (0 : Int), (0 : Int)⟩ : lists_Lists).clock)] rfl (by first | rfl | simp only [updA_len hc70, updA_len hc75]))⟩
            · refine awp_exit ?_
              have hz := hy60 _ (inj_inr H65)
              subst hz
              exact ⟨⟨_, inj_inr H65⟩, (wkf_cons (.of_eq rfl) (wkf_cons (.of_eq rfl) (wkf_nil _))), hH⟩
      · refine awp_region rfl ?_
        refine wpo_mv (a := (eI x1)) rfl rfl rfl (o_mv tk rfl (Wk.refl _)) ?_
        refine wpo_lt hs16 eB rfl rfl rfl (o_ar tk rfl rfl rfl) fun v19 H18 => ?_
        refine wpo_mv (a := (eB v19)) rfl rfl rfl (o_mv tk rfl (Wk.refl _)) ?_
        refine if_split H18 (fun hb H20 => ?_) (fun hb H20 => ?_)
        · subst hb
          refine wpo_skip rfl rfl rfl ?_
          refine wpo_skip rfl rfl rfl ?_
          refine wpo_mv (a := (eB true)) rfl rfl rfl (o_pick_t tk rfl rfl (Wk.refl _)) ?_
          refine wpo_nil ?_
          have e := Option.some.inj H20
          subst e
          exact ⟨(wkf_cons (.of_eq rfl) (wkf_cons (.of_eq rfl) (wkf_cons (.of_eq rfl) (wkf_nil _)))), hH⟩
        · subst hb
          refine wpo_mv (a := (eI x1)) rfl rfl rfl (o_mv tk rfl (Wk.refl _)) ?_
          refine wpo_lt H20 eB rfl rfl rfl (o_ar tk rfl rfl rfl) fun v22 H21 => ?_
          refine wpo_mv (a := (eB v22)) rfl rfl rfl (o_pick_f tk rfl rfl (Wk.refl _)) ?_
          refine wpo_nil ?_
          have e := Option.some.inj H21
          subst e
          exact ⟨(wkf_cons (.of_eq rfl) (wkf_cons (.of_eq rfl) (wkf_cons (.of_eq rfl) (wkf_nil _)))), hH⟩
  · refine awp_region rfl ?_
    refine wpo_mv (a := (eI x0)) rfl rfl rfl (o_mv tk rfl (Wk.refl _)) ?_
    refine wpo_lt hs3 eB rfl rfl rfl (o_ar tk rfl rfl rfl) fun v6 H5 => ?_
    refine wpo_mv (a := (eB v6)) rfl rfl rfl (o_mv tk rfl (Wk.refl _)) ?_
    refine if_split H5 (fun hb H7 => ?_) (fun hb H7 => ?_)
    · subst hb
      refine wpo_skip rfl rfl rfl ?_
      refine wpo_skip rfl rfl rfl ?_
      refine wpo_mv (a := (eB true)) rfl rfl rfl (o_pick_t tk rfl rfl (Wk.refl _)) ?_
      refine wpo_nil ?_
      have e := Option.some.inj H7
      subst e
      exact ⟨(wkf_cons (.of_eq rfl) (wkf_cons (.of_eq rfl) (wkf_cons (.of_eq rfl) (wkf_nil _)))), hH⟩
    · subst hb
      refine wpo_mv (a := (eI x0)) rfl rfl rfl (o_mv tk rfl (Wk.refl _)) ?_
      refine wpo_lt H7 eB rfl rfl rfl (o_ar tk rfl rfl rfl) fun v9 H8 => ?_
      refine wpo_mv (a := (eB v9)) rfl rfl rfl (o_pick_f tk rfl rfl (Wk.refl _)) ?_
      refine wpo_nil ?_
      have e := Option.some.inj H8
      subst e
      exact ⟨(wkf_cons (.of_eq rfl) (wkf_cons (.of_eq rfl) (wkf_cons (.of_eq rfl) (wkf_nil _)))), hH⟩
end Go.Proofs.YtobbifgmjkgkfaaDoor
namespace Go.Proofs.YtobbifgmjkgkfaaDoor
open Go Go.Va
set_option linter.unusedVariables false
set_option linter.unusedSimpArgs false
set_option maxRecDepth 20000
theorem lists_Lists_push_ok {x0 : lists_Lists} {x1 : Int} {x2 : Int} {r : lists_Lists} (H : lists_Lists_push x0 x1 x2 = some r) (σ : St) {p0 p0_nodes p0_first_ p0_last_ p0_count : Nat} (h0 : σ.objs[p0]? = some [(.vec p0_nodes 4 (x0.nodes).length), (.vec p0_first_ 1 (x0.first_).length), (.vec p0_last_ 1 (x0.last_).length), (.vec p0_count 1 (x0.count).length), (eI x0.free), (eI x0.clock)]) (h0_nodes : σ.objs[p0_nodes]? = some (cL e_lists_link x0.nodes)) (h0_first_ : σ.objs[p0_first_]? = some (cL eI x0.first_)) (h0_last_ : σ.objs[p0_last_]? = some (cL eI x0.last_)) (h0_count : σ.objs[p0_count]? = some (cL eI x0.count)) (hd : [p0, p0_nodes, p0_first_, p0_last_, p0_count].Pairwise fun a b => a ≠ b) : ACall Tryd.prog 64 [(.ref p0 0), (eI x1), (eI x2)] σ (fun a τ => a = .tup [] ∧ τ = σ.puts [(p0, [(.vec p0_nodes 4 (r.nodes).length), (.vec p0_first_ 1 (r.first_).length), (.vec p0_last_ 1 (r.last_).length), (.vec p0_count 1 (r.count).length), (eI r.free), (eI r.clock)]), (p0_nodes, (cL e_lists_link r.nodes)), (p0_first_, (cL eI r.first_)), (p0_last_, (cL eI r.last_)), (p0_count, (cL eI r.count))]) := by
  unfold lists_Lists_push at H
  refine ACall.outB [(p0, [(.vec p0_nodes 4 (r.nodes).length), (.vec p0_first_ 1 (r.first_).length), (.vec p0_last_ 1 (r.last_).length), (.vec p0_count 1 (r.count).length), (eI r.free), (eI r.clock)]), (p0_nodes, (cL e_lists_link r.nodes)), (p0_first_, (cL eI r.first_)), (p0_last_, (cL eI r.last_)), (p0_count, (cL eI r.count))] (by simp only [List.mem_cons, List.not_mem_nil, or_false]; rintro _ (rfl | rfl | rfl | rfl | rfl) <;> first | exact cut_cL enc116.cut _ _ _ | exact cut_cL (enc_i64 td3 sz3).cut _ _ _ | simp only [cutL, cut_vec_id (idl_get h0_nodes), cut_vec_id (idl_get h0_first_), cut_vec_id (idl_get h0_last_), cut_vec_id (idl_get h0_count), (enc_i64 td3 sz3).cut _ _]) (acall_start tk Tryd.func64 (by decide) rfl (Nat.le_of_ble_eq_true rfl) ?_)
  have hH := Holds.brings (σ := σ) [(p0, [(.vec p0_nodes 4 (x0.nodes).length), (.vec p0_first_ 1 (x0.first_).length), (.vec p0_last_ 1 (x0.last_).length), (.vec p0_count 1 (x0.count).length), (eI x0.free), (eI x0.clock)]), (p0_nodes, (cL e_lists_link x0.nodes)), (p0_first_, (cL eI x0.first_)), (p0_last_, (cL eI x0.last_)), (p0_count, (cL eI x0.count))] (by simp only [List.mem_cons, List.not_mem_nil, or_false]; rintro _ (rfl | rfl | rfl | rfl | rfl) <;> assumption) hd
  refine awp_seq ?_
  refine awp_region rfl ?_
  refine wpo_mv (a := (.ref p0 0)) rfl rfl rfl (o_mv tk rfl (Wk.refl _)) ?_
  refine wpo_mv (a := (.ref p0 0)) rfl rfl rfl (o_c tk false rfl (fun _ => rfl)) ?_
  refine wpo_mv (a := (.ref p0 5)) rfl rfl rfl (o_c tk false rfl (fun _ => rfl)) ?_
  refine wpo_rd (a := (eI x0.clock)) rfl rfl rfl (h_ld tk hH 0 rfl rfl rfl) ?_
  refine wpo_lt H eI rfl rfl rfl (o_ar tk rfl rfl rfl) fun v2 H1 => ?_
  refine wpo_mv (a := (.ref p0 0)) rfl rfl rfl (o_c tk false rfl (fun _ => rfl)) ?_
  refine wpo_mv (a := (.ref p0 5)) rfl rfl rfl (o_c tk false rfl (fun _ => rfl)) ?_
  refine wpo_z rfl rfl (h_st tk hH 0 rfl ty3 (by simp) rfl rfl (.of_eq rfl) (b := (eI v2)) rfl rfl (Nat.le_of_ble_eq_true rfl) [(.vec p0_nodes 4 (x0.nodes).length), (.vec p0_first_ 1 (x0.first_).length), (.vec p0_last_ 1 (x0.last_).length), (.vec p0_count 1 (x0.count).length), (eI ({ x0 with clock := v2 } : lists_Lists).free), (eI ({ x0 with clock := v2 } : lists_Lists).clock)] rfl) fun τ hH => ?_
  refine wpo_nil ?_
  refine awp_seq ?_
  refine awp_drawS mixed [19] rfl (by decide +kernel) rfl rfl ?_
  refine wpdS_mv (a := (.ref p0 0)) rfl rfl rfl (o_mv tk rfl (Wk.refl _)) ?_
  refine wpdS_mv (a := (.ref p0 0)) rfl rfl rfl (o_c tk false rfl (fun _ => rfl)) ?_
  refine wpdS_mv (a := (.ref p0 0)) rfl rfl rfl (o_c tk false rfl (fun _ => rfl)) ?_
  refine wpdS_rd (a := (.vec p0_nodes 4 (x0.nodes).length)) rfl (by decide +kernel) rfl rfl (h_ld tk hH 0 rfl rfl rfl) ?_
  refine wpdS_mv (a := (eI x1)) rfl rfl rfl (o_mv tk rfl (Wk.refl _)) ?_
  refine wpdS_mv (a := (.ref p0 0)) rfl rfl rfl (o_mv tk rfl (Wk.refl _)) ?_
  refine wpdS_mv (a := (.ref p0 0)) rfl rfl rfl (o_c tk false rfl (fun _ => rfl)) ?_
  refine wpdS_mv (a := (.ref p0 1)) rfl rfl rfl (o_c tk false rfl (fun _ => rfl)) ?_
  refine wpdS_rd (a := (.vec p0_first_ 1 (x0.first_).length)) rfl (by decide +kernel) rfl rfl (h_ld tk hH 0 rfl rfl rfl) ?_
  refine wpdS_mv (a := (eI x2)) rfl rfl rfl (o_mv tk rfl (Wk.refl _)) ?_
  refine wpdS_bd H1 (fun _ => .ref p0_first_ (0 + (x2 : Int).toNat * 1 + 0)) rfl rfl rfl (fun v5 hv => o_vecx tk hv td62 sz3 (by decide) rfl rfl) fun v5 hv5 H4 => ?_
  refine wpdS_bdr H4 (fun y => eI y) rfl (by decide +kernel) rfl rfl (fun v7 hv => h_ldx tk hH 2 hv rfl (enc_i64 td3 sz3) (acut_enc (enc_i64 td3 sz3) rfl _) (by decide) rfl) fun v7 hv7 H6 => ?_
  refine wpdS_mv (a := (eI x2)) rfl rfl rfl (o_mv tk rfl (Wk.refl _)) ?_
  refine wpdS_mv (a := (.ref p0 0)) rfl rfl rfl (o_mv tk rfl (Wk.refl _)) ?_
  refine wpdS_mv (a := (.ref p0 0)) rfl rfl rfl (o_c tk false rfl (fun _ => rfl)) ?_
  refine wpdS_mv (a := (.ref p0 5)) rfl rfl rfl (o_c tk false rfl (fun _ => rfl)) ?_
  refine wpdS_rd (a := (eI ({ x0 with clock := v2 } : lists_Lists).clock)) rfl (by decide +kernel) rfl rfl (h_ld tk hH 0 rfl rfl rfl) ?_
  refine wpdS_lt H6 e_lists_link rfl rfl rfl (o_c tk false rfl (fun _ => rfl)) fun v9 H8 => ?_
  refine wpdS_bd H8 (fun _ => .ref p0_nodes (0 + (x1 : Int).toNat * 4 + 0)) rfl rfl rfl (fun v11 hv => o_vecx tk hv td112 sz116 (by decide) rfl rfl) fun v11 hv11 H10 => ?_
  obtain ⟨c13, hc14, H12⟩ := Option.bind_eq_some_iff.1 H10
  refine wpdS_z rfl rfl rfl (h_stx tk hH 1 hc14 rfl enc116 ty116 (by simp) rfl rfl (.of_eq rfl) (b := (e_lists_link v9)) (enc116.flat _) rfl (by decide) (fun _ => (repl_all (enc116.len _) (enc116.len _)))) fun τ hH => ?_
  refine wpdS_nil ?_
  refine awp_seq ?_
  refine awp_seq ?_
  refine awp_region rfl ?_
  refine wpo_mv (a := (.ref p0 0)) rfl rfl rfl (o_mv tk rfl (Wk.refl _)) ?_
  refine wpo_mv (a := (.ref p0 0)) rfl rfl rfl (o_c tk false rfl (fun _ => rfl)) ?_
  refine wpo_mv (a := (.ref p0 1)) rfl rfl rfl (o_c tk false rfl (fun _ => rfl)) ?_
  refine wpo_rd (a := (.vec p0_first_ 1 (x0.first_).length)) rfl rfl rfl (h_ld tk hH 0 rfl rfl rfl) ?_
  refine wpo_mv (a := (eI x2)) rfl rfl rfl (o_mv tk rfl (Wk.refl _)) ?_
  refine wpo_bd H12 (fun _ => .ref p0_first_ (0 + (x2 : Int).toNat * 1 + 0)) rfl rfl rfl (fun v16 hv => o_vecx tk hv td62 sz3 (by decide) rfl rfl) fun v16 hv16 H15 => ?_
  refine wpo_bdr H15 (fun y => eI y) rfl rfl rfl (fun v18 hv => h_ldx tk hH 2 hv rfl (enc_i64 td3 sz3) (acut_enc (enc_i64 td3 sz3) rfl _) (by decide) rfl) fun v18 hv18 H17 => ?_
  refine wpo_lt H17 eB rfl rfl rfl (o_ar tk rfl rfl rfl) fun v20 H19 => ?_
  refine wpo_nil ?_
  have hH : Holds σ [(p0, [(.vec p0_nodes 4 (c13).length), (.vec p0_first_ 1 (x0.first_).length), (.vec p0_last_ 1 (x0.last_).length), (.vec p0_count 1 (x0.count).length), (eI ({ x0 with clock := v2 } : lists_Lists).free), (eI ({ x0 with clock := v2 } : lists_Lists).clock)]), (p0_nodes, (cL e_lists_link c13)), (p0_first_, (cL eI x0.first_)), (p0_last_, (cL eI x0.last_)), (p0_count, (cL eI x0.count))] [] _ := (Holds.cells hH 0 [(.vec p0_nodes 4 (c13).length), (.vec p0_first_ 1 (x0.first_).length), (.vec p0_last_ 1 (x0.last_).length), (.vec p0_count 1 (x0.count).length), (eI ({ x0 with clock := v2 } : lists_Lists).free), (eI ({ x0 with clock := v2 } : lists_Lists).clock)] rfl (by first | rfl | simp only [updA_len hc14]))
  obtain ⟨s21, hs23, hj24⟩ := Option.bind_eq_some_iff.1 H19
  refine awp_cutn (fun fr τ => WkF fr (fm [(0, (.ref p0 0)), (1, (eI x1)), (2, (eI x2))]) ∧ Holds σ [(p0, [(.vec p0_nodes 4 (s21.1).length), (.vec p0_first_ 1 (x0.first_).length), (.vec p0_last_ 1 (s21.2).length), (.vec p0_count 1 (x0.count).length), (eI ({ x0 with clock := v2 } : lists_Lists).free), (eI ({ x0 with clock := v2 } : lists_Lists).clock)]), (p0_nodes, (cL e_lists_link s21.1)), (p0_first_, (cL eI x0.first_)), (p0_last_, (cL eI s21.2)), (p0_count, (cL eI x0.count))] [] τ) ?_ ?_
  · rintro fr τ ⟨hfr, hH⟩
    have H40 := hj24
    refine AWP.fm [(0, (.ref p0 0)), (1, (eI x1)), (2, (eI x2))] hfr ?_
    refine awp_seq ?_
    refine awp_region rfl ?_
    refine wpo_mv (a := (.ref p0 0)) rfl rfl rfl (o_mv tk rfl (Wk.refl _)) ?_
    refine wpo_mv (a := (.ref p0 0)) rfl rfl rfl (o_c tk false rfl (fun _ => rfl)) ?_
    refine wpo_mv (a := (.ref p0 1)) rfl rfl rfl (o_c tk false rfl (fun _ => rfl)) ?_
    refine wpo_rd (a := (.vec p0_first_ 1 (x0.first_).length)) rfl rfl rfl (h_ld tk hH 0 rfl rfl rfl) ?_
    refine wpo_mv (a := (eI x2)) rfl rfl rfl (o_mv tk rfl (Wk.refl _)) ?_
    refine wpo_mv (a := (eI x1)) rfl rfl rfl (o_mv tk rfl (Wk.refl _)) ?_
    refine wpo_bd H40 (fun _ => .ref p0_first_ (0 + (x2 : Int).toNat * 1 + 0)) rfl rfl rfl (fun v42 hv => o_vecx tk hv td62 sz3 (by decide) rfl rfl) fun v42 hv42 H41 => ?_
    obtain ⟨c44, hc45, H43⟩ := Option.bind_eq_some_iff.1 H41
    refine wpo_z rfl rfl (h_stx tk hH 2 hc45 rfl (enc_i64 td3 sz3) ty3 (by simp) rfl rfl (.of_eq rfl) (b := (eI x1)) rfl rfl (by decide) (fun _ => rfl)) fun τ hH => ?_
    refine wpo_nil ?_
    refine awp_region rfl ?_
    refine wpo_mv (a := (.ref p0 0)) rfl rfl rfl (o_mv tk rfl (Wk.refl _)) ?_
    refine wpo_mv (a := (.ref p0 0)) rfl rfl rfl (o_c tk false rfl (fun _ => rfl)) ?_
    refine wpo_mv (a := (.ref p0 3)) rfl rfl rfl (o_c tk false rfl (fun _ => rfl)) ?_
    refine wpo_rd (a := (.vec p0_count 1 (x0.count).length)) rfl rfl rfl (h_ld tk hH 0 rfl rfl rfl) ?_
    refine wpo_mv (a := (eI x2)) rfl rfl rfl (o_mv tk rfl (Wk.refl _)) ?_
    refine wpo_bd H43 (fun _ => .ref p0_count (0 + (x2 : Int).toNat * 1 + 0)) rfl rfl rfl (fun v47 hv => o_vecx tk hv td62 sz3 (by decide) rfl rfl) fun v47 hv47 H46 => ?_
    refine wpo_bdr H46 (fun y => eI y) rfl rfl rfl (fun v49 hv => h_ldx tk hH 4 hv rfl (enc_i64 td3 sz3) (acut_enc (enc_i64 td3 sz3) rfl _) (by decide) rfl) fun v49 hv49 H48 => ?_
    refine wpo_lt H48 eI rfl rfl rfl (o_ar tk rfl rfl rfl) fun v51 H50 => ?_
    refine wpo_bd H50 (fun _ => .ref p0_count (0 + (x2 : Int).toNat * 1 + 0)) rfl rfl rfl (fun v53 hv => o_vecx tk hv td62 sz3 (by decide) rfl rfl) fun v53 hv53 H52 => ?_
    obtain ⟨c55, hc56, H54⟩ := Option.bind_eq_some_iff.1 H52
    refine wpo_z rfl rfl (h_stx tk hH 4 hc56 rfl (enc_i64 td3 sz3) ty3 (by simp) rfl rfl (.of_eq rfl) (b := (eI v51)) rfl rfl (by decide) (fun _ => rfl)) fun τ hH => ?_
    refine wpo_nil ?_
    have hH : Holds σ [(p0, [(.vec p0_nodes 4 (s21.1).length), (.vec p0_first_ 1 (c44).length), (.vec p0_last_ 1 (s21.2).length), (.vec p0_count 1 (c55).length), (eI ({ x0 with clock := v2 } : lists_Lists).free), (eI ({ x0 with clock := v2 } : lists_Lists).clock)]), (p0_nodes, (cL e_lists_link s21.1)), (p0_first_, (cL eI c44)), (p0_last_, (cL eI s21.2)), (p0_count, (cL eI c55))] [] _ := (Holds.cells hH 0 [(.vec p0_nodes 4 (s21.1).length), (.vec p0_first_ 1 (c44).length), (.vec p0_last_ 1 (s21.2).length), (.vec p0_count 1 (c55).length), (eI ({ x0 with clock := v2 } : lists_Lists).free), (eI ({ x0 with clock := v2 } : lists_Lists).clock)] rfl (by first | rfl | simp only [updA_len hc45, updA_len hc56]))
    obtain rfl := Option.some.inj H54
    exact ⟨_, (.tup []), rfl, (.of_eq rfl), .of_eq rfl, hH.noT⟩
  · refine awp_if hs23 rfl (fun H25 => ?_) (fun H25 => ?_)
    · refine awp_region rfl ?_
      refine wpo_mv (a := (.ref p0 0)) rfl rfl rfl (o_mv tk rfl (Wk.refl _)) ?_
      refine wpo_mv (a := (.ref p0 0)) rfl rfl rfl (o_c tk false rfl (fun _ => rfl)) ?_
      refine wpo_mv (a := (.ref p0 2)) rfl rfl rfl (o_c tk false rfl (fun _ => rfl)) ?_
      refine wpo_rd (a := (.vec p0_last_ 1 (x0.last_).length)) rfl rfl rfl (h_ld tk hH 0 rfl rfl rfl) ?_
      refine wpo_mv (a := (eI x2)) rfl rfl rfl (o_mv tk rfl (Wk.refl _)) ?_
      refine wpo_mv (a := (eI x1)) rfl rfl rfl (o_mv tk rfl (Wk.refl _)) ?_
      refine wpo_bd H25 (fun _ => .ref p0_last_ (0 + (x2 : Int).toNat * 1 + 0)) rfl rfl rfl (fun v27 hv => o_vecx tk hv td62 sz3 (by decide) rfl rfl) fun v27 hv27 H26 => ?_
      obtain ⟨c29, hc30, H28⟩ := Option.bind_eq_some_iff.1 H26
      refine wpo_z rfl rfl (h_stx tk hH 3 hc30 rfl (enc_i64 td3 sz3) ty3 (by simp) rfl rfl (.of_eq rfl) (b := (eI x1)) rfl rfl (by decide) (fun _ => rfl)) fun τ hH => ?_
      refine wpo_nil ?_
      have e := Option.some.inj H28
      subst e
      exact ⟨(wkf_cons (.of_eq rfl) (wkf_cons (.of_eq rfl) (wkf_cons (.of_eq rfl) (wkf_nil _)))), (Holds.cells hH 0 [(.vec p0_nodes 4 (c13).length), (.vec p0_first_ 1 (x0.first_).length), (.vec p0_last_ 1 (c29).length), (.vec p0_count 1 (x0.count).length), (eI ({ x0 with clock := v2 } : lists_Lists).free), (eI ({ x0 with clock := v2 } : lists_Lists).clock)] rfl (by first | rfl | simp only [updA_len hc30]))⟩
    · refine awp_drawS mixed [14] rfl (by decide +kernel) rfl rfl ?_
      refine wpdS_mv (a := (.ref p0 0)) rfl rfl rfl (o_mv tk rfl (Wk.refl _)) ?_
      refine wpdS_mv (a := (.ref p0 0)) rfl rfl rfl (o_c tk false rfl (fun _ => rfl)) ?_
      refine wpdS_mv (a := (.ref p0 0)) rfl rfl rfl (o_c tk false rfl (fun _ => rfl)) ?_
      refine wpdS_rd (a := (.vec p0_nodes 4 (c13).length)) rfl (by decide +kernel) rfl rfl (h_ld tk hH 0 rfl rfl rfl) ?_
      refine wpdS_mv (a := (.ref p0 0)) rfl rfl rfl (o_mv tk rfl (Wk.refl _)) ?_
      refine wpdS_mv (a := (.ref p0 0)) rfl rfl rfl (o_c tk false rfl (fun _ => rfl)) ?_
      refine wpdS_mv (a := (.ref p0 1)) rfl rfl rfl (o_c tk false rfl (fun _ => rfl)) ?_
      refine wpdS_rd (a := (.vec p0_first_ 1 (x0.first_).length)) rfl (by decide +kernel) rfl rfl (h_ld tk hH 0 rfl rfl rfl) ?_
      refine wpdS_mv (a := (eI x2)) rfl rfl rfl (o_mv tk rfl (Wk.refl _)) ?_
      refine wpdS_bd H25 (fun _ => .ref p0_first_ (0 + (x2 : Int).toNat * 1 + 0)) rfl rfl rfl (fun v32 hv => o_vecx tk hv td62 sz3 (by decide) rfl rfl) fun v32 hv32 H31 => ?_
      refine wpdS_bdr H31 (fun y => eI y) rfl (by decide +kernel) rfl rfl (fun v34 hv => h_ldx tk hH 2 hv rfl (enc_i64 td3 sz3) (acut_enc (enc_i64 td3 sz3) rfl _) (by decide) rfl) fun v34 hv34 H33 => ?_
      refine wpdS_mv (a := (eI x1)) rfl rfl rfl (o_mv tk rfl (Wk.refl _)) ?_
      refine wpdS_bd H33 (fun _ => .ref p0_nodes (0 + (v34 : Int).toNat * 4 + 0)) rfl rfl rfl (fun v36 hv => o_vecx tk hv td112 sz116 (by decide) rfl rfl) fun v36 hv36 H35 => ?_
      refine wpdS_mv (a := (.ref p0_nodes (0 + (v34 : Int).toNat * 4 + 0))) rfl rfl rfl (o_c tk false rfl (fun _ => rfl)) ?_
      obtain ⟨c38, hc39, H37⟩ := Option.bind_eq_some_iff.1 H35
      refine wpdS_z rfl rfl rfl (h_stx tk hH 1 hc39 rfl enc116 ty3 (by simp) rfl rfl (.of_eq rfl) (b := (eI x1)) rfl rfl (by decide) (fun _ => rfl)) fun τ hH => ?_
      refine wpdS_nil ?_
      have e := Option.some.inj H37
      subst e
      exact ⟨(wkf_cons (.of_eq rfl) (wkf_cons (.of_eq rfl) (wkf_cons (.of_eq rfl) (wkf_nil _)))), (Holds.cells hH 0 [(.vec p0_nodes 4 (c38).length), (.vec p0_first_ 1 (x0.first_).length), (.vec p0_last_ 1 (x0.last_).length), (.vec p0_count 1 (x0.count).length), (eI ({ x0 with clock := v2 } : lists_Lists).free), (eI ({ x0 with clock := v2 } : lists_Lists).clock)] rfl (by first | rfl | simp only [updA_len hc39]))⟩
end Go.Proofs.YtobbifgmjkgkfaaDoor
namespace Go.Proofs.YtobbifgmjkgkfaaDoor
open Go Go.Va
set_option linter.unusedVariables false
set_option linter.unusedSimpArgs false
set_option maxRecDepth 20000
theorem lists_Lists_Add_ok {x0 : lists_Lists} {x1 : Int} {r : Int × Err × lists_Lists} (H : lists_Lists_Add x0 x1 = some r) (σ : St) {p0 p0_nodes p0_first_ p0_last_ p0_count : Nat} (h0 : σ.objs[p0]? = some [(.vec p0_nodes 4 (x0.nodes).length), (.vec p0_first_ 1 (x0.first_).length), (.vec p0_last_ 1 (x0.last_).length), (.vec p0_count 1 (x0.count).length), (eI x0.free), (eI x0.clock)]) (h0_nodes : σ.objs[p0_nodes]? = some (cL e_lists_link x0.nodes)) (h0_first_ : σ.objs[p0_first_]? = some (cL eI x0.first_)) (h0_last_ : σ.objs[p0_last_]? = some (cL eI x0.last_)) (h0_count : σ.objs[p0_count]? = some (cL eI x0.count)) (hd : [p0, p0_nodes, p0_first_, p0_last_, p0_count].Pairwise fun a b => a ≠ b) : ACall Tryd.prog 28 [(.ref p0 0), (eI x1)] σ (fun a τ => a = .tup [eI r.1, eErr r.2.1] ∧ τ = σ.puts [(p0, [(.vec p0_nodes 4 (r.2.2.nodes).length), (.vec p0_first_ 1 (r.2.2.first_).length), (.vec p0_last_ 1 (r.2.2.last_).length), (.vec p0_count 1 (r.2.2.count).length), (eI r.2.2.free), (eI r.2.2.clock)]), (p0_nodes, (cL e_lists_link r.2.2.nodes)), (p0_first_, (cL eI r.2.2.first_)), (p0_last_, (cL eI r.2.2.last_)), (p0_count, (cL eI r.2.2.count))]) := by
  unfold lists_Lists_Add at H
  refine ACall.outB [(p0, [(.vec p0_nodes 4 (r.2.2.nodes).length), (.vec p0_first_ 1 (r.2.2.first_).length), (.vec p0_last_ 1 (r.2.2.last_).length), (.vec p0_count 1 (r.2.2.count).length), (eI r.2.2.free), (eI r.2.2.clock)]), (p0_nodes, (cL e_lists_link r.2.2.nodes)), (p0_first_, (cL eI r.2.2.first_)), (p0_last_, (cL eI r.2.2.last_)), (p0_count, (cL eI r.2.2.count))] (by simp only [List.mem_cons, List.not_mem_nil, or_false]; rintro _ (rfl | rfl | rfl | rfl | rfl) <;> first | exact cut_cL enc116.cut _ _ _ | exact cut_cL (enc_i64 td3 sz3).cut _ _ _ | simp only [cutL, cut_vec_id (idl_get h0_nodes), cut_vec_id (idl_get h0_first_), cut_vec_id (idl_get h0_last_), cut_vec_id (idl_get h0_count), (enc_i64 td3 sz3).cut _ _]) (acall_start tk Tryd.func28 (by decide) rfl (Nat.le_of_ble_eq_true rfl) ?_)
  have hH := Holds.brings (σ := σ) [(p0, [(.vec p0_nodes 4 (x0.nodes).length), (.vec p0_first_ 1 (x0.first_).length), (.vec p0_last_ 1 (x0.last_).length), (.vec p0_count 1 (x0.count).length), (eI x0.free), (eI x0.clock)]), (p0_nodes, (cL e_lists_link x0.nodes)), (p0_first_, (cL eI x0.first_)), (p0_last_, (cL eI x0.last_)), (p0_count, (cL eI x0.count))] (by simp only [List.mem_cons, List.not_mem_nil, or_false]; rintro _ (rfl | rfl | rfl | rfl | rfl) <;> assumption) hd
  refine awp_seq ?_
  refine awp_region rfl ?_
  refine wpo_mv (a := (eI (0 : Int))) rfl rfl rfl (o_as tk rfl (Wk.refl _)) ?_
  refine wpo_mv (a := (eErr Err.nil)) rfl rfl rfl (o_as tk rfl (Wk.refl _)) ?_
  refine wpo_nil ?_
  refine awp_seq ?_
  refine awp_block ?_
  refine awp_seq ?_
  obtain ⟨s1, hs3, hj4⟩ := Option.bind_eq_some_iff.1 H
  refine awp_cutn (fun fr τ => WkF fr (fm [(0, (.ref p0 0)), (1, (eI x1)), (7, (eB s1))]) ∧ Holds σ [(p0, [(.vec p0_nodes 4 (x0.nodes).length), (.vec p0_first_ 1 (x0.first_).length), (.vec p0_last_ 1 (x0.last_).length), (.vec p0_count 1 (x0.count).length), (eI x0.free), (eI x0.clock)]), (p0_nodes, (cL e_lists_link x0.nodes)), (p0_first_, (cL eI x0.first_)), (p0_last_, (cL eI x0.last_)), (p0_count, (cL eI x0.count))] [] τ) ?_ ?_
  · rintro fr τ ⟨hfr, hH⟩
    have H12 := hj4
    refine AWP.fm [(0, (.ref p0 0)), (1, (eI x1)), (7, (eB s1))] hfr ?_
    refine awp_if H12 rfl (fun H13 => ?_) (fun H13 => ?_)
    · refine awp_seq ?_
      refine awp_region rfl ?_
      refine wpo_mv (a := (eI x1)) rfl rfl rfl (o_mv tk rfl (Wk.refl _)) ?_
      refine wpo_bd H13 eErr rfl rfl rfl (fun v15 hv => OpP.of_call rfl rfl (.cons (.of_eq rfl) (.cons (.of_eq rfl) (.cons (.of_eq rfl) .nil))) (trouble_New_ok hv)) fun v15 hv15 H14 => ?_
      refine wpo_mv (a := (eI (-1 : Int))) rfl rfl rfl (o_as tk rfl (Wk.refl _)) ?_
      refine wpo_mv (a := (eErr v15)) rfl rfl rfl (o_as tk rfl (Wk.refl _)) ?_
      refine wpo_nil ?_
      refine awp_ret ?_
      obtain rfl := Option.some.inj H14
      exact ⟨_, (.tup [(eI (-1 : Int)), (eErr v15)]), rfl, (wk_tup (.cons (.of_eq rfl) (.cons (.of_eq rfl) .nil))), .of_eq (by simp only [cutAV, cutL, (enc_i64 td3 sz3).cut _ _ _, encErr.cut _ _ _]), hH.noT⟩
    · refine awp_seq ?_
      refine awp_region rfl ?_
      refine wpo_mv (a := (.ref p0 0)) rfl rfl rfl (o_mv tk rfl (Wk.refl _)) ?_
      refine wpo_mv (a := (.ref p0 0)) rfl rfl rfl (o_c tk false rfl (fun _ => rfl)) ?_
      refine wpo_mv (a := (.ref p0 4)) rfl rfl rfl (o_c tk false rfl (fun _ => rfl)) ?_
      refine wpo_rd (a := (eI x0.free)) rfl rfl rfl (h_ld tk hH 0 rfl rfl rfl) ?_
      refine wpo_lt H13 eB rfl rfl rfl (o_ar tk rfl rfl rfl) fun v17 H16 => ?_
      refine wpo_mv (a := (eB v17)) rfl rfl rfl (o_as tk rfl (Wk.refl _)) ?_
      refine wpo_nil ?_
      refine awp_if H16 rfl (fun H18 => ?_) (fun H18 => ?_)
      · refine awp_seq ?_
        refine awp_region rfl ?_
        refine wpo_mv (a := (eI x1)) rfl rfl rfl (o_mv tk rfl (Wk.refl _)) ?_
        refine wpo_bd H18 eErr rfl rfl rfl (fun v20 hv => OpP.of_call rfl rfl (.cons (.of_eq rfl) (.cons (.of_eq rfl) (.cons (.of_eq rfl) .nil))) (trouble_New_ok hv)) fun v20 hv20 H19 => ?_
        refine wpo_mv (a := (eI (-1 : Int))) rfl rfl rfl (o_as tk rfl (Wk.refl _)) ?_
        refine wpo_mv (a := (eErr v20)) rfl rfl rfl (o_as tk rfl (Wk.refl _)) ?_
        refine wpo_nil ?_
        refine awp_ret ?_
        obtain rfl := Option.some.inj H19
        exact ⟨_, (.tup [(eI (-1 : Int)), (eErr v20)]), rfl, (wk_tup (.cons (.of_eq rfl) (.cons (.of_eq rfl) .nil))), .of_eq (by simp only [cutAV, cutL, (enc_i64 td3 sz3).cut _ _ _, encErr.cut _ _ _]), hH.noT⟩
      · refine awp_skip ?_
        refine awp_seq ?_
        refine awp_region rfl ?_
        refine wpo_mv (a := (.ref p0 0)) rfl rfl rfl (o_mv tk rfl (Wk.refl _)) ?_
        refine wpo_mv (a := (.ref p0 0)) rfl rfl rfl (o_c tk false rfl (fun _ => rfl)) ?_
        refine wpo_mv (a := (.ref p0 4)) rfl rfl rfl (o_c tk false rfl (fun _ => rfl)) ?_
        refine wpo_rd (a := (eI x0.free)) rfl rfl rfl (h_ld tk hH 0 rfl rfl rfl) ?_
        refine wpo_mv (a := (eI x0.free)) rfl rfl rfl (o_as tk rfl (Wk.refl _)) ?_
        refine wpo_nil ?_
        refine awp_seq ?_
        refine awp_region rfl ?_
        refine wpo_mv (a := (.ref p0 0)) rfl rfl rfl (o_mv tk rfl (Wk.refl _)) ?_
        refine wpo_mv (a := (.ref p0 0)) rfl rfl rfl (o_mv tk rfl (Wk.refl _)) ?_
        refine wpo_mv (a := (.ref p0 0)) rfl rfl rfl (o_c tk false rfl (fun _ => rfl)) ?_
        refine wpo_mv (a := (.ref p0 0)) rfl rfl rfl (o_c tk false rfl (fun _ => rfl)) ?_
        refine wpo_rd (a := (.vec p0_nodes 4 (x0.nodes).length)) rfl rfl rfl (h_ld tk hH 0 rfl rfl rfl) ?_
        refine wpo_mv (a := (eI x0.free)) rfl rfl rfl (o_mv tk rfl (Wk.refl _)) ?_
        refine wpo_bd H18 (fun _ => .ref p0_nodes (0 + (x0.free : Int).toNat * 4 + 0)) rfl rfl rfl (fun v22 hv => o_vecx tk hv td112 sz116 (by decide) rfl rfl) fun v22 hv22 H21 => ?_
        refine wpo_mv (a := (.ref p0_nodes (0 + (x0.free : Int).toNat * 4 + 1))) rfl rfl rfl (o_c tk false rfl (fun _ => rfl)) ?_
        refine wpo_bdr H21 (fun y => eI y.behind) rfl rfl rfl (fun v24 hv => h_ldx tk hH 1 hv rfl enc116 rfl (by decide) rfl) fun v24 hv24 H23 => ?_
        refine wpo_mv (a := (.ref p0 0)) rfl rfl rfl (o_c tk false rfl (fun _ => rfl)) ?_
        refine wpo_mv (a := (.ref p0 4)) rfl rfl rfl (o_c tk false rfl (fun _ => rfl)) ?_
        refine wpo_z rfl rfl (h_st tk hH 0 rfl ty3 (by simp) rfl rfl (.of_eq rfl) (b := (eI v24.behind)) rfl rfl (Nat.le_of_ble_eq_true rfl) [(.vec p0_nodes 4 (x0.nodes).length), (.vec p0_first_ 1 (x0.first_).length), (.vec p0_last_ 1 (x0.last_).length), (.vec p0_count 1 (x0.count).length), (eI ({ x0 with free := v24.behind } : lists_Lists).free), (eI ({ x0 with free := v24.behind } : lists_Lists).clock)] rfl) fun τ hH => ?_
        refine wpo_nil ?_
        refine awp_seq ?_
        refine awp_region rfl ?_
        refine wpo_mv (a := (.ref p0 0)) rfl rfl rfl (o_mv tk rfl (Wk.refl _)) ?_
        refine wpo_mv (a := (eI x0.free)) rfl rfl rfl (o_mv tk rfl (Wk.refl _)) ?_
        refine wpo_mv (a := (eI x1)) rfl rfl rfl (o_mv tk rfl (Wk.refl _)) ?_
        refine wpo_cb H23 (fun x _ => .tup []) rfl rfl rfl (fun v27 hv => h_call1 hH [(0, (p0, [(.vec p0_nodes 4 (v27.nodes).length), (.vec p0_first_ 1 (v27.first_).length), (.vec p0_last_ 1 (v27.last_).length), (.vec p0_count 1 (v27.count).length), (eI v27.free), (eI v27.clock)])), (1, (p0_nodes, (cL e_lists_link v27.nodes))), (2, (p0_first_, (cL eI v27.first_))), (3, (p0_last_, (cL eI v27.last_))), (4, (p0_count, (cL eI v27.count)))] ⟨⟨_, rfl⟩, ⟨⟨_, rfl⟩, ⟨⟨_, rfl⟩, ⟨⟨_, rfl⟩, ⟨⟨_, rfl⟩, trivial⟩⟩⟩⟩⟩ rfl rfl (.cons (.of_eq rfl) (.cons (.of_eq rfl) (.cons (.of_eq rfl) .nil))) (lists_Lists_push_ok hv _ (hH.at_ 0 rfl) (hH.at_ 1 rfl) (hH.at_ 2 rfl) (hH.at_ 3 rfl) (hH.at_ 4 rfl) (hH.pw [0, 1, 2, 3, 4] rfl (by decide)))) fun v27 _ τ hv27 H26 (hH : Holds σ [(p0, [(.vec p0_nodes 4 (v27.nodes).length), (.vec p0_first_ 1 (v27.first_).length), (.vec p0_last_ 1 (v27.last_).length), (.vec p0_count 1 (v27.count).length), (eI v27.free), (eI v27.clock)]), (p0_nodes, (cL e_lists_link v27.nodes)), (p0_first_, (cL eI v27.first_)), (p0_last_, (cL eI v27.last_)), (p0_count, (cL eI v27.count))] [] τ) => ?_
        refine wpo_nil ?_
        refine awp_seq ?_
        refine awp_region rfl ?_
        refine wpo_mv (a := (eI x0.free)) rfl rfl rfl (o_mv tk rfl (Wk.refl _)) ?_
        refine wpo_mv (a := (eI x0.free)) rfl rfl rfl (o_as tk rfl (Wk.refl _)) ?_
        refine wpo_mv (a := (eErr Err.nil)) rfl rfl rfl (o_as tk rfl (Wk.refl _)) ?_
        refine wpo_nil ?_
        refine awp_ret ?_
        obtain rfl := Option.some.inj H26
        exact ⟨_, (.tup [(eI x0.free), (eErr Err.nil)]), rfl, (wk_tup (.cons (.of_eq rfl) (.cons (.of_eq rfl) .nil))), .of_eq (by simp only [cutAV, cutL, (enc_i64 td3 sz3).cut _ _ _, encErr.cut _ _ _]), hH.noT⟩
  · refine awp_region rfl ?_
    refine wpo_mv (a := (eI x1)) rfl rfl rfl (o_mv tk rfl (Wk.refl _)) ?_
    refine wpo_lt hs3 eB rfl rfl rfl (o_ar tk rfl rfl rfl) fun v6 H5 => ?_
    refine wpo_mv (a := (eB v6)) rfl rfl rfl (o_mv tk rfl (Wk.refl _)) ?_
    refine if_split H5 (fun hb H7 => ?_) (fun hb H7 => ?_)
    · subst hb
      refine wpo_skip rfl rfl rfl ?_
      refine wpo_skip rfl rfl rfl ?_
      refine wpo_skip rfl rfl rfl ?_
      refine wpo_skip rfl rfl rfl ?_
      refine wpo_skip rfl rfl rfl ?_
      refine wpo_skip rfl rfl rfl ?_
      refine wpo_skip rfl rfl rfl ?_
      refine wpo_mv (a := (eB true)) rfl rfl rfl (o_pick_t tk rfl rfl (Wk.refl _)) ?_
      refine wpo_mv (a := (eB true)) rfl rfl rfl (o_as tk rfl (Wk.refl _)) ?_
      refine wpo_nil ?_
      have e := Option.some.inj H7
      subst e
      exact ⟨(wkf_cons (.of_eq rfl) (wkf_cons (.of_eq rfl) (wkf_cons (.of_eq rfl) (wkf_nil _)))), hH⟩
    · subst hb
      refine wpo_mv (a := (eI x1)) rfl rfl rfl (o_mv tk rfl (Wk.refl _)) ?_
      refine wpo_mv (a := (.ref p0 0)) rfl rfl rfl (o_mv tk rfl (Wk.refl _)) ?_
      refine wpo_mv (a := (.ref p0 0)) rfl rfl rfl (o_c tk false rfl (fun _ => rfl)) ?_
      refine wpo_mv (a := (.ref p0 1)) rfl rfl rfl (o_c tk false rfl (fun _ => rfl)) ?_
      refine wpo_rd (a := (.vec p0_first_ 1 (x0.first_).length)) rfl rfl rfl (h_ld tk hH 0 rfl rfl rfl) ?_
      refine wpo_lt H7 eI rfl rfl rfl (o_vlen tk td62 rfl) fun v9 H8 => ?_
      refine wpo_lt H8 eB rfl rfl rfl (o_ar tk rfl rfl rfl) fun v11 H10 => ?_
      refine wpo_mv (a := (eB v11)) rfl rfl rfl (o_pick_f tk rfl rfl (Wk.refl _)) ?_
      refine wpo_mv (a := (eB v11)) rfl rfl rfl (o_as tk rfl (Wk.refl _)) ?_
      refine wpo_nil ?_
      have e := Option.some.inj H10
      subst e
      exact ⟨(wkf_cons (.of_eq rfl) (wkf_cons (.of_eq rfl) (wkf_cons (.of_eq rfl) (wkf_nil _)))), hH⟩
end Go.Proofs.YtobbifgmjkgkfaaDoor
namespace Go.Proofs.YtobbifgmjkgkfaaDoor
open Go Go.Va
set_option linter.unusedVariables false
set_option linter.unusedSimpArgs false
set_option maxRecDepth 20000
theorem lists_Lists_at_ok {x0 : lists_Lists} {x1 : List (BitVec 8)} {x2 : Int} {r : Err} (H : lists_Lists_at x0 x1 x2 = some r) (σ : St) {p0 p0_nodes p0_first_ p0_last_ p0_count : Nat} (h0 : σ.objs[p0]? = some [(.vec p0_nodes 4 (x0.nodes).length), (.vec p0_first_ 1 (x0.first_).length), (.vec p0_last_ 1 (x0.last_).length), (.vec p0_count 1 (x0.count).length), (eI x0.free), (eI x0.clock)]) (h0_nodes : σ.objs[p0_nodes]? = some (cL e_lists_link x0.nodes)) (h0_first_ : σ.objs[p0_first_]? = some (cL eI x0.first_)) (h0_last_ : σ.objs[p0_last_]? = some (cL eI x0.last_)) (h0_count : σ.objs[p0_count]? = some (cL eI x0.count)) (hd : [p0, p0_nodes, p0_first_, p0_last_, p0_count].Pairwise fun a b => a ≠ b) : ACall Tryd.prog 65 [(.ref p0 0), (eS x1), (eI x2)] σ (fun a τ => a = eErr r ∧ τ = σ) := by
  unfold lists_Lists_at at H
  refine ACall.pure (acall_start tk Tryd.func65 (by decide) rfl (Nat.le_of_ble_eq_true rfl) ?_)
  have hH := Holds.brings (σ := σ) [(p0, [(.vec p0_nodes 4 (x0.nodes).length), (.vec p0_first_ 1 (x0.first_).length), (.vec p0_last_ 1 (x0.last_).length), (.vec p0_count 1 (x0.count).length), (eI x0.free), (eI x0.clock)]), (p0_nodes, (cL e_lists_link x0.nodes)), (p0_first_, (cL eI x0.first_)), (p0_last_, (cL eI x0.last_)), (p0_count, (cL eI x0.count))] (by simp only [List.mem_cons, List.not_mem_nil, or_false]; rintro _ (rfl | rfl | rfl | rfl | rfl) <;> assumption) hd
  refine awp_seq ?_
  refine awp_region rfl ?_
  refine wpo_mv (a := (eErr Err.nil)) rfl rfl rfl (o_as tk rfl (Wk.refl _)) ?_
  refine wpo_nil ?_
  refine awp_seq ?_
  refine awp_block ?_
  refine awp_seq ?_
  obtain ⟨s1, hs3, hj4⟩ := Option.bind_eq_some_iff.1 H
  refine awp_cutn (fun fr τ => WkF fr (fm [(0, (.ref p0 0)), (1, (eS x1)), (2, (eI x2)), (7, (eB s1))]) ∧ Holds σ [(p0, [(.vec p0_nodes 4 (x0.nodes).length), (.vec p0_first_ 1 (x0.first_).length), (.vec p0_last_ 1 (x0.last_).length), (.vec p0_count 1 (x0.count).length), (eI x0.free), (eI x0.clock)]), (p0_nodes, (cL e_lists_link x0.nodes)), (p0_first_, (cL eI x0.first_)), (p0_last_, (cL eI x0.last_)), (p0_count, (cL eI x0.count))] [] τ) ?_ ?_
  · rintro fr τ ⟨hfr, hH⟩
    have H12 := hj4
    refine AWP.fm [(0, (.ref p0 0)), (1, (eS x1)), (2, (eI x2)), (7, (eB s1))] hfr ?_
    refine awp_if H12 rfl (fun H13 => ?_) (fun H13 => ?_)
    · refine awp_seq ?_
      refine awp_region rfl ?_
      refine wpo_mv (a := (eS x1)) rfl rfl rfl (o_mv tk rfl (Wk.refl _)) ?_
      refine wpo_mv (a := (eI x2)) rfl rfl rfl (o_mv tk rfl (Wk.refl _)) ?_
      refine wpo_bd H13 eErr rfl rfl rfl (fun v15 hv => OpP.of_call rfl rfl (.cons (.of_eq rfl) (.cons (.of_eq rfl) (.cons (.of_eq rfl) .nil))) (trouble_New_ok hv)) fun v15 hv15 H14 => ?_
      refine wpo_mv (a := (eErr v15)) rfl rfl rfl (o_as tk rfl (Wk.refl _)) ?_
      refine wpo_nil ?_
      refine awp_ret ?_
      obtain rfl := Option.some.inj H14
      exact ⟨_, (eErr v15), rfl, (.of_eq rfl), .of_eq (encErr.cut _ _ _), (((((hH.noT.unbring h0).unbring h0_nodes).unbring h0_first_).unbring h0_last_).unbring h0_count)⟩
    · refine awp_seq ?_
      refine awp_region rfl ?_
      refine wpo_mv (a := (.ref p0 0)) rfl rfl rfl (o_mv tk rfl (Wk.refl _)) ?_
      refine wpo_mv (a := (.ref p0 0)) rfl rfl rfl (o_c tk false rfl (fun _ => rfl)) ?_
      refine wpo_mv (a := (.ref p0 0)) rfl rfl rfl (o_c tk false rfl (fun _ => rfl)) ?_
      refine wpo_rd (a := (.vec p0_nodes 4 (x0.nodes).length)) rfl rfl rfl (h_ld tk hH 0 rfl rfl rfl) ?_
      refine wpo_mv (a := (eI x2)) rfl rfl rfl (o_mv tk rfl (Wk.refl _)) ?_
      refine wpo_bd H13 (fun _ => .ref p0_nodes (0 + (x2 : Int).toNat * 4 + 0)) rfl rfl rfl (fun v17 hv => o_vecx tk hv td112 sz116 (by decide) rfl rfl) fun v17 hv17 H16 => ?_
      refine wpo_mv (a := (.ref p0_nodes (0 + (x2 : Int).toNat * 4 + 2))) rfl rfl rfl (o_c tk false rfl (fun _ => rfl)) ?_
      refine wpo_bdr H16 (fun y => eI y.list) rfl rfl rfl (fun v19 hv => h_ldx tk hH 1 hv rfl enc116 rfl (by decide) rfl) fun v19 hv19 H18 => ?_
      refine wpo_lt H18 eB rfl rfl rfl (o_ar tk rfl rfl rfl) fun v21 H20 => ?_
      refine wpo_mv (a := (eB v21)) rfl rfl rfl (o_as tk rfl (Wk.refl _)) ?_
      refine wpo_nil ?_
      refine awp_if H20 rfl (fun H22 => ?_) (fun H22 => ?_)
      · refine awp_seq ?_
        refine awp_region rfl ?_
        refine wpo_mv (a := (eS x1)) rfl rfl rfl (o_mv tk rfl (Wk.refl _)) ?_
        refine wpo_mv (a := (eI x2)) rfl rfl rfl (o_mv tk rfl (Wk.refl _)) ?_
        refine wpo_bd H22 eErr rfl rfl rfl (fun v24 hv => OpP.of_call rfl rfl (.cons (.of_eq rfl) (.cons (.of_eq rfl) (.cons (.of_eq rfl) .nil))) (trouble_New_ok hv)) fun v24 hv24 H23 => ?_
        refine wpo_mv (a := (eErr v24)) rfl rfl rfl (o_as tk rfl (Wk.refl _)) ?_
        refine wpo_nil ?_
        refine awp_ret ?_
        obtain rfl := Option.some.inj H23
        exact ⟨_, (eErr v24), rfl, (.of_eq rfl), .of_eq (encErr.cut _ _ _), (((((hH.noT.unbring h0).unbring h0_nodes).unbring h0_first_).unbring h0_last_).unbring h0_count)⟩
      · refine awp_skip ?_
        refine awp_seq ?_
        refine awp_region rfl ?_
        refine wpo_mv (a := (eErr Err.nil)) rfl rfl rfl (o_as tk rfl (Wk.refl _)) ?_
        refine wpo_nil ?_
        refine awp_ret ?_
        obtain rfl := Option.some.inj H22
        exact ⟨_, (eErr Err.nil), rfl, (.of_eq rfl), .of_eq (encErr.cut _ _ _), (((((hH.noT.unbring h0).unbring h0_nodes).unbring h0_first_).unbring h0_last_).unbring h0_count)⟩
  · refine awp_region rfl ?_
    refine wpo_mv (a := (eI x2)) rfl rfl rfl (o_mv tk rfl (Wk.refl _)) ?_
    refine wpo_lt hs3 eB rfl rfl rfl (o_ar tk rfl rfl rfl) fun v6 H5 => ?_
    refine wpo_mv (a := (eB v6)) rfl rfl rfl (o_mv tk rfl (Wk.refl _)) ?_
    refine if_split H5 (fun hb H7 => ?_) (fun hb H7 => ?_)
    · subst hb
      refine wpo_skip rfl rfl rfl ?_
      refine wpo_skip rfl rfl rfl ?_
      refine wpo_skip rfl rfl rfl ?_
      refine wpo_skip rfl rfl rfl ?_
      refine wpo_skip rfl rfl rfl ?_
      refine wpo_skip rfl rfl rfl ?_
      refine wpo_skip rfl rfl rfl ?_
      refine wpo_mv (a := (eB true)) rfl rfl rfl (o_pick_t tk rfl rfl (Wk.refl _)) ?_
      refine wpo_mv (a := (eB true)) rfl rfl rfl (o_as tk rfl (Wk.refl _)) ?_
      refine wpo_nil ?_
      have e := Option.some.inj H7
      subst e
      exact ⟨(wkf_cons (.of_eq rfl) (wkf_cons (.of_eq rfl) (wkf_cons (.of_eq rfl) (wkf_cons (.of_eq rfl) (wkf_nil _))))), hH⟩
    · subst hb
      refine wpo_mv (a := (eI x2)) rfl rfl rfl (o_mv tk rfl (Wk.refl _)) ?_
      refine wpo_mv (a := (.ref p0 0)) rfl rfl rfl (o_mv tk rfl (Wk.refl _)) ?_
      refine wpo_mv (a := (.ref p0 0)) rfl rfl rfl (o_c tk false rfl (fun _ => rfl)) ?_
      refine wpo_mv (a := (.ref p0 0)) rfl rfl rfl (o_c tk false rfl (fun _ => rfl)) ?_
      refine wpo_rd (a := (.vec p0_nodes 4 (x0.nodes).length)) rfl rfl rfl (h_ld tk hH 0 rfl rfl rfl) ?_
      refine wpo_lt H7 eI rfl rfl rfl (o_vlen tk td112 rfl) fun v9 H8 => ?_
      refine wpo_lt H8 eB rfl rfl rfl (o_ar tk rfl rfl rfl) fun v11 H10 => ?_
      refine wpo_mv (a := (eB v11)) rfl rfl rfl (o_pick_f tk rfl rfl (Wk.refl _)) ?_
      refine wpo_mv (a := (eB v11)) rfl rfl rfl (o_as tk rfl (Wk.refl _)) ?_
      refine wpo_nil ?_
      have e := Option.some.inj H10
      subst e
      exact ⟨(wkf_cons (.of_eq rfl) (wkf_cons (.of_eq rfl) (wkf_cons (.of_eq rfl) (wkf_cons (.of_eq rfl) (wkf_nil _))))), hH⟩
end Go.Proofs.YtobbifgmjkgkfaaDoor
namespace Go.Proofs.YtobbifgmjkgkfaaDoor
open Go Go.Va
set_option linter.unusedVariables false
set_option linter.unusedSimpArgs false
set_option maxRecDepth 20000
theorem lists_Lists_pull_ok {x0 : lists_Lists} {x1 : Int} {r : lists_Lists} (H : lists_Lists_pull x0 x1 = some r) (σ : St) {p0 p0_nodes p0_first_ p0_last_ p0_count : Nat} (h0 : σ.objs[p0]? = some [(.vec p0_nodes 4 (x0.nodes).length), (.vec p0_first_ 1 (x0.first_).length), (.vec p0_last_ 1 (x0.last_).length), (.vec p0_count 1 (x0.count).length), (eI x0.free), (eI x0.clock)]) (h0_nodes : σ.objs[p0_nodes]? = some (cL e_lists_link x0.nodes)) (h0_first_ : σ.objs[p0_first_]? = some (cL eI x0.first_)) (h0_last_ : σ.objs[p0_last_]? = some (cL eI x0.last_)) (h0_count : σ.objs[p0_count]? = some (cL eI x0.count)) (hd : [p0, p0_nodes, p0_first_, p0_last_, p0_count].Pairwise fun a b => a ≠ b) : ACall Tryd.prog 66 [(.ref p0 0), (eI x1)] σ (fun a τ => a = .tup [] ∧ τ = σ.puts [(p0, [(.vec p0_nodes 4 (r.nodes).length), (.vec p0_first_ 1 (r.first_).length), (.vec p0_last_ 1 (r.last_).length), (.vec p0_count 1 (r.count).length), (eI r.free), (eI r.clock)]), (p0_nodes, (cL e_lists_link r.nodes)), (p0_first_, (cL eI r.first_)), (p0_last_, (cL eI r.last_)), (p0_count, (cL eI r.count))]) := by
  unfold lists_Lists_pull at H
  refine ACall.outB [(p0, [(.vec p0_nodes 4 (r.nodes).length), (.vec p0_first_ 1 (r.first_).length), (.vec p0_last_ 1 (r.last_).length), (.vec p0_count 1 (r.count).length), (eI r.free), (eI r.clock)]), (p0_nodes, (cL e_lists_link r.nodes)), (p0_first_, (cL eI r.first_)), (p0_last_, (cL eI r.last_)), (p0_count, (cL eI r.count))] (by simp only [List.mem_cons, List.not_mem_nil, or_false]; rintro _ (rfl | rfl | rfl | rfl | rfl) <;> first | exact cut_cL enc116.cut _ _ _ | exact cut_cL (enc_i64 td3 sz3).cut _ _ _ | simp only [cutL, cut_vec_id (idl_get h0_nodes), cut_vec_id (idl_get h0_first_), cut_vec_id (idl_get h0_last_), cut_vec_id (idl_get h0_count), (enc_i64 td3 sz3).cut _ _]) (acall_start tk Tryd.func66 (by decide) rfl (Nat.le_of_ble_eq_true rfl) ?_)
  have hH := Holds.brings (σ := σ) [(p0, [(.vec p0_nodes 4 (x0.nodes).length), (.vec p0_first_ 1 (x0.first_).length), (.vec p0_last_ 1 (x0.last_).length), (.vec p0_count 1 (x0.count).length), (eI x0.free), (eI x0.clock)]), (p0_nodes, (cL e_lists_link x0.nodes)), (p0_first_, (cL eI x0.first_)), (p0_last_, (cL eI x0.last_)), (p0_count, (cL eI x0.count))] (by simp only [List.mem_cons, List.not_mem_nil, or_false]; rintro _ (rfl | rfl | rfl | rfl | rfl) <;> assumption) hd
  refine awp_seq ?_
  refine awp_region rfl ?_
  refine wpo_mv (a := (.ref p0 0)) rfl rfl rfl (o_mv tk rfl (Wk.refl _)) ?_
  refine wpo_mv (a := (.ref p0 0)) rfl rfl rfl (o_c tk false rfl (fun _ => rfl)) ?_
  refine wpo_mv (a := (.ref p0 0)) rfl rfl rfl (o_c tk false rfl (fun _ => rfl)) ?_
  refine wpo_rd (a := (.vec p0_nodes 4 (x0.nodes).length)) rfl rfl rfl (h_ld tk hH 0 rfl rfl rfl) ?_
  refine wpo_mv (a := (eI x1)) rfl rfl rfl (o_mv tk rfl (Wk.refl _)) ?_
  refine wpo_bd H (fun _ => .ref p0_nodes (0 + (x1 : Int).toNat * 4 + 0)) rfl rfl rfl (fun v2 hv => o_vecx tk hv td112 sz116 (by decide) rfl rfl) fun v2 hv2 H1 => ?_
  refine wpo_bdr H1 (fun y => e_lists_link y) rfl rfl rfl (fun v4 hv => h_ldx tk hH 1 hv rfl enc116 (acut_enc enc116 rfl _) (by decide) rfl) fun v4 hv4 H3 => ?_
  refine wpo_a (av := fun id => .ref id 0) rfl rfl rfl (h_alloc tk hH ty116 (c_lists_link z_lists_link) rfl) fun id5 τ ⟨hH, n6⟩ => ?_
  obtain ⟨c8, hc9, H7⟩ := lt_ex H3
  refine wpo_z rfl rfl (h_st tk hH 0 rfl ty116 (by simp) rfl rfl (.of_eq rfl) (b := (e_lists_link v4)) (enc116.flat _) rfl (Nat.le_of_ble_eq_true rfl) (c_lists_link c8) (by rw [← hc9]; rfl)) fun τ hH => ?_
  refine wpo_nil ?_
  refine awp_seq ?_
  refine awp_seq ?_
  refine awp_region rfl ?_
  refine wpo_mv (a := (.ref id5 0)) rfl rfl rfl (o_c tk false rfl (fun _ => rfl)) ?_
  refine wpo_rd (a := (eI c8.ahead)) rfl rfl rfl (h_ld tk hH 0 rfl rfl rfl) ?_
  refine wpo_lt H7 eB rfl rfl rfl (o_ar tk rfl rfl rfl) fun v11 H10 => ?_
  refine wpo_nil ?_
  obtain ⟨s12, hs14, hj15⟩ := Option.bind_eq_some_iff.1 H10
  refine awp_cutn (fun fr τ => WkF fr (fm [(0, (.ref p0 0)), (4, (.ref id5 0))]) ∧ Holds σ [(id5, (c_lists_link c8)), (p0, [(.vec p0_nodes 4 (s12.1).length), (.vec p0_first_ 1 (s12.2).length), (.vec p0_last_ 1 (x0.last_).length), (.vec p0_count 1 (x0.count).length), (eI x0.free), (eI x0.clock)]), (p0_nodes, (cL e_lists_link s12.1)), (p0_first_, (cL eI s12.2)), (p0_last_, (cL eI x0.last_)), (p0_count, (cL eI x0.count))] [] τ) ?_ ?_
  · rintro fr τ ⟨hfr, hH⟩
    have H27 := hj15
    refine AWP.fm [(0, (.ref p0 0)), (4, (.ref id5 0))] hfr ?_
    refine awp_seq ?_
    refine awp_seq ?_
    refine awp_region rfl ?_
    refine wpo_mv (a := (.ref id5 1)) rfl rfl rfl (o_c tk false rfl (fun _ => rfl)) ?_
    refine wpo_rd (a := (eI c8.behind)) rfl rfl rfl (h_ld tk hH 0 rfl rfl rfl) ?_
    refine wpo_lt H27 eB rfl rfl rfl (o_ar tk rfl rfl rfl) fun v29 H28 => ?_
    refine wpo_nil ?_
    obtain ⟨s30, hs32, hj33⟩ := Option.bind_eq_some_iff.1 H28
    refine awp_cutn (fun fr τ => WkF fr (fm [(0, (.ref p0 0)), (4, (.ref id5 0))]) ∧ Holds σ [(id5, (c_lists_link c8)), (p0, [(.vec p0_nodes 4 (s30.1).length), (.vec p0_first_ 1 (s12.2).length), (.vec p0_last_ 1 (s30.2).length), (.vec p0_count 1 (x0.count).length), (eI x0.free), (eI x0.clock)]), (p0_nodes, (cL e_lists_link s30.1)), (p0_first_, (cL eI s12.2)), (p0_last_, (cL eI s30.2)), (p0_count, (cL eI x0.count))] [] τ) ?_ ?_
    · rintro fr τ ⟨hfr, hH⟩
      have H45 := hj33
      refine AWP.fm [(0, (.ref p0 0)), (4, (.ref id5 0))] hfr ?_
      refine awp_drawS mixed [10] rfl (by decide +kernel) rfl rfl ?_
      refine wpdS_mv (a := (.ref p0 0)) rfl rfl rfl (o_mv tk rfl (Wk.refl _)) ?_
      refine wpdS_mv (a := (.ref p0 0)) rfl rfl rfl (o_c tk false rfl (fun _ => rfl)) ?_
      refine wpdS_mv (a := (.ref p0 3)) rfl rfl rfl (o_c tk false rfl (fun _ => rfl)) ?_
      refine wpdS_rd (a := (.vec p0_count 1 (x0.count).length)) rfl (by decide +kernel) rfl rfl (h_ld tk hH 1 rfl rfl rfl) ?_
      refine wpdS_mv (a := (.ref id5 2)) rfl rfl rfl (o_c tk false rfl (fun _ => rfl)) ?_
      refine wpdS_rd (a := (eI c8.list)) rfl (by decide +kernel) rfl rfl (h_ld tk hH 0 rfl rfl rfl) ?_
      refine wpdS_bd H45 (fun _ => .ref p0_count (0 + (c8.list : Int).toNat * 1 + 0)) rfl rfl rfl (fun v47 hv => o_vecx tk hv td62 sz3 (by decide) rfl rfl) fun v47 hv47 H46 => ?_
      refine wpdS_bdr H46 (fun y => eI y) rfl (by decide +kernel) rfl rfl (fun v49 hv => h_ldx tk hH 5 hv rfl (enc_i64 td3 sz3) (acut_enc (enc_i64 td3 sz3) rfl _) (by decide) rfl) fun v49 hv49 H48 => ?_
      refine wpdS_lt H48 eI rfl rfl rfl (o_ar tk rfl rfl rfl) fun v51 H50 => ?_
      refine wpdS_bd H50 (fun _ => .ref p0_count (0 + (c8.list : Int).toNat * 1 + 0)) rfl rfl rfl (fun v53 hv => o_vecx tk hv td62 sz3 (by decide) rfl rfl) fun v53 hv53 H52 => ?_
      obtain ⟨c55, hc56, H54⟩ := Option.bind_eq_some_iff.1 H52
      refine wpdS_z rfl rfl rfl (h_stx tk hH 5 hc56 rfl (enc_i64 td3 sz3) ty3 (by simp) rfl rfl (.of_eq rfl) (b := (eI v51)) rfl rfl (by decide) (fun _ => rfl)) fun τ hH => ?_
      refine wpdS_nil ?_
      have hH : Holds σ [(id5, (c_lists_link c8)), (p0, [(.vec p0_nodes 4 (s30.1).length), (.vec p0_first_ 1 (s12.2).length), (.vec p0_last_ 1 (s30.2).length), (.vec p0_count 1 (c55).length), (eI x0.free), (eI x0.clock)]), (p0_nodes, (cL e_lists_link s30.1)), (p0_first_, (cL eI s12.2)), (p0_last_, (cL eI s30.2)), (p0_count, (cL eI c55))] [] _ := (Holds.cells hH 1 [(.vec p0_nodes 4 (s30.1).length), (.vec p0_first_ 1 (s12.2).length), (.vec p0_last_ 1 (s30.2).length), (.vec p0_count 1 (c55).length), (eI x0.free), (eI x0.clock)] rfl (by first | rfl | simp only [updA_len hc56]))
      obtain rfl := Option.some.inj H54
      exact ⟨_, (.tup []), rfl, (.of_eq rfl), .of_eq rfl, (hH.noT.drop n6)⟩
    · refine awp_if hs32 rfl (fun H34 => ?_) (fun H34 => ?_)
      · refine awp_drawS mixed [9] rfl (by decide +kernel) rfl rfl ?_
        refine wpdS_mv (a := (.ref p0 0)) rfl rfl rfl (o_mv tk rfl (Wk.refl _)) ?_
        refine wpdS_mv (a := (.ref p0 0)) rfl rfl rfl (o_c tk false rfl (fun _ => rfl)) ?_
        refine wpdS_mv (a := (.ref p0 2)) rfl rfl rfl (o_c tk false rfl (fun _ => rfl)) ?_
        refine wpdS_rd (a := (.vec p0_last_ 1 (x0.last_).length)) rfl (by decide +kernel) rfl rfl (h_ld tk hH 1 rfl rfl rfl) ?_
        refine wpdS_mv (a := (.ref id5 2)) rfl rfl rfl (o_c tk false rfl (fun _ => rfl)) ?_
        refine wpdS_rd (a := (eI c8.list)) rfl (by decide +kernel) rfl rfl (h_ld tk hH 0 rfl rfl rfl) ?_
        refine wpdS_mv (a := (.ref id5 0)) rfl rfl rfl (o_c tk false rfl (fun _ => rfl)) ?_
        refine wpdS_rd (a := (eI c8.ahead)) rfl (by decide +kernel) rfl rfl (h_ld tk hH 0 rfl rfl rfl) ?_
        refine wpdS_bd H34 (fun _ => .ref p0_last_ (0 + (c8.list : Int).toNat * 1 + 0)) rfl rfl rfl (fun v36 hv => o_vecx tk hv td62 sz3 (by decide) rfl rfl) fun v36 hv36 H35 => ?_
        obtain ⟨c38, hc39, H37⟩ := Option.bind_eq_some_iff.1 H35
        refine wpdS_z rfl rfl rfl (h_stx tk hH 4 hc39 rfl (enc_i64 td3 sz3) ty3 (by simp) rfl rfl (.of_eq rfl) (b := (eI c8.ahead)) rfl rfl (by decide) (fun _ => rfl)) fun τ hH => ?_
        refine wpdS_nil ?_
        have e := Option.some.inj H37
        subst e
        exact ⟨(wkf_cons (.of_eq rfl) (wkf_cons (.of_eq rfl) (wkf_nil _))), (Holds.cells hH 1 [(.vec p0_nodes 4 (s12.1).length), (.vec p0_first_ 1 (s12.2).length), (.vec p0_last_ 1 (c38).length), (.vec p0_count 1 (x0.count).length), (eI x0.free), (eI x0.clock)] rfl (by first | rfl | simp only [updA_len hc39]))⟩
      · refine awp_drawS mixed [10] rfl (by decide +kernel) rfl rfl ?_
        refine wpdS_mv (a := (.ref p0 0)) rfl rfl rfl (o_mv tk rfl (Wk.refl _)) ?_
        refine wpdS_mv (a := (.ref p0 0)) rfl rfl rfl (o_c tk false rfl (fun _ => rfl)) ?_
        refine wpdS_mv (a := (.ref p0 0)) rfl rfl rfl (o_c tk false rfl (fun _ => rfl)) ?_
        refine wpdS_rd (a := (.vec p0_nodes 4 (s12.1).length)) rfl (by decide +kernel) rfl rfl (h_ld tk hH 1 rfl rfl rfl) ?_
        refine wpdS_mv (a := (.ref id5 1)) rfl rfl rfl (o_c tk false rfl (fun _ => rfl)) ?_
        refine wpdS_rd (a := (eI c8.behind)) rfl (by decide +kernel) rfl rfl (h_ld tk hH 0 rfl rfl rfl) ?_
        refine wpdS_mv (a := (.ref id5 0)) rfl rfl rfl (o_c tk false rfl (fun _ => rfl)) ?_
        refine wpdS_rd (a := (eI c8.ahead)) rfl (by decide +kernel) rfl rfl (h_ld tk hH 0 rfl rfl rfl) ?_
        refine wpdS_bd H34 (fun _ => .ref p0_nodes (0 + (c8.behind : Int).toNat * 4 + 0)) rfl rfl rfl (fun v41 hv => o_vecx tk hv td112 sz116 (by decide) rfl rfl) fun v41 hv41 H40 => ?_
        refine wpdS_mv (a := (.ref p0_nodes (0 + (c8.behind : Int).toNat * 4 + 0))) rfl rfl rfl (o_c tk false rfl (fun _ => rfl)) ?_
        obtain ⟨c43, hc44, H42⟩ := Option.bind_eq_some_iff.1 H40
        refine wpdS_z rfl rfl rfl (h_stx tk hH 2 hc44 rfl enc116 ty3 (by simp) rfl rfl (.of_eq rfl) (b := (eI c8.ahead)) rfl rfl (by decide) (fun _ => rfl)) fun τ hH => ?_
        refine wpdS_nil ?_
        have e := Option.some.inj H42
        subst e
        exact ⟨(wkf_cons (.of_eq rfl) (wkf_cons (.of_eq rfl) (wkf_nil _))), (Holds.cells hH 1 [(.vec p0_nodes 4 (c43).length), (.vec p0_first_ 1 (s12.2).length), (.vec p0_last_ 1 (x0.last_).length), (.vec p0_count 1 (x0.count).length), (eI x0.free), (eI x0.clock)] rfl (by first | rfl | simp only [updA_len hc44]))⟩
  · refine awp_if hs14 rfl (fun H16 => ?_) (fun H16 => ?_)
    · refine awp_drawS mixed [9] rfl (by decide +kernel) rfl rfl ?_
      refine wpdS_mv (a := (.ref p0 0)) rfl rfl rfl (o_mv tk rfl (Wk.refl _)) ?_
      refine wpdS_mv (a := (.ref p0 0)) rfl rfl rfl (o_c tk false rfl (fun _ => rfl)) ?_
      refine wpdS_mv (a := (.ref p0 1)) rfl rfl rfl (o_c tk false rfl (fun _ => rfl)) ?_
      refine wpdS_rd (a := (.vec p0_first_ 1 (x0.first_).length)) rfl (by decide +kernel) rfl rfl (h_ld tk hH 1 rfl rfl rfl) ?_
      refine wpdS_mv (a := (.ref id5 2)) rfl rfl rfl (o_c tk false rfl (fun _ => rfl)) ?_
      refine wpdS_rd (a := (eI c8.list)) rfl (by decide +kernel) rfl rfl (h_ld tk hH 0 rfl rfl rfl) ?_
      refine wpdS_mv (a := (.ref id5 1)) rfl rfl rfl (o_c tk false rfl (fun _ => rfl)) ?_
      refine wpdS_rd (a := (eI c8.behind)) rfl (by decide +kernel) rfl rfl (h_ld tk hH 0 rfl rfl rfl) ?_
      refine wpdS_bd H16 (fun _ => .ref p0_first_ (0 + (c8.list : Int).toNat * 1 + 0)) rfl rfl rfl (fun v18 hv => o_vecx tk hv td62 sz3 (by decide) rfl rfl) fun v18 hv18 H17 => ?_
      obtain ⟨c20, hc21, H19⟩ := Option.bind_eq_some_iff.1 H17
      refine wpdS_z rfl rfl rfl (h_stx tk hH 3 hc21 rfl (enc_i64 td3 sz3) ty3 (by simp) rfl rfl (.of_eq rfl) (b := (eI c8.behind)) rfl rfl (by decide) (fun _ => rfl)) fun τ hH => ?_
      refine wpdS_nil ?_
      have e := Option.some.inj H19
      subst e
      exact ⟨(wkf_cons (.of_eq rfl) (wkf_cons (.of_eq rfl) (wkf_nil _))), (Holds.cells hH 1 [(.vec p0_nodes 4 (x0.nodes).length), (.vec p0_first_ 1 (c20).length), (.vec p0_last_ 1 (x0.last_).length), (.vec p0_count 1 (x0.count).length), (eI x0.free), (eI x0.clock)] rfl (by first | rfl | simp only [updA_len hc21]))⟩
    · refine awp_drawS mixed [10] rfl (by decide +kernel) rfl rfl ?_
      refine wpdS_mv (a := (.ref p0 0)) rfl rfl rfl (o_mv tk rfl (Wk.refl _)) ?_
      refine wpdS_mv (a := (.ref p0 0)) rfl rfl rfl (o_c tk false rfl (fun _ => rfl)) ?_
      refine wpdS_mv (a := (.ref p0 0)) rfl rfl rfl (o_c tk false rfl (fun _ => rfl)) ?_
      refine wpdS_rd (a := (.vec p0_nodes 4 (x0.nodes).length)) rfl (by decide +kernel) rfl rfl (h_ld tk hH 1 rfl rfl rfl) ?_
      refine wpdS_mv (a := (.ref id5 0)) rfl rfl rfl (o_c tk false rfl (fun _ => rfl)) ?_
      refine wpdS_rd (a := (eI c8.ahead)) rfl (by decide +kernel) rfl rfl (h_ld tk hH 0 rfl rfl rfl) ?_
      refine wpdS_mv (a := (.ref id5 1)) rfl rfl rfl (o_c tk false rfl (fun _ => rfl)) ?_
      refine wpdS_rd (a := (eI c8.behind)) rfl (by decide +kernel) rfl rfl (h_ld tk hH 0 rfl rfl rfl) ?_
      refine wpdS_bd H16 (fun _ => .ref p0_nodes (0 + (c8.ahead : Int).toNat * 4 + 0)) rfl rfl rfl (fun v23 hv => o_vecx tk hv td112 sz116 (by decide) rfl rfl) fun v23 hv23 H22 => ?_
      refine wpdS_mv (a := (.ref p0_nodes (0 + (c8.ahead : Int).toNat * 4 + 1))) rfl rfl rfl (o_c tk false rfl (fun _ => rfl)) ?_
      obtain ⟨c25, hc26, H24⟩ := Option.bind_eq_some_iff.1 H22
      refine wpdS_z rfl rfl rfl (h_stx tk hH 2 hc26 rfl enc116 ty3 (by simp) rfl rfl (.of_eq rfl) (b := (eI c8.behind)) rfl rfl (by decide) (fun _ => rfl)) fun τ hH => ?_
      refine wpdS_nil ?_
      have e := Option.some.inj H24
      subst e
      exact ⟨(wkf_cons (.of_eq rfl) (wkf_cons (.of_eq rfl) (wkf_nil _))), (Holds.cells hH 1 [(.vec p0_nodes 4 (c25).length), (.vec p0_first_ 1 (x0.first_).length), (.vec p0_last_ 1 (x0.last_).length), (.vec p0_count 1 (x0.count).length), (eI x0.free), (eI x0.clock)] rfl (by first | rfl | simp only [updA_len hc26]))⟩
end Go.Proofs.YtobbifgmjkgkfaaDoor
namespace Go.Proofs.YtobbifgmjkgkfaaDoor
open Go Go.Va
set_option linter.unusedVariables false
set_option linter.unusedSimpArgs false
set_option maxRecDepth 20000
theorem lists_Lists_Drop_ok {x0 : lists_Lists} {x1 : Int} {r : Err × lists_Lists} (H : lists_Lists_Drop x0 x1 = some r) (σ : St) {p0 p0_nodes p0_first_ p0_last_ p0_count : Nat} (h0 : σ.objs[p0]? = some [(.vec p0_nodes 4 (x0.nodes).length), (.vec p0_first_ 1 (x0.first_).length), (.vec p0_last_ 1 (x0.last_).length), (.vec p0_count 1 (x0.count).length), (eI x0.free), (eI x0.clock)]) (h0_nodes : σ.objs[p0_nodes]? = some (cL e_lists_link x0.nodes)) (h0_first_ : σ.objs[p0_first_]? = some (cL eI x0.first_)) (h0_last_ : σ.objs[p0_last_]? = some (cL eI x0.last_)) (h0_count : σ.objs[p0_count]? = some (cL eI x0.count)) (hd : [p0, p0_nodes, p0_first_, p0_last_, p0_count].Pairwise fun a b => a ≠ b) : ACall Tryd.prog 29 [(.ref p0 0), (eI x1)] σ (fun a τ => a = eErr r.1 ∧ τ = σ.puts [(p0, [(.vec p0_nodes 4 (r.2.nodes).length), (.vec p0_first_ 1 (r.2.first_).length), (.vec p0_last_ 1 (r.2.last_).length), (.vec p0_count 1 (r.2.count).length), (eI r.2.free), (eI r.2.clock)]), (p0_nodes, (cL e_lists_link r.2.nodes)), (p0_first_, (cL eI r.2.first_)), (p0_last_, (cL eI r.2.last_)), (p0_count, (cL eI r.2.count))]) := by
  unfold lists_Lists_Drop at H
  refine ACall.outB [(p0, [(.vec p0_nodes 4 (r.2.nodes).length), (.vec p0_first_ 1 (r.2.first_).length), (.vec p0_last_ 1 (r.2.last_).length), (.vec p0_count 1 (r.2.count).length), (eI r.2.free), (eI r.2.clock)]), (p0_nodes, (cL e_lists_link r.2.nodes)), (p0_first_, (cL eI r.2.first_)), (p0_last_, (cL eI r.2.last_)), (p0_count, (cL eI r.2.count))] (by simp only [List.mem_cons, List.not_mem_nil, or_false]; rintro _ (rfl | rfl | rfl | rfl | rfl) <;> first | exact cut_cL enc116.cut _ _ _ | exact cut_cL (enc_i64 td3 sz3).cut _ _ _ | simp only [cutL, cut_vec_id (idl_get h0_nodes), cut_vec_id (idl_get h0_first_), cut_vec_id (idl_get h0_last_), cut_vec_id (idl_get h0_count), (enc_i64 td3 sz3).cut _ _]) (acall_start tk Tryd.func29 (by decide) rfl (Nat.le_of_ble_eq_true rfl) ?_)
  have hH := Holds.brings (σ := σ) [(p0, [(.vec p0_nodes 4 (x0.nodes).length), (.vec p0_first_ 1 (x0.first_).length), (.vec p0_last_ 1 (x0.last_).length), (.vec p0_count 1 (x0.count).length), (eI x0.free), (eI x0.clock)]), (p0_nodes, (cL e_lists_link x0.nodes)), (p0_first_, (cL eI x0.first_)), (p0_last_, (cL eI x0.last_)), (p0_count, (cL eI x0.count))] (by simp only [List.mem_cons, List.not_mem_nil, or_false]; rintro _ (rfl | rfl | rfl | rfl | rfl) <;> assumption) hd
  refine awp_seq ?_
  refine awp_region rfl ?_
  refine wpo_mv (a := (eErr Err.nil)) rfl rfl rfl (o_as tk rfl (Wk.refl _)) ?_
  refine wpo_nil ?_
  refine awp_seq ?_
  refine awp_seq ?_
  refine awp_region rfl ?_
  refine wpo_mv (a := (.ref p0 0)) rfl rfl rfl (o_mv tk rfl (Wk.refl _)) ?_
  refine wpo_mv (a := (eI x1)) rfl rfl rfl (o_mv tk rfl (Wk.refl _)) ?_
  refine wpo_bdr H eErr rfl rfl rfl (fun v2 hv => h_callr rfl rfl (.cons (.of_eq rfl) (.cons (.of_eq rfl) (.cons (.of_eq rfl) .nil))) (lists_Lists_at_ok hv _ (hH.at_ 0 rfl) (hH.at_ 1 rfl) (hH.at_ 2 rfl) (hH.at_ 3 rfl) (hH.at_ 4 rfl) (hH.pw [0, 1, 2, 3, 4] rfl (by decide)))) fun v2 hv2 H1 => ?_
  refine wpo_mv (a := (eErr v2)) rfl rfl rfl (o_as tk rfl (Wk.refl _)) ?_
  refine wpo_nil ?_
  refine awp_seq ?_
  refine awp_region rfl ?_
  refine wpo_mv (a := (eErr v2)) rfl rfl rfl (o_mv tk rfl (Wk.refl _)) ?_
  refine wpo_lt H1 eB rfl rfl rfl (o_err_neq tk rfl rfl rfl) fun v4 H3 => ?_
  refine wpo_nil ?_
  refine awp_if H3 rfl (fun H5 => ?_) (fun H5 => ?_)
  · refine awp_seq ?_
    refine awp_region rfl ?_
    refine wpo_mv (a := (eErr v2)) rfl rfl rfl (o_mv tk rfl (Wk.refl _)) ?_
    refine wpo_mv (a := (eErr v2)) rfl rfl rfl (o_as tk rfl (Wk.refl _)) ?_
    refine wpo_nil ?_
    refine awp_ret ?_
    obtain rfl := Option.some.inj H5
    exact ⟨_, (eErr v2), rfl, (.of_eq rfl), .of_eq (encErr.cut _ _ _), hH.noT⟩
  · refine awp_skip ?_
    refine awp_seq ?_
    refine awp_region rfl ?_
    refine wpo_mv (a := (.ref p0 0)) rfl rfl rfl (o_mv tk rfl (Wk.refl _)) ?_
    refine wpo_mv (a := (eI x1)) rfl rfl rfl (o_mv tk rfl (Wk.refl _)) ?_
    refine wpo_cb H5 (fun x _ => .tup []) rfl rfl rfl (fun v7 hv => h_call1 hH [(0, (p0, [(.vec p0_nodes 4 (v7.nodes).length), (.vec p0_first_ 1 (v7.first_).length), (.vec p0_last_ 1 (v7.last_).length), (.vec p0_count 1 (v7.count).length), (eI v7.free), (eI v7.clock)])), (1, (p0_nodes, (cL e_lists_link v7.nodes))), (2, (p0_first_, (cL eI v7.first_))), (3, (p0_last_, (cL eI v7.last_))), (4, (p0_count, (cL eI v7.count)))] ⟨⟨_, rfl⟩, ⟨⟨_, rfl⟩, ⟨⟨_, rfl⟩, ⟨⟨_, rfl⟩, ⟨⟨_, rfl⟩, trivial⟩⟩⟩⟩⟩ rfl rfl (.cons (.of_eq rfl) (.cons (.of_eq rfl) .nil)) (lists_Lists_pull_ok hv _ (hH.at_ 0 rfl) (hH.at_ 1 rfl) (hH.at_ 2 rfl) (hH.at_ 3 rfl) (hH.at_ 4 rfl) (hH.pw [0, 1, 2, 3, 4] rfl (by decide)))) fun v7 _ τ hv7 H6 (hH : Holds σ [(p0, [(.vec p0_nodes 4 (v7.nodes).length), (.vec p0_first_ 1 (v7.first_).length), (.vec p0_last_ 1 (v7.last_).length), (.vec p0_count 1 (v7.count).length), (eI v7.free), (eI v7.clock)]), (p0_nodes, (cL e_lists_link v7.nodes)), (p0_first_, (cL eI v7.first_)), (p0_last_, (cL eI v7.last_)), (p0_count, (cL eI v7.count))] [] τ) => ?_
    refine wpo_nil ?_
    refine awp_seq ?_
    refine awp_drawS mixed [11] rfl (by decide +kernel) rfl rfl ?_
    refine wpdS_mv (a := (.ref p0 0)) rfl rfl rfl (o_mv tk rfl (Wk.refl _)) ?_
    refine wpdS_mv (a := (.ref p0 0)) rfl rfl rfl (o_c tk false rfl (fun _ => rfl)) ?_
    refine wpdS_mv (a := (.ref p0 0)) rfl rfl rfl (o_c tk false rfl (fun _ => rfl)) ?_
    refine wpdS_rd (a := (.vec p0_nodes 4 (v7.nodes).length)) rfl (by decide +kernel) rfl rfl (h_ld tk hH 0 rfl rfl rfl) ?_
    refine wpdS_mv (a := (eI x1)) rfl rfl rfl (o_mv tk rfl (Wk.refl _)) ?_
    refine wpdS_mv (a := (.ref p0 0)) rfl rfl rfl (o_mv tk rfl (Wk.refl _)) ?_
    refine wpdS_mv (a := (.ref p0 0)) rfl rfl rfl (o_c tk false rfl (fun _ => rfl)) ?_
    refine wpdS_mv (a := (.ref p0 4)) rfl rfl rfl (o_c tk false rfl (fun _ => rfl)) ?_
    refine wpdS_rd (a := (eI v7.free)) rfl (by decide +kernel) rfl rfl (h_ld tk hH 0 rfl rfl rfl) ?_
    refine wpdS_lt H6 e_lists_link rfl rfl rfl (o_c tk false rfl (fun _ => rfl)) fun v9 H8 => ?_
    refine wpdS_bd H8 (fun _ => .ref p0_nodes (0 + (x1 : Int).toNat * 4 + 0)) rfl rfl rfl (fun v11 hv => o_vecx tk hv td112 sz116 (by decide) rfl rfl) fun v11 hv11 H10 => ?_
    obtain ⟨c13, hc14, H12⟩ := Option.bind_eq_some_iff.1 H10
    refine wpdS_z rfl rfl rfl (h_stx tk hH 1 hc14 rfl enc116 ty116 (by simp) rfl rfl (.of_eq rfl) (b := (e_lists_link v9)) (enc116.flat _) rfl (by decide) (fun _ => (repl_all (enc116.len _) (enc116.len _)))) fun τ hH => ?_
    refine wpdS_nil ?_
    refine awp_seq ?_
    refine awp_region rfl ?_
    refine wpo_mv (a := (.ref p0 0)) rfl rfl rfl (o_mv tk rfl (Wk.refl _)) ?_
    refine wpo_mv (a := (eI x1)) rfl rfl rfl (o_mv tk rfl (Wk.refl _)) ?_
    refine wpo_mv (a := (.ref p0 0)) rfl rfl rfl (o_c tk false rfl (fun _ => rfl)) ?_
    refine wpo_mv (a := (.ref p0 4)) rfl rfl rfl (o_c tk false rfl (fun _ => rfl)) ?_
    refine wpo_z rfl rfl (h_st tk hH 0 rfl ty3 (by simp) rfl rfl (.of_eq rfl) (b := (eI x1)) rfl rfl (Nat.le_of_ble_eq_true rfl) [(.vec p0_nodes 4 (v7.nodes).length), (.vec p0_first_ 1 (v7.first_).length), (.vec p0_last_ 1 (v7.last_).length), (.vec p0_count 1 (v7.count).length), (eI ({ v7 with free := x1 } : lists_Lists).free), (eI ({ v7 with free := x1 } : lists_Lists).clock)] rfl) fun τ hH => ?_
    refine wpo_nil ?_
    refine awp_seq ?_
    refine awp_region rfl ?_
    refine wpo_mv (a := (eErr Err.nil)) rfl rfl rfl (o_as tk rfl (Wk.refl _)) ?_
    refine wpo_nil ?_
    refine awp_ret ?_
    have hH : Holds σ [(p0, [(.vec p0_nodes 4 (c13).length), (.vec p0_first_ 1 (v7.first_).length), (.vec p0_last_ 1 (v7.last_).length), (.vec p0_count 1 (v7.count).length), (eI ({ v7 with free := x1 } : lists_Lists).free), (eI ({ v7 with free := x1 } : lists_Lists).clock)]), (p0_nodes, (cL e_lists_link c13)), (p0_first_, (cL eI v7.first_)), (p0_last_, (cL eI v7.last_)), (p0_count, (cL eI v7.count))] [] _ := (Holds.cells hH 0 [(.vec p0_nodes 4 (c13).length), (.vec p0_first_ 1 (v7.first_).length), (.vec p0_last_ 1 (v7.last_).length), (.vec p0_count 1 (v7.count).length), (eI ({ v7 with free := x1 } : lists_Lists).free), (eI ({ v7 with free := x1 } : lists_Lists).clock)] rfl (by first | rfl | simp only [updA_len hc14]))
    obtain rfl := Option.some.inj H12
    exact ⟨_, (eErr Err.nil), rfl, (.of_eq rfl), .of_eq (encErr.cut _ _ _), hH.noT⟩
end Go.Proofs.YtobbifgmjkgkfaaDoor
namespace Go.Proofs.YtobbifgmjkgkfaaDoor
open Go Go.Va
set_option linter.unusedVariables false
set_option linter.unusedSimpArgs false
set_option maxRecDepth 20000
theorem lists_Lists_Touch_ok {x0 : lists_Lists} {x1 : Int} {r : Err × lists_Lists} (H : lists_Lists_Touch x0 x1 = some r) (σ : St) {p0 p0_nodes p0_first_ p0_last_ p0_count : Nat} (h0 : σ.objs[p0]? = some [(.vec p0_nodes 4 (x0.nodes).length), (.vec p0_first_ 1 (x0.first_).length), (.vec p0_last_ 1 (x0.last_).length), (.vec p0_count 1 (x0.count).length), (eI x0.free), (eI x0.clock)]) (h0_nodes : σ.objs[p0_nodes]? = some (cL e_lists_link x0.nodes)) (h0_first_ : σ.objs[p0_first_]? = some (cL eI x0.first_)) (h0_last_ : σ.objs[p0_last_]? = some (cL eI x0.last_)) (h0_count : σ.objs[p0_count]? = some (cL eI x0.count)) (hd : [p0, p0_nodes, p0_first_, p0_last_, p0_count].Pairwise fun a b => a ≠ b) : ACall Tryd.prog 30 [(.ref p0 0), (eI x1)] σ (fun a τ => a = eErr r.1 ∧ τ = σ.puts [(p0, [(.vec p0_nodes 4 (r.2.nodes).length), (.vec p0_first_ 1 (r.2.first_).length), (.vec p0_last_ 1 (r.2.last_).length), (.vec p0_count 1 (r.2.count).length), (eI r.2.free), (eI r.2.clock)]), (p0_nodes, (cL e_lists_link r.2.nodes)), (p0_first_, (cL eI r.2.first_)), (p0_last_, (cL eI r.2.last_)), (p0_count, (cL eI r.2.count))]) := by
  unfold lists_Lists_Touch at H
  refine ACall.outB [(p0, [(.vec p0_nodes 4 (r.2.nodes).length), (.vec p0_first_ 1 (r.2.first_).length), (.vec p0_last_ 1 (r.2.last_).length), (.vec p0_count 1 (r.2.count).length), (eI r.2.free), (eI r.2.clock)]), (p0_nodes, (cL e_lists_link r.2.nodes)), (p0_first_, (cL eI r.2.first_)), (p0_last_, (cL eI r.2.last_)), (p0_count, (cL eI r.2.count))] (by simp only [List.mem_cons, List.not_mem_nil, or_false]; rintro _ (rfl | rfl | rfl | rfl | rfl) <;> first | exact cut_cL enc116.cut _ _ _ | exact cut_cL (enc_i64 td3 sz3).cut _ _ _ | simp only [cutL, cut_vec_id (idl_get h0_nodes), cut_vec_id (idl_get h0_first_), cut_vec_id (idl_get h0_last_), cut_vec_id (idl_get h0_count), (enc_i64 td3 sz3).cut _ _]) (acall_start tk Tryd.func30 (by decide) rfl (Nat.le_of_ble_eq_true rfl) ?_)
  have hH := Holds.brings (σ := σ) [(p0, [(.vec p0_nodes 4 (x0.nodes).length), (.vec p0_first_ 1 (x0.first_).length), (.vec p0_last_ 1 (x0.last_).length), (.vec p0_count 1 (x0.count).length), (eI x0.free), (eI x0.clock)]), (p0_nodes, (cL e_lists_link x0.nodes)), (p0_first_, (cL eI x0.first_)), (p0_last_, (cL eI x0.last_)), (p0_count, (cL eI x0.count))] (by simp only [List.mem_cons, List.not_mem_nil, or_false]; rintro _ (rfl | rfl | rfl | rfl | rfl) <;> assumption) hd
  refine awp_seq ?_
  refine awp_region rfl ?_
  refine wpo_mv (a := (eErr Err.nil)) rfl rfl rfl (o_as tk rfl (Wk.refl _)) ?_
  refine wpo_nil ?_
  refine awp_seq ?_
  refine awp_seq ?_
  refine awp_region rfl ?_
  refine wpo_mv (a := (.ref p0 0)) rfl rfl rfl (o_mv tk rfl (Wk.refl _)) ?_
  refine wpo_mv (a := (eI x1)) rfl rfl rfl (o_mv tk rfl (Wk.refl _)) ?_
  refine wpo_bdr H eErr rfl rfl rfl (fun v2 hv => h_callr rfl rfl (.cons (.of_eq rfl) (.cons (.of_eq rfl) (.cons (.of_eq rfl) .nil))) (lists_Lists_at_ok hv _ (hH.at_ 0 rfl) (hH.at_ 1 rfl) (hH.at_ 2 rfl) (hH.at_ 3 rfl) (hH.at_ 4 rfl) (hH.pw [0, 1, 2, 3, 4] rfl (by decide)))) fun v2 hv2 H1 => ?_
  refine wpo_mv (a := (eErr v2)) rfl rfl rfl (o_as tk rfl (Wk.refl _)) ?_
  refine wpo_nil ?_
  refine awp_seq ?_
  refine awp_region rfl ?_
  refine wpo_mv (a := (eErr v2)) rfl rfl rfl (o_mv tk rfl (Wk.refl _)) ?_
  refine wpo_lt H1 eB rfl rfl rfl (o_err_neq tk rfl rfl rfl) fun v4 H3 => ?_
  refine wpo_nil ?_
  refine awp_if H3 rfl (fun H5 => ?_) (fun H5 => ?_)
  · refine awp_seq ?_
    refine awp_region rfl ?_
    refine wpo_mv (a := (eErr v2)) rfl rfl rfl (o_mv tk rfl (Wk.refl _)) ?_
    refine wpo_mv (a := (eErr v2)) rfl rfl rfl (o_as tk rfl (Wk.refl _)) ?_
    refine wpo_nil ?_
    refine awp_ret ?_
    obtain rfl := Option.some.inj H5
    exact ⟨_, (eErr v2), rfl, (.of_eq rfl), .of_eq (encErr.cut _ _ _), hH.noT⟩
  · refine awp_skip ?_
    refine awp_seq ?_
    refine awp_region rfl ?_
    refine wpo_mv (a := (.ref p0 0)) rfl rfl rfl (o_mv tk rfl (Wk.refl _)) ?_
    refine wpo_mv (a := (.ref p0 0)) rfl rfl rfl (o_c tk false rfl (fun _ => rfl)) ?_
    refine wpo_mv (a := (.ref p0 0)) rfl rfl rfl (o_c tk false rfl (fun _ => rfl)) ?_
    refine wpo_rd (a := (.vec p0_nodes 4 (x0.nodes).length)) rfl rfl rfl (h_ld tk hH 0 rfl rfl rfl) ?_
    refine wpo_mv (a := (eI x1)) rfl rfl rfl (o_mv tk rfl (Wk.refl _)) ?_
    refine wpo_bd H5 (fun _ => .ref p0_nodes (0 + (x1 : Int).toNat * 4 + 0)) rfl rfl rfl (fun v7 hv => o_vecx tk hv td112 sz116 (by decide) rfl rfl) fun v7 hv7 H6 => ?_
    refine wpo_mv (a := (.ref p0_nodes (0 + (x1 : Int).toNat * 4 + 2))) rfl rfl rfl (o_c tk false rfl (fun _ => rfl)) ?_
    refine wpo_bdr H6 (fun y => eI y.list) rfl rfl rfl (fun v9 hv => h_ldx tk hH 1 hv rfl enc116 rfl (by decide) rfl) fun v9 hv9 H8 => ?_
    refine wpo_mv (a := (eI v9.list)) rfl rfl rfl (o_as tk rfl (Wk.refl _)) ?_
    refine wpo_nil ?_
    refine awp_seq ?_
    refine awp_region rfl ?_
    refine wpo_mv (a := (.ref p0 0)) rfl rfl rfl (o_mv tk rfl (Wk.refl _)) ?_
    refine wpo_mv (a := (eI x1)) rfl rfl rfl (o_mv tk rfl (Wk.refl _)) ?_
    refine wpo_cb H8 (fun x _ => .tup []) rfl rfl rfl (fun v11 hv => h_call1 hH [(0, (p0, [(.vec p0_nodes 4 (v11.nodes).length), (.vec p0_first_ 1 (v11.first_).length), (.vec p0_last_ 1 (v11.last_).length), (.vec p0_count 1 (v11.count).length), (eI v11.free), (eI v11.clock)])), (1, (p0_nodes, (cL e_lists_link v11.nodes))), (2, (p0_first_, (cL eI v11.first_))), (3, (p0_last_, (cL eI v11.last_))), (4, (p0_count, (cL eI v11.count)))] ⟨⟨_, rfl⟩, ⟨⟨_, rfl⟩, ⟨⟨_, rfl⟩, ⟨⟨_, rfl⟩, ⟨⟨_, rfl⟩, trivial⟩⟩⟩⟩⟩ rfl rfl (.cons (.of_eq rfl) (.cons (.of_eq rfl) .nil)) (lists_Lists_pull_ok hv _ (hH.at_ 0 rfl) (hH.at_ 1 rfl) (hH.at_ 2 rfl) (hH.at_ 3 rfl) (hH.at_ 4 rfl) (hH.pw [0, 1, 2, 3, 4] rfl (by decide)))) fun v11 _ τ hv11 H10 (hH : Holds σ [(p0, [(.vec p0_nodes 4 (v11.nodes).length), (.vec p0_first_ 1 (v11.first_).length), (.vec p0_last_ 1 (v11.last_).length), (.vec p0_count 1 (v11.count).length), (eI v11.free), (eI v11.clock)]), (p0_nodes, (cL e_lists_link v11.nodes)), (p0_first_, (cL eI v11.first_)), (p0_last_, (cL eI v11.last_)), (p0_count, (cL eI v11.count))] [] τ) => ?_
    refine wpo_nil ?_
    refine awp_seq ?_
    refine awp_region rfl ?_
    refine wpo_mv (a := (.ref p0 0)) rfl rfl rfl (o_mv tk rfl (Wk.refl _)) ?_
    refine wpo_mv (a := (eI x1)) rfl rfl rfl (o_mv tk rfl (Wk.refl _)) ?_
    refine wpo_mv (a := (eI v9.list)) rfl rfl rfl (o_mv tk rfl (Wk.refl _)) ?_
    refine wpo_cb H10 (fun x _ => .tup []) rfl rfl rfl (fun v13 hv => h_call1 hH [(0, (p0, [(.vec p0_nodes 4 (v13.nodes).length), (.vec p0_first_ 1 (v13.first_).length), (.vec p0_last_ 1 (v13.last_).length), (.vec p0_count 1 (v13.count).length), (eI v13.free), (eI v13.clock)])), (1, (p0_nodes, (cL e_lists_link v13.nodes))), (2, (p0_first_, (cL eI v13.first_))), (3, (p0_last_, (cL eI v13.last_))), (4, (p0_count, (cL eI v13.count)))] ⟨⟨_, rfl⟩, ⟨⟨_, rfl⟩, ⟨⟨_, rfl⟩, ⟨⟨_, rfl⟩, ⟨⟨_, rfl⟩, trivial⟩⟩⟩⟩⟩ rfl rfl (.cons (.of_eq rfl) (.cons (.of_eq rfl) (.cons (.of_eq rfl) .nil))) (lists_Lists_push_ok hv _ (hH.at_ 0 rfl) (hH.at_ 1 rfl) (hH.at_ 2 rfl) (hH.at_ 3 rfl) (hH.at_ 4 rfl) (hH.pw [0, 1, 2, 3, 4] rfl (by decide)))) fun v13 _ τ hv13 H12 (hH : Holds σ [(p0, [(.vec p0_nodes 4 (v13.nodes).length), (.vec p0_first_ 1 (v13.first_).length), (.vec p0_last_ 1 (v13.last_).length), (.vec p0_count 1 (v13.count).length), (eI v13.free), (eI v13.clock)]), (p0_nodes, (cL e_lists_link v13.nodes)), (p0_first_, (cL eI v13.first_)), (p0_last_, (cL eI v13.last_)), (p0_count, (cL eI v13.count))] [] τ) => ?_
    refine wpo_nil ?_
    refine awp_seq ?_
    refine awp_region rfl ?_
    refine wpo_mv (a := (eErr Err.nil)) rfl rfl rfl (o_as tk rfl (Wk.refl _)) ?_
    refine wpo_nil ?_
    refine awp_ret ?_
    obtain rfl := Option.some.inj H12
    exact ⟨_, (eErr Err.nil), rfl, (.of_eq rfl), .of_eq (encErr.cut _ _ _), hH.noT⟩
end Go.Proofs.YtobbifgmjkgkfaaDoor
namespace Go.Proofs.YtobbifgmjkgkfaaDoor
open Go Go.Va
set_option linter.unusedVariables false
set_option linter.unusedSimpArgs false
set_option maxRecDepth 20000
theorem lists_Lists_Sound_ok {x0 : lists_Lists} {r : Bool} (H : lists_Lists_Sound x0 = some r) (σ : St) {p0 p0_nodes p0_first_ p0_last_ p0_count : Nat} (h0 : σ.objs[p0]? = some [(.vec p0_nodes 4 (x0.nodes).length), (.vec p0_first_ 1 (x0.first_).length), (.vec p0_last_ 1 (x0.last_).length), (.vec p0_count 1 (x0.count).length), (eI x0.free), (eI x0.clock)]) (h0_nodes : σ.objs[p0_nodes]? = some (cL e_lists_link x0.nodes)) (h0_first_ : σ.objs[p0_first_]? = some (cL eI x0.first_)) (h0_last_ : σ.objs[p0_last_]? = some (cL eI x0.last_)) (h0_count : σ.objs[p0_count]? = some (cL eI x0.count)) (hd : [p0, p0_nodes, p0_first_, p0_last_, p0_count].Pairwise fun a b => a ≠ b) : ACall Tryd.prog 31 [(.ref p0 0)] σ (fun a τ => a = eB r ∧ τ = σ) := by
  unfold lists_Lists_Sound at H
  refine ACall.pure (acall_start tk Tryd.func31 (by decide) rfl (Nat.le_of_ble_eq_true rfl) ?_)
  have hH := Holds.brings (σ := σ) [(p0, [(.vec p0_nodes 4 (x0.nodes).length), (.vec p0_first_ 1 (x0.first_).length), (.vec p0_last_ 1 (x0.last_).length), (.vec p0_count 1 (x0.count).length), (eI x0.free), (eI x0.clock)]), (p0_nodes, (cL e_lists_link x0.nodes)), (p0_first_, (cL eI x0.first_)), (p0_last_, (cL eI x0.last_)), (p0_count, (cL eI x0.count))] (by simp only [List.mem_cons, List.not_mem_nil, or_false]; rintro _ (rfl | rfl | rfl | rfl | rfl) <;> assumption) hd
  refine awp_seq ?_
  refine awp_region rfl ?_
  refine wpo_mv (a := (eB false)) rfl rfl rfl (o_as tk rfl (Wk.refl _)) ?_
  refine wpo_nil ?_
  refine awp_scope ?_
  refine awp_seq ?_
  refine awp_region rfl ?_
  refine wpo_mv (a := (.ref p0 0)) rfl rfl rfl (o_mv tk rfl (Wk.refl _)) ?_
  refine wpo_mv (a := (.ref p0 0)) rfl rfl rfl (o_c tk false rfl (fun _ => rfl)) ?_
  refine wpo_mv (a := (.ref p0 0)) rfl rfl rfl (o_c tk false rfl (fun _ => rfl)) ?_
  refine wpo_rd (a := (.vec p0_nodes 4 (x0.nodes).length)) rfl rfl rfl (h_ld tk hH 0 rfl rfl rfl) ?_
  refine wpo_lt H eI rfl rfl rfl (o_vlen tk td112 rfl) fun v2 H1 => ?_
  obtain ⟨v4, hv5, H3⟩ := Option.bind_eq_some_iff.1 H1
  refine wpo_a (av := fun b => .vec b 1 (v4).length) rfl rfl rfl (h_makeV tk hH hv5 td62 ty3 rfl rfl rfl rfl) fun id6 τ ⟨hH, n7⟩ => ?_
  refine wpo_mv (a := (.vec id6 1 (v4).length)) rfl rfl rfl (o_as tk rfl (Wk.refl _)) ?_
  refine wpo_nil ?_
  refine awp_seq ?_
  refine awp_label ?_
  refine awp_seq ?_
  refine awp_seq ?_
  refine awp_region rfl ?_
  refine wpo_mv (a := (.ref p0 0)) rfl rfl rfl (o_mv tk rfl (Wk.refl _)) ?_
  refine wpo_mv (a := (.ref p0 0)) rfl rfl rfl (o_c tk false rfl (fun _ => rfl)) ?_
  refine wpo_mv (a := (.ref p0 1)) rfl rfl rfl (o_c tk false rfl (fun _ => rfl)) ?_
  refine wpo_rd (a := (.vec p0_first_ 1 (x0.first_).length)) rfl rfl rfl (h_ld tk hH 1 rfl rfl rfl) ?_
  refine wpo_lt H3 eI rfl rfl rfl (o_vlen tk td62 rfl) fun v9 H8 => ?_
  refine wpo_mv (a := (eI (0 : Int))) rfl rfl rfl (o_mv tk rfl (Wk.refl _)) ?_
  refine wpo_nil ?_
  refine awp_block ?_
  obtain ⟨o12, hs13, hj14⟩ := Option.bind_eq_some_iff.1 H8
  refine awp_cutx 0 (fun fr τ => ∃ s19 : (List Int), o12 = .inl s19 ∧ ∃ id_3, σ.objs.length ≤ id_3 ∧ WkF fr (fm [(0, (.ref p0 0)), (3, (.vec id_3 1 (s19).length))]) ∧ Holds σ [(id_3, (cL eI s19)), (p0, [(.vec p0_nodes 4 (x0.nodes).length), (.vec p0_first_ 1 (x0.first_).length), (.vec p0_last_ 1 (x0.last_).length), (.vec p0_count 1 (x0.count).length), (eI x0.free), (eI x0.clock)]), (p0_nodes, (cL e_lists_link x0.nodes)), (p0_first_, (cL eI x0.first_)), (p0_last_, (cL eI x0.last_)), (p0_count, (cL eI x0.count))] [] τ) ?_ ?_
  · rintro fr τ ⟨s19, rfl, id_3, n_3, hfr, hH⟩
    have H113 := hj14
    simp only [Sum.elim_inl] at H113
    refine AWP.fm [(0, (.ref p0 0)), (3, (.vec id_3 1 (s19).length))] hfr ?_
    refine awp_seq ?_
    refine awp_seq ?_
    refine awp_region rfl ?_
    refine wpo_mv (a := (.ref p0 0)) rfl rfl rfl (o_mv tk rfl (Wk.refl _)) ?_
    refine wpo_mv (a := (.ref p0 0)) rfl rfl rfl (o_c tk false rfl (fun _ => rfl)) ?_
    refine wpo_mv (a := (.ref p0 4)) rfl rfl rfl (o_c tk false rfl (fun _ => rfl)) ?_
    refine wpo_rd (a := (eI x0.free)) rfl rfl rfl (h_ld tk hH 1 rfl rfl rfl) ?_
    refine wpo_mv (a := (eI x0.free)) rfl rfl rfl (o_as tk rfl (Wk.refl _)) ?_
    refine wpo_nil ?_
    refine awp_block ?_
    obtain ⟨o116, hs117, hj118⟩ := Option.bind_eq_some_iff.1 H113
    refine awp_cutx 4 (fun fr τ => ∃ s123 : (List Int), o116 = .inl s123 ∧ ∃ id_3, σ.objs.length ≤ id_3 ∧ WkF fr (fm [(3, (.vec id_3 1 (s123).length))]) ∧ Holds σ [(id_3, (cL eI s123)), (p0, [(.vec p0_nodes 4 (x0.nodes).length), (.vec p0_first_ 1 (x0.first_).length), (.vec p0_last_ 1 (x0.last_).length), (.vec p0_count 1 (x0.count).length), (eI x0.free), (eI x0.clock)]), (p0_nodes, (cL e_lists_link x0.nodes)), (p0_first_, (cL eI x0.first_)), (p0_last_, (cL eI x0.last_)), (p0_count, (cL eI x0.count))] [] τ) ?_ ?_
    · rintro fr τ ⟨s123, rfl, id_3, n_3, hfr, hH⟩
      have H163 := hj118
      simp only [Sum.elim_inl] at H163
      refine AWP.fm [(3, (.vec id_3 1 (s123).length))] hfr ?_
      refine awp_seq ?_
      refine awp_seq ?_
      refine AWP.frz hH 0 3 rfl n_3 (enc_i64 td3 sz3) rfl rfl fun tk164 τ (hH : Holds σ [(p0, [(.vec p0_nodes 4 (x0.nodes).length), (.vec p0_first_ 1 (x0.first_).length), (.vec p0_last_ 1 (x0.last_).length), (.vec p0_count 1 (x0.count).length), (eI x0.free), (eI x0.clock)]), (p0_nodes, (cL e_lists_link x0.nodes)), (p0_first_, (cL eI x0.first_)), (p0_last_, (cL eI x0.last_)), (p0_count, (cL eI x0.count))] [tk164] τ) => ?_
      refine awp_region rfl ?_
      refine wpo_mv (a := (eT tk164 1 eI s123)) rfl rfl rfl (o_mv tk rfl (Wk.refl _)) ?_
      refine wpo_lt H163 eI rfl rfl rfl (o_len tk td62 rfl) fun v166 H165 => ?_
      refine wpo_mv (a := (eI (0 : Int))) rfl rfl rfl (o_mv tk rfl (Wk.refl _)) ?_
      refine wpo_nil ?_
      refine awp_block ?_
      obtain ⟨o168, hs169, hj170⟩ := Option.bind_eq_some_iff.1 H165
      refine awp_cutx 6 (fun fr τ => ∃ s175 : Unit, o168 = .inl s175 ∧ WkF fr (fm []) ∧ Holds σ [(p0, [(.vec p0_nodes 4 (x0.nodes).length), (.vec p0_first_ 1 (x0.first_).length), (.vec p0_last_ 1 (x0.last_).length), (.vec p0_count 1 (x0.count).length), (eI x0.free), (eI x0.clock)]), (p0_nodes, (cL e_lists_link x0.nodes)), (p0_first_, (cL eI x0.first_)), (p0_last_, (cL eI x0.last_)), (p0_count, (cL eI x0.count))] [] τ) ?_ ?_
      · rintro fr τ ⟨s175, rfl, hfr, hH⟩
        have H188 := hj170
        simp only [Sum.elim_inl] at H188
        refine AWP.fm [] hfr ?_
        refine awp_seq ?_
        refine awp_region rfl ?_
        refine wpo_mv (a := (eB true)) rfl rfl rfl (o_as tk rfl (Wk.refl _)) ?_
        refine wpo_nil ?_
        refine awp_ret ?_
        obtain rfl := Option.some.inj H188
        exact ⟨_, (eB true), rfl, (.of_eq rfl), .of_eq ((enc_b td4 sz4).cut _ _ _), (((((hH.noT.unbring h0).unbring h0_nodes).unbring h0_first_).unbring h0_last_).unbring h0_count)⟩
      · refine awp_loopO (body := fun s => lists_Lists_Sound_b3 x0 s123 v166 s) hs169 (fun (s : Int) fr τ => WkF fr (fm [(133, (eT tk164 1 eI s123)), (134, (eI v166)), (135, (eI s))]) ∧ Holds σ [(p0, [(.vec p0_nodes 4 (x0.nodes).length), (.vec p0_first_ 1 (x0.first_).length), (.vec p0_last_ 1 (x0.last_).length), (.vec p0_count 1 (x0.count).length), (eI x0.free), (eI x0.clock)]), (p0_nodes, (cL e_lists_link x0.nodes)), (p0_first_, (cL eI x0.first_)), (p0_last_, (cL eI x0.last_)), (p0_count, (cL eI x0.count))] [tk164] τ) ⟨(wkf_cons (.of_eq rfl) (wkf_cons (.of_eq rfl) (wkf_cons (.of_eq rfl) (wkf_nil _)))), hH⟩ ?_
        rintro c167 fr τ y171 ⟨hfr, hH⟩ hb173 hy174
        have H176 : lists_Lists_Sound_b3 x0 s123 v166 c167 = some y171 := hb173
        unfold lists_Lists_Sound_b3 at H176
        refine AWP.fm [(133, (eT tk164 1 eI s123)), (134, (eI v166)), (135, (eI c167))] hfr ?_
        have hH : Holds σ [(p0, [(.vec p0_nodes 4 (x0.nodes).length), (.vec p0_first_ 1 (x0.first_).length), (.vec p0_last_ 1 (x0.last_).length), (.vec p0_count 1 (x0.count).length), (eI x0.free), (eI x0.clock)]), (p0_nodes, (cL e_lists_link x0.nodes)), (p0_first_, (cL eI x0.first_)), (p0_last_, (cL eI x0.last_)), (p0_count, (cL eI x0.count))] [tk164] τ := hH
        refine awp_seq ?_
        refine awp_region rfl ?_
        refine wpo_lt H176 eB rfl rfl rfl (o_ar tk rfl rfl rfl) fun v178 H177 => ?_
        refine wpo_nil ?_
        refine awp_seq ?_
        refine awp_if H177 rfl (fun H179 => ?_) (fun H179 => ?_)
        · refine awp_skip ?_
          refine awp_seq ?_
          refine awp_block ?_
          refine awp_seq ?_
          refine awp_region rfl ?_
          refine wpo_bd H179 (fun y => .fptr (eI y).cells 0) rfl rfl rfl (fun v181 hv => o_ixa tk hv td62 (enc_i64 td3 sz3) rfl rfl) fun v181 hv181 H180 => ?_
          refine wpo_mv (a := (eI v181)) rfl rfl rfl (o_ld_e tk (enc_i64 td3 sz3) rfl rfl) ?_
          refine wpo_mv (a := (eI v181)) rfl rfl rfl (o_as tk rfl (Wk.refl _)) ?_
          refine wpo_nil ?_
          refine awp_seq ?_
          refine awp_region rfl ?_
          refine wpo_mv (a := (eI v181)) rfl rfl rfl (o_mv tk rfl (Wk.refl _)) ?_
          refine wpo_lt H180 eB rfl rfl rfl (o_ar tk rfl rfl rfl) fun v183 H182 => ?_
          refine wpo_nil ?_
          refine awp_if H182 rfl (fun H184 => ?_) (fun H184 => ?_)
          · refine awp_seq ?_
            refine awp_region rfl ?_
            refine wpo_mv (a := (eB false)) rfl rfl rfl (o_as tk rfl (Wk.refl _)) ?_
            refine wpo_nil ?_
            refine awp_ret ?_
            have hz := hy174 _ (inj_inr H184)
            refine ⟨⟨_, inj_inr H184⟩, ?_⟩
            rw [← hz] at hj170
            have H185 := (show some _ = some _ from hj170)
            obtain rfl := Option.some.inj H185
            exact ⟨_, (eB false), rfl, (.of_eq rfl), .of_eq ((enc_b td4 sz4).cut _ _ _), (((((hH.noT.unbring h0).unbring h0_nodes).unbring h0_first_).unbring h0_last_).unbring h0_count)⟩
          · refine awp_skip ?_
            refine awp_region rfl ?_
            refine wpo_lt H184 eI rfl rfl rfl (o_ar tk rfl rfl rfl) fun v187 H186 => ?_
            refine wpo_mv (a := (eI v187)) rfl rfl rfl (o_mv tk rfl (Wk.refl _)) ?_
            refine wpo_nil ?_
            exact ⟨v187, inj_inl H186, (wkf_cons (.of_eq rfl) (wkf_cons (.of_eq rfl) (wkf_cons (.of_eq rfl) (wkf_nil _)))), hH⟩
        · refine awp_exit ?_
          have hz := hy174 _ (inj_inr H179)
          exact ⟨⟨_, inj_inr H179⟩, (), hz.symm, (wkf_nil _), hH.noT⟩
    · refine awp_loopO (body := fun s => lists_Lists_Sound_b2 x0 s.1 s.2) hs117 (fun (s : (List Int) × Int) fr τ => ∃ id_3, σ.objs.length ≤ id_3 ∧ WkF fr (fm [(0, (.ref p0 0)), (3, (.vec id_3 1 (s.1).length)), (9, (eI s.2))]) ∧ Holds σ [(id_3, (cL eI s.1)), (p0, [(.vec p0_nodes 4 (x0.nodes).length), (.vec p0_first_ 1 (x0.first_).length), (.vec p0_last_ 1 (x0.last_).length), (.vec p0_count 1 (x0.count).length), (eI x0.free), (eI x0.clock)]), (p0_nodes, (cL e_lists_link x0.nodes)), (p0_first_, (cL eI x0.first_)), (p0_last_, (cL eI x0.last_)), (p0_count, (cL eI x0.count))] [] τ) ⟨id_3, n_3, (wkf_cons (.of_eq rfl) (wkf_cons (.of_eq rfl) (wkf_cons (.of_eq rfl) (wkf_nil _)))), hH⟩ ?_
      rintro ⟨c114, c115⟩ fr τ y119 ⟨id_3, n_3, hfr, hH⟩ hb121 hy122
      have H124 : lists_Lists_Sound_b2 x0 c114 c115 = some y119 := hb121
      unfold lists_Lists_Sound_b2 at H124
      refine AWP.fm [(0, (.ref p0 0)), (3, (.vec id_3 1 (c114).length)), (9, (eI c115))] hfr ?_
      have hH : Holds σ [(id_3, (cL eI c114)), (p0, [(.vec p0_nodes 4 (x0.nodes).length), (.vec p0_first_ 1 (x0.first_).length), (.vec p0_last_ 1 (x0.last_).length), (.vec p0_count 1 (x0.count).length), (eI x0.free), (eI x0.clock)]), (p0_nodes, (cL e_lists_link x0.nodes)), (p0_first_, (cL eI x0.first_)), (p0_last_, (cL eI x0.last_)), (p0_count, (cL eI x0.count))] [] τ := hH
      refine awp_seq ?_
      refine awp_seq ?_
      refine awp_region rfl ?_
      refine wpo_mv (a := (eI c115)) rfl rfl rfl (o_mv tk rfl (Wk.refl _)) ?_
      refine wpo_lt H124 eB rfl rfl rfl (o_ar tk rfl rfl rfl) fun v126 H125 => ?_
      refine wpo_nil ?_
      refine awp_if H125 rfl (fun H127 => ?_) (fun H127 => ?_)
      · refine awp_skip ?_
        refine awp_seq ?_
        refine awp_block ?_
        refine awp_seq ?_
        refine awp_seq ?_
        obtain ⟨s128, hs130, hj131⟩ := Option.bind_eq_some_iff.1 H127
        refine awp_cutn (fun fr τ => WkF fr (fm [(0, (.ref p0 0)), (3, (.vec id_3 1 (c114).length)), (9, (eI c115)), (126, (eB s128))]) ∧ Holds σ [(id_3, (cL eI c114)), (p0, [(.vec p0_nodes 4 (x0.nodes).length), (.vec p0_first_ 1 (x0.first_).length), (.vec p0_last_ 1 (x0.last_).length), (.vec p0_count 1 (x0.count).length), (eI x0.free), (eI x0.clock)]), (p0_nodes, (cL e_lists_link x0.nodes)), (p0_first_, (cL eI x0.first_)), (p0_last_, (cL eI x0.last_)), (p0_count, (cL eI x0.count))] [] τ) ?_ ?_
        · rintro fr τ ⟨hfr, hH⟩
          have H145 := hj131
          refine AWP.fm [(0, (.ref p0 0)), (3, (.vec id_3 1 (c114).length)), (9, (eI c115)), (126, (eB s128))] hfr ?_
          refine awp_if H145 rfl (fun H146 => ?_) (fun H146 => ?_)
          · refine awp_seq ?_
            refine awp_region rfl ?_
            refine wpo_mv (a := (eB false)) rfl rfl rfl (o_as tk rfl (Wk.refl _)) ?_
            refine wpo_nil ?_
            refine awp_ret ?_
            have hz := hy122 _ (inj_inr H146)
            refine ⟨⟨_, inj_inr H146⟩, ?_⟩
            rw [← hz] at hj118
            have H147 := (show some _ = some _ from hj118)
            obtain rfl := Option.some.inj H147
            exact ⟨_, (eB false), rfl, (.of_eq rfl), .of_eq ((enc_b td4 sz4).cut _ _ _), ((((((hH.noT.drop n_3).unbring h0).unbring h0_nodes).unbring h0_first_).unbring h0_last_).unbring h0_count)⟩
          · refine awp_skip ?_
            refine awp_region rfl ?_
            refine wpo_mv (a := (.vec id_3 1 (c114).length)) rfl rfl rfl (o_mv tk rfl (Wk.refl _)) ?_
            refine wpo_mv (a := (eI c115)) rfl rfl rfl (o_mv tk rfl (Wk.refl _)) ?_
            refine wpo_bd H146 (fun _ => .ref id_3 (0 + (c115 : Int).toNat * 1 + 0)) rfl rfl rfl (fun v149 hv => o_vecx tk hv td62 sz3 (by decide) rfl rfl) fun v149 hv149 H148 => ?_
            refine wpo_bdr H148 (fun y => eI y) rfl rfl rfl (fun v151 hv => h_ldx tk hH 0 hv rfl (enc_i64 td3 sz3) (acut_enc (enc_i64 td3 sz3) rfl _) (by decide) rfl) fun v151 hv151 H150 => ?_
            refine wpo_lt H150 eI rfl rfl rfl (o_ar tk rfl rfl rfl) fun v153 H152 => ?_
            refine wpo_bd H152 (fun _ => .ref id_3 (0 + (c115 : Int).toNat * 1 + 0)) rfl rfl rfl (fun v155 hv => o_vecx tk hv td62 sz3 (by decide) rfl rfl) fun v155 hv155 H154 => ?_
            obtain ⟨c157, hc158, H156⟩ := Option.bind_eq_some_iff.1 H154
            refine wpo_z rfl rfl (h_stx tk hH 0 hc158 rfl (enc_i64 td3 sz3) ty3 (by simp) rfl rfl (.of_eq rfl) (b := (eI v153)) rfl rfl (by decide) (fun _ => rfl)) fun τ hH => ?_
            refine wpo_nil ?_
            refine awp_region rfl ?_
            refine wpo_mv (a := (.ref p0 0)) rfl rfl rfl (o_mv tk rfl (Wk.refl _)) ?_
            refine wpo_mv (a := (.ref p0 0)) rfl rfl rfl (o_c tk false rfl (fun _ => rfl)) ?_
            refine wpo_mv (a := (.ref p0 0)) rfl rfl rfl (o_c tk false rfl (fun _ => rfl)) ?_
            refine wpo_rd (a := (.vec p0_nodes 4 (x0.nodes).length)) rfl rfl rfl (h_ld tk hH 1 rfl rfl rfl) ?_
            refine wpo_mv (a := (eI c115)) rfl rfl rfl (o_mv tk rfl (Wk.refl _)) ?_
            refine wpo_bd H156 (fun _ => .ref p0_nodes (0 + (c115 : Int).toNat * 4 + 0)) rfl rfl rfl (fun v160 hv => o_vecx tk hv td112 sz116 (by decide) rfl rfl) fun v160 hv160 H159 => ?_
            refine wpo_mv (a := (.ref p0_nodes (0 + (c115 : Int).toNat * 4 + 1))) rfl rfl rfl (o_c tk false rfl (fun _ => rfl)) ?_
            refine wpo_bdr H159 (fun y => eI y.behind) rfl rfl rfl (fun v162 hv => h_ldx tk hH 2 hv rfl enc116 rfl (by decide) rfl) fun v162 hv162 H161 => ?_
            refine wpo_mv (a := (eI v162.behind)) rfl rfl rfl (o_as tk rfl (Wk.refl _)) ?_
            refine wpo_nil ?_
            exact ⟨(c157, v162.behind), inj_inl H161, id_3, n_3, (wkf_cons (.of_eq rfl) (wkf_cons (.of_eq (congrArg (AV.vec _ _) ((updA_len hc158)).symm)) (wkf_cons (.of_eq rfl) (wkf_nil _)))), hH⟩
        · refine awp_region rfl ?_
          refine wpo_mv (a := (.vec id_3 1 (c114).length)) rfl rfl rfl (o_mv tk rfl (Wk.refl _)) ?_
          refine wpo_mv (a := (eI c115)) rfl rfl rfl (o_mv tk rfl (Wk.refl _)) ?_
          refine wpo_bd hs130 (fun _ => .ref id_3 (0 + (c115 : Int).toNat * 1 + 0)) rfl rfl rfl (fun v133 hv => o_vecx tk hv td62 sz3 (by decide) rfl rfl) fun v133 hv133 H132 => ?_
          refine wpo_bdr H132 (fun y => eI y) rfl rfl rfl (fun v135 hv => h_ldx tk hH 0 hv rfl (enc_i64 td3 sz3) (acut_enc (enc_i64 td3 sz3) rfl _) (by decide) rfl) fun v135 hv135 H134 => ?_
          refine wpo_lt H134 eB rfl rfl rfl (o_ar tk rfl rfl rfl) fun v137 H136 => ?_
          refine wpo_mv (a := (eB v137)) rfl rfl rfl (o_mv tk rfl (Wk.refl _)) ?_
          refine if_split H136 (fun hb H138 => ?_) (fun hb H138 => ?_)
          · subst hb
            refine wpo_skip rfl rfl rfl ?_
            refine wpo_skip rfl rfl rfl ?_
            refine wpo_skip rfl rfl rfl ?_
            refine wpo_skip rfl rfl rfl ?_
            refine wpo_skip rfl rfl rfl ?_
            refine wpo_skip rfl rfl rfl ?_
            refine wpo_skip rfl rfl rfl ?_
            refine wpo_skip rfl rfl rfl ?_
            refine wpo_skip rfl rfl rfl ?_
            refine wpo_mv (a := (eB true)) rfl rfl rfl (o_pick_t tk rfl rfl (Wk.refl _)) ?_
            refine wpo_nil ?_
            have e := Option.some.inj H138
            subst e
            exact ⟨(wkf_cons (.of_eq rfl) (wkf_cons (.of_eq rfl) (wkf_cons (.of_eq rfl) (wkf_cons (.of_eq rfl) (wkf_nil _))))), hH⟩
          · subst hb
            refine wpo_mv (a := (.ref p0 0)) rfl rfl rfl (o_mv tk rfl (Wk.refl _)) ?_
            refine wpo_mv (a := (.ref p0 0)) rfl rfl rfl (o_c tk false rfl (fun _ => rfl)) ?_
            refine wpo_mv (a := (.ref p0 0)) rfl rfl rfl (o_c tk false rfl (fun _ => rfl)) ?_
            refine wpo_rd (a := (.vec p0_nodes 4 (x0.nodes).length)) rfl rfl rfl (h_ld tk hH 1 rfl rfl rfl) ?_
            refine wpo_mv (a := (eI c115)) rfl rfl rfl (o_mv tk rfl (Wk.refl _)) ?_
            refine wpo_bd H138 (fun _ => .ref p0_nodes (0 + (c115 : Int).toNat * 4 + 0)) rfl rfl rfl (fun v140 hv => o_vecx tk hv td112 sz116 (by decide) rfl rfl) fun v140 hv140 H139 => ?_
            refine wpo_mv (a := (.ref p0_nodes (0 + (c115 : Int).toNat * 4 + 2))) rfl rfl rfl (o_c tk false rfl (fun _ => rfl)) ?_
            refine wpo_bdr H139 (fun y => eI y.list) rfl rfl rfl (fun v142 hv => h_ldx tk hH 2 hv rfl enc116 rfl (by decide) rfl) fun v142 hv142 H141 => ?_
            refine wpo_lt H141 eB rfl rfl rfl (o_ar tk rfl rfl rfl) fun v144 H143 => ?_
            refine wpo_mv (a := (eB v144)) rfl rfl rfl (o_pick_f tk rfl rfl (Wk.refl _)) ?_
            refine wpo_nil ?_
            have e := Option.some.inj H143
            subst e
            exact ⟨(wkf_cons (.of_eq rfl) (wkf_cons (.of_eq rfl) (wkf_cons (.of_eq rfl) (wkf_cons (.of_eq rfl) (wkf_nil _))))), hH⟩
      · refine awp_exit ?_
        have hz := hy122 _ (inj_inr H127)
        exact ⟨⟨_, inj_inr H127⟩, c114, hz.symm, id_3, n_3, (wkf_cons (.of_eq rfl) (wkf_nil _)), hH⟩
  · refine awp_loopO (body := fun s => lists_Lists_Sound_b0 x0 v9 s.1 s.2) hs13 (fun (s : (List Int) × Int) fr τ => ∃ id_3, σ.objs.length ≤ id_3 ∧ WkF fr (fm [(0, (.ref p0 0)), (3, (.vec id_3 1 (s.1).length)), (22, (eI v9)), (23, (eI s.2))]) ∧ Holds σ [(id_3, (cL eI s.1)), (p0, [(.vec p0_nodes 4 (x0.nodes).length), (.vec p0_first_ 1 (x0.first_).length), (.vec p0_last_ 1 (x0.last_).length), (.vec p0_count 1 (x0.count).length), (eI x0.free), (eI x0.clock)]), (p0_nodes, (cL e_lists_link x0.nodes)), (p0_first_, (cL eI x0.first_)), (p0_last_, (cL eI x0.last_)), (p0_count, (cL eI x0.count))] [] τ) ⟨id6, n7, (wkf_cons (.of_eq rfl) (wkf_cons (.of_eq rfl) (wkf_cons (.of_eq rfl) (wkf_cons (.of_eq rfl) (wkf_nil _))))), hH⟩ ?_
    rintro ⟨c10, c11⟩ fr τ y15 ⟨id_3, n_3, hfr, hH⟩ hb17 hy18
    have H20 : lists_Lists_Sound_b0 x0 v9 c10 c11 = some y15 := hb17
    unfold lists_Lists_Sound_b0 at H20
    refine AWP.fm [(0, (.ref p0 0)), (3, (.vec id_3 1 (c10).length)), (22, (eI v9)), (23, (eI c11))] hfr ?_
    have hH : Holds σ [(id_3, (cL eI c10)), (p0, [(.vec p0_nodes 4 (x0.nodes).length), (.vec p0_first_ 1 (x0.first_).length), (.vec p0_last_ 1 (x0.last_).length), (.vec p0_count 1 (x0.count).length), (eI x0.free), (eI x0.clock)]), (p0_nodes, (cL e_lists_link x0.nodes)), (p0_first_, (cL eI x0.first_)), (p0_last_, (cL eI x0.last_)), (p0_count, (cL eI x0.count))] [] τ := hH
    refine awp_seq ?_
    refine awp_region rfl ?_
    refine wpo_lt H20 eB rfl rfl rfl (o_ar tk rfl rfl rfl) fun v22 H21 => ?_
    refine wpo_nil ?_
    refine awp_seq ?_
    refine awp_if H21 rfl (fun H23 => ?_) (fun H23 => ?_)
    · refine awp_skip ?_
      refine awp_seq ?_
      refine awp_block ?_
      refine awp_seq ?_
      refine awp_region rfl ?_
      refine wpo_mv (a := (eI c11)) rfl rfl rfl (o_mv tk rfl (Wk.refl _)) ?_
      refine wpo_mv (a := (eI c11)) rfl rfl rfl (o_as tk rfl (Wk.refl _)) ?_
      refine wpo_nil ?_
      refine awp_seq ?_
      refine awp_region rfl ?_
      refine wpo_mv (a := (eI (-1 : Int))) rfl rfl rfl (o_as tk rfl (Wk.refl _)) ?_
      refine wpo_mv (a := (eI (0 : Int))) rfl rfl rfl (o_as tk rfl (Wk.refl _)) ?_
      refine wpo_nil ?_
      refine awp_seq ?_
      refine awp_seq ?_
      refine awp_region rfl ?_
      refine wpo_mv (a := (.ref p0 0)) rfl rfl rfl (o_mv tk rfl (Wk.refl _)) ?_
      refine wpo_mv (a := (.ref p0 0)) rfl rfl rfl (o_c tk false rfl (fun _ => rfl)) ?_
      refine wpo_mv (a := (.ref p0 1)) rfl rfl rfl (o_c tk false rfl (fun _ => rfl)) ?_
      refine wpo_rd (a := (.vec p0_first_ 1 (x0.first_).length)) rfl rfl rfl (h_ld tk hH 1 rfl rfl rfl) ?_
      refine wpo_mv (a := (eI c11)) rfl rfl rfl (o_mv tk rfl (Wk.refl _)) ?_
      refine wpo_bd H23 (fun _ => .ref p0_first_ (0 + (c11 : Int).toNat * 1 + 0)) rfl rfl rfl (fun v25 hv => o_vecx tk hv td62 sz3 (by decide) rfl rfl) fun v25 hv25 H24 => ?_
      refine wpo_bdr H24 (fun y => eI y) rfl rfl rfl (fun v27 hv => h_ldx tk hH 3 hv rfl (enc_i64 td3 sz3) (acut_enc (enc_i64 td3 sz3) rfl _) (by decide) rfl) fun v27 hv27 H26 => ?_
      refine wpo_mv (a := (eI v27)) rfl rfl rfl (o_as tk rfl (Wk.refl _)) ?_
      refine wpo_nil ?_
      refine awp_block ?_
      obtain ⟨o32, hs33, hj34⟩ := Option.bind_eq_some_iff.1 H26
      refine awp_cutx 2 (fun fr τ => ∃ s39 : (List Int) × Int × Int, o32 = .inl s39 ∧ ∃ id_3, σ.objs.length ≤ id_3 ∧ WkF fr (fm [(0, (.ref p0 0)), (3, (.vec id_3 1 (s39.1).length)), (4, (eI c11)), (5, (eI s39.2.1)), (6, (eI s39.2.2)), (22, (eI v9)), (23, (eI c11))]) ∧ Holds σ [(id_3, (cL eI s39.1)), (p0, [(.vec p0_nodes 4 (x0.nodes).length), (.vec p0_first_ 1 (x0.first_).length), (.vec p0_last_ 1 (x0.last_).length), (.vec p0_count 1 (x0.count).length), (eI x0.free), (eI x0.clock)]), (p0_nodes, (cL e_lists_link x0.nodes)), (p0_first_, (cL eI x0.first_)), (p0_last_, (cL eI x0.last_)), (p0_count, (cL eI x0.count))] [] τ) ?_ ?_
      · rintro fr τ ⟨s39, rfl, id_3, n_3, hfr, hH⟩
        have H90 := hj34
        simp only [Sum.elim_inl] at H90
        refine AWP.fm [(0, (.ref p0 0)), (3, (.vec id_3 1 (s39.1).length)), (4, (eI c11)), (5, (eI s39.2.1)), (6, (eI s39.2.2)), (22, (eI v9)), (23, (eI c11))] hfr ?_
        refine awp_seq ?_
        refine awp_seq ?_
        obtain ⟨s91, hs93, hj94⟩ := Option.bind_eq_some_iff.1 H90
        refine awp_cutn (fun fr τ => WkF fr (fm [(0, (.ref p0 0)), (3, (.vec id_3 1 (s39.1).length)), (22, (eI v9)), (23, (eI c11)), (95, (eB s91))]) ∧ Holds σ [(id_3, (cL eI s39.1)), (p0, [(.vec p0_nodes 4 (x0.nodes).length), (.vec p0_first_ 1 (x0.first_).length), (.vec p0_last_ 1 (x0.last_).length), (.vec p0_count 1 (x0.count).length), (eI x0.free), (eI x0.clock)]), (p0_nodes, (cL e_lists_link x0.nodes)), (p0_first_, (cL eI x0.first_)), (p0_last_, (cL eI x0.last_)), (p0_count, (cL eI x0.count))] [] τ) ?_ ?_
        · rintro fr τ ⟨hfr, hH⟩
          have H108 := hj94
          refine AWP.fm [(0, (.ref p0 0)), (3, (.vec id_3 1 (s39.1).length)), (22, (eI v9)), (23, (eI c11)), (95, (eB s91))] hfr ?_
          refine awp_if H108 rfl (fun H109 => ?_) (fun H109 => ?_)
          · refine awp_exit ?_
            refine awp_region rfl ?_
            refine wpo_lt H109 eI rfl rfl rfl (o_ar tk rfl rfl rfl) fun v111 H110 => ?_
            refine wpo_mv (a := (eI v111)) rfl rfl rfl (o_mv tk rfl (Wk.refl _)) ?_
            refine wpo_nil ?_
            exact ⟨(s39.1, v111), inj_inl H110, id_3, n_3, (wkf_cons (.of_eq rfl) (wkf_cons (.of_eq rfl) (wkf_cons (.of_eq rfl) (wkf_cons (.of_eq rfl) (wkf_nil _))))), hH⟩
          · refine awp_skip ?_
            refine awp_seq ?_
            refine awp_region rfl ?_
            refine wpo_mv (a := (eB false)) rfl rfl rfl (o_as tk rfl (Wk.refl _)) ?_
            refine wpo_nil ?_
            refine awp_ret ?_
            have hz := hy18 _ (inj_inr H109)
            refine ⟨⟨_, inj_inr H109⟩, ?_⟩
            rw [← hz] at hj14
            have H112 := (show some _ = some _ from hj14)
            obtain rfl := Option.some.inj H112
            exact ⟨_, (eB false), rfl, (.of_eq rfl), .of_eq ((enc_b td4 sz4).cut _ _ _), ((((((hH.noT.drop n_3).unbring h0).unbring h0_nodes).unbring h0_first_).unbring h0_last_).unbring h0_count)⟩
        · refine awp_region rfl ?_
          refine wpo_mv (a := (.ref p0 0)) rfl rfl rfl (o_mv tk rfl (Wk.refl _)) ?_
          refine wpo_mv (a := (.ref p0 0)) rfl rfl rfl (o_c tk false rfl (fun _ => rfl)) ?_
          refine wpo_mv (a := (.ref p0 2)) rfl rfl rfl (o_c tk false rfl (fun _ => rfl)) ?_
          refine wpo_rd (a := (.vec p0_last_ 1 (x0.last_).length)) rfl rfl rfl (h_ld tk hH 1 rfl rfl rfl) ?_
          refine wpo_mv (a := (eI c11)) rfl rfl rfl (o_mv tk rfl (Wk.refl _)) ?_
          refine wpo_bd hs93 (fun _ => .ref p0_last_ (0 + (c11 : Int).toNat * 1 + 0)) rfl rfl rfl (fun v96 hv => o_vecx tk hv td62 sz3 (by decide) rfl rfl) fun v96 hv96 H95 => ?_
          refine wpo_bdr H95 (fun y => eI y) rfl rfl rfl (fun v98 hv => h_ldx tk hH 4 hv rfl (enc_i64 td3 sz3) (acut_enc (enc_i64 td3 sz3) rfl _) (by decide) rfl) fun v98 hv98 H97 => ?_
          refine wpo_mv (a := (eI s39.2.1)) rfl rfl rfl (o_mv tk rfl (Wk.refl _)) ?_
          refine wpo_lt H97 eB rfl rfl rfl (o_ar tk rfl rfl rfl) fun v100 H99 => ?_
          refine wpo_mv (a := (eB v100)) rfl rfl rfl (o_mv tk rfl (Wk.refl _)) ?_
          refine if_split H99 (fun hb H101 => ?_) (fun hb H101 => ?_)
          · subst hb
            refine wpo_mv (a := (.ref p0 0)) rfl rfl rfl (o_mv tk rfl (Wk.refl _)) ?_
            refine wpo_mv (a := (.ref p0 0)) rfl rfl rfl (o_c tk false rfl (fun _ => rfl)) ?_
            refine wpo_mv (a := (.ref p0 3)) rfl rfl rfl (o_c tk false rfl (fun _ => rfl)) ?_
            refine wpo_rd (a := (.vec p0_count 1 (x0.count).length)) rfl rfl rfl (h_ld tk hH 1 rfl rfl rfl) ?_
            refine wpo_mv (a := (eI c11)) rfl rfl rfl (o_mv tk rfl (Wk.refl _)) ?_
            refine wpo_bd H101 (fun _ => .ref p0_count (0 + (c11 : Int).toNat * 1 + 0)) rfl rfl rfl (fun v103 hv => o_vecx tk hv td62 sz3 (by decide) rfl rfl) fun v103 hv103 H102 => ?_
            refine wpo_bdr H102 (fun y => eI y) rfl rfl rfl (fun v105 hv => h_ldx tk hH 5 hv rfl (enc_i64 td3 sz3) (acut_enc (enc_i64 td3 sz3) rfl _) (by decide) rfl) fun v105 hv105 H104 => ?_
            refine wpo_mv (a := (eI s39.2.2)) rfl rfl rfl (o_mv tk rfl (Wk.refl _)) ?_
            refine wpo_lt H104 eB rfl rfl rfl (o_ar tk rfl rfl rfl) fun v107 H106 => ?_
            refine wpo_mv (a := (eB v107)) rfl rfl rfl (o_pick_t tk rfl rfl (Wk.refl _)) ?_
            refine wpo_nil ?_
            have e := Option.some.inj H106
            subst e
            exact ⟨(wkf_cons (.of_eq rfl) (wkf_cons (.of_eq rfl) (wkf_cons (.of_eq rfl) (wkf_cons (.of_eq rfl) (wkf_cons (.of_eq rfl) (wkf_nil _)))))), hH⟩
          · subst hb
            refine wpo_skip rfl rfl rfl ?_
            refine wpo_skip rfl rfl rfl ?_
            refine wpo_skip rfl rfl rfl ?_
            refine wpo_skip rfl rfl rfl ?_
            refine wpo_skip rfl rfl rfl ?_
            refine wpo_skip rfl rfl rfl ?_
            refine wpo_skip rfl rfl rfl ?_
            refine wpo_skip rfl rfl rfl ?_
            refine wpo_skip rfl rfl rfl ?_
            refine wpo_mv (a := (eB false)) rfl rfl rfl (o_pick_f tk rfl rfl (Wk.refl _)) ?_
            refine wpo_nil ?_
            have e := Option.some.inj H101
            subst e
            exact ⟨(wkf_cons (.of_eq rfl) (wkf_cons (.of_eq rfl) (wkf_cons (.of_eq rfl) (wkf_cons (.of_eq rfl) (wkf_cons (.of_eq rfl) (wkf_nil _)))))), hH⟩
      · refine awp_loopO (body := fun s => lists_Lists_Sound_b1 x0 v9 c11 s.1 s.2.1 s.2.2.1 s.2.2.2) hs33 (fun (s : (List Int) × Int × Int × Int) fr τ => ∃ id_3, σ.objs.length ≤ id_3 ∧ WkF fr (fm [(0, (.ref p0 0)), (3, (.vec id_3 1 (s.1).length)), (4, (eI c11)), (5, (eI s.2.1)), (6, (eI s.2.2.1)), (7, (eI s.2.2.2)), (22, (eI v9)), (23, (eI c11))]) ∧ Holds σ [(id_3, (cL eI s.1)), (p0, [(.vec p0_nodes 4 (x0.nodes).length), (.vec p0_first_ 1 (x0.first_).length), (.vec p0_last_ 1 (x0.last_).length), (.vec p0_count 1 (x0.count).length), (eI x0.free), (eI x0.clock)]), (p0_nodes, (cL e_lists_link x0.nodes)), (p0_first_, (cL eI x0.first_)), (p0_last_, (cL eI x0.last_)), (p0_count, (cL eI x0.count))] [] τ) ⟨id_3, n_3, (wkf_cons (.of_eq rfl) (wkf_cons (.of_eq rfl) (wkf_cons (.of_eq rfl) (wkf_cons (.of_eq rfl) (wkf_cons (.of_eq rfl) (wkf_cons (.of_eq rfl) (wkf_cons (.of_eq rfl) (wkf_cons (.of_eq rfl) (wkf_nil _))))))))), hH⟩ ?_
        rintro ⟨c28, c29, c30, c31⟩ fr τ y35 ⟨id_3, n_3, hfr, hH⟩ hb37 hy38
        have H40 : lists_Lists_Sound_b1 x0 v9 c11 c28 c29 c30 c31 = some y35 := hb37
        unfold lists_Lists_Sound_b1 at H40
        refine AWP.fm [(0, (.ref p0 0)), (3, (.vec id_3 1 (c28).length)), (4, (eI c11)), (5, (eI c29)), (6, (eI c30)), (7, (eI c31)), (22, (eI v9)), (23, (eI c11))] hfr ?_
        have hH : Holds σ [(id_3, (cL eI c28)), (p0, [(.vec p0_nodes 4 (x0.nodes).length), (.vec p0_first_ 1 (x0.first_).length), (.vec p0_last_ 1 (x0.last_).length), (.vec p0_count 1 (x0.count).length), (eI x0.free), (eI x0.clock)]), (p0_nodes, (cL e_lists_link x0.nodes)), (p0_first_, (cL eI x0.first_)), (p0_last_, (cL eI x0.last_)), (p0_count, (cL eI x0.count))] [] τ := hH
        refine awp_seq ?_
        refine awp_seq ?_
        refine awp_region rfl ?_
        refine wpo_mv (a := (eI c31)) rfl rfl rfl (o_mv tk rfl (Wk.refl _)) ?_
        refine wpo_lt H40 eB rfl rfl rfl (o_ar tk rfl rfl rfl) fun v42 H41 => ?_
        refine wpo_nil ?_
        refine awp_if H41 rfl (fun H43 => ?_) (fun H43 => ?_)
        · refine awp_skip ?_
          refine awp_seq ?_
          refine awp_block ?_
          refine awp_seq ?_
          refine awp_seq ?_
          refine awp_region rfl ?_
          refine wpo_mv (a := (.ref p0 0)) rfl rfl rfl (o_mv tk rfl (Wk.refl _)) ?_
          refine wpo_mv (a := (.ref p0 0)) rfl rfl rfl (o_c tk false rfl (fun _ => rfl)) ?_
          refine wpo_mv (a := (.ref p0 0)) rfl rfl rfl (o_c tk false rfl (fun _ => rfl)) ?_
          refine wpo_rd (a := (.vec p0_nodes 4 (x0.nodes).length)) rfl rfl rfl (h_ld tk hH 1 rfl rfl rfl) ?_
          refine wpo_mv (a := (eI c31)) rfl rfl rfl (o_mv tk rfl (Wk.refl _)) ?_
          refine wpo_bd H43 (fun _ => .ref p0_nodes (0 + (c31 : Int).toNat * 4 + 0)) rfl rfl rfl (fun v45 hv => o_vecx tk hv td112 sz116 (by decide) rfl rfl) fun v45 hv45 H44 => ?_
          refine wpo_bdr H44 (fun y => e_lists_link y) rfl rfl rfl (fun v47 hv => h_ldx tk hH 2 hv rfl enc116 (acut_enc enc116 rfl _) (by decide) rfl) fun v47 hv47 H46 => ?_
          refine wpo_a (av := fun id => .ref id 0) rfl rfl rfl (h_alloc tk hH ty116 (c_lists_link z_lists_link) rfl) fun id48 τ ⟨hH, n49⟩ => ?_
          obtain ⟨c51, hc52, H50⟩ := lt_ex H46
          refine wpo_z rfl rfl (h_st tk hH 0 rfl ty116 (by simp) rfl rfl (.of_eq rfl) (b := (e_lists_link v47)) (enc116.flat _) rfl (Nat.le_of_ble_eq_true rfl) (c_lists_link c51) (by rw [← hc52]; rfl)) fun τ hH => ?_
          refine wpo_nil ?_
          refine awp_seq ?_
          obtain ⟨s53, hs55, hj56⟩ := Option.bind_eq_some_iff.1 H50
          refine awp_cutn (fun fr τ => WkF fr (fm [(0, (.ref p0 0)), (3, (.vec id_3 1 (c28).length)), (4, (eI c11)), (6, (eI c30)), (7, (eI c31)), (22, (eI v9)), (23, (eI c11)), (66, (eB s53))]) ∧ Holds σ [(id48, (c_lists_link c51)), (id_3, (cL eI c28)), (p0, [(.vec p0_nodes 4 (x0.nodes).length), (.vec p0_first_ 1 (x0.first_).length), (.vec p0_last_ 1 (x0.last_).length), (.vec p0_count 1 (x0.count).length), (eI x0.free), (eI x0.clock)]), (p0_nodes, (cL e_lists_link x0.nodes)), (p0_first_, (cL eI x0.first_)), (p0_last_, (cL eI x0.last_)), (p0_count, (cL eI x0.count))] [] τ) ?_ ?_
          · rintro fr τ ⟨hfr, hH⟩
            have H69 := hj56
            refine AWP.fm [(0, (.ref p0 0)), (3, (.vec id_3 1 (c28).length)), (4, (eI c11)), (6, (eI c30)), (7, (eI c31)), (22, (eI v9)), (23, (eI c11)), (66, (eB s53))] hfr ?_
            refine awp_if H69 rfl (fun H70 => ?_) (fun H70 => ?_)
            · refine awp_seq ?_
              refine awp_region rfl ?_
              refine wpo_mv (a := (eB false)) rfl rfl rfl (o_as tk rfl (Wk.refl _)) ?_
              refine wpo_nil ?_
              refine awp_ret ?_
              have hz := hy38 _ (inj_inr H70)
              refine ⟨⟨_, inj_inr H70⟩, ?_⟩
              rw [← hz] at hj34
              have H71 := (show some _ = some _ from hj34)
              have hz := hy18 _ (inj_inr H71)
              refine ⟨⟨_, inj_inr H71⟩, ?_⟩
              rw [← hz] at hj14
              have H72 := (show some _ = some _ from hj14)
              obtain rfl := Option.some.inj H72
              exact ⟨_, (eB false), rfl, (.of_eq rfl), .of_eq ((enc_b td4 sz4).cut _ _ _), (((((((hH.noT.drop n49).drop n_3).unbring h0).unbring h0_nodes).unbring h0_first_).unbring h0_last_).unbring h0_count)⟩
            · refine awp_skip ?_
              refine awp_seq ?_
              refine awp_region rfl ?_
              refine wpo_mv (a := (.vec id_3 1 (c28).length)) rfl rfl rfl (o_mv tk rfl (Wk.refl _)) ?_
              refine wpo_mv (a := (eI c31)) rfl rfl rfl (o_mv tk rfl (Wk.refl _)) ?_
              refine wpo_bd H70 (fun _ => .ref id_3 (0 + (c31 : Int).toNat * 1 + 0)) rfl rfl rfl (fun v74 hv => o_vecx tk hv td62 sz3 (by decide) rfl rfl) fun v74 hv74 H73 => ?_
              refine wpo_bdr H73 (fun y => eI y) rfl rfl rfl (fun v76 hv => h_ldx tk hH 1 hv rfl (enc_i64 td3 sz3) (acut_enc (enc_i64 td3 sz3) rfl _) (by decide) rfl) fun v76 hv76 H75 => ?_
              refine wpo_lt H75 eI rfl rfl rfl (o_ar tk rfl rfl rfl) fun v78 H77 => ?_
              refine wpo_bd H77 (fun _ => .ref id_3 (0 + (c31 : Int).toNat * 1 + 0)) rfl rfl rfl (fun v80 hv => o_vecx tk hv td62 sz3 (by decide) rfl rfl) fun v80 hv80 H79 => ?_
              obtain ⟨c82, hc83, H81⟩ := Option.bind_eq_some_iff.1 H79
              refine wpo_z rfl rfl (h_stx tk hH 1 hc83 rfl (enc_i64 td3 sz3) ty3 (by simp) rfl rfl (.of_eq rfl) (b := (eI v78)) rfl rfl (by decide) (fun _ => rfl)) fun τ hH => ?_
              refine wpo_nil ?_
              refine awp_seq ?_
              refine awp_region rfl ?_
              refine wpo_mv (a := (eI c31)) rfl rfl rfl (o_mv tk rfl (Wk.refl _)) ?_
              refine wpo_mv (a := (eI c31)) rfl rfl rfl (o_as tk rfl (Wk.refl _)) ?_
              refine wpo_nil ?_
              refine awp_region rfl ?_
              refine wpo_mv (a := (eI c30)) rfl rfl rfl (o_mv tk rfl (Wk.refl _)) ?_
              refine wpo_lt H81 eI rfl rfl rfl (o_ar tk rfl rfl rfl) fun v85 H84 => ?_
              refine wpo_mv (a := (eI v85)) rfl rfl rfl (o_as tk rfl (Wk.refl _)) ?_
              refine wpo_nil ?_
              refine awp_region rfl ?_
              refine wpo_mv (a := (.ref p0 0)) rfl rfl rfl (o_mv tk rfl (Wk.refl _)) ?_
              refine wpo_mv (a := (.ref p0 0)) rfl rfl rfl (o_c tk false rfl (fun _ => rfl)) ?_
              refine wpo_mv (a := (.ref p0 0)) rfl rfl rfl (o_c tk false rfl (fun _ => rfl)) ?_
              refine wpo_rd (a := (.vec p0_nodes 4 (x0.nodes).length)) rfl rfl rfl (h_ld tk hH 2 rfl rfl rfl) ?_
              refine wpo_mv (a := (eI c31)) rfl rfl rfl (o_mv tk rfl (Wk.refl _)) ?_
              refine wpo_bd H84 (fun _ => .ref p0_nodes (0 + (c31 : Int).toNat * 4 + 0)) rfl rfl rfl (fun v87 hv => o_vecx tk hv td112 sz116 (by decide) rfl rfl) fun v87 hv87 H86 => ?_
              refine wpo_mv (a := (.ref p0_nodes (0 + (c31 : Int).toNat * 4 + 1))) rfl rfl rfl (o_c tk false rfl (fun _ => rfl)) ?_
              refine wpo_bdr H86 (fun y => eI y.behind) rfl rfl rfl (fun v89 hv => h_ldx tk hH 3 hv rfl enc116 rfl (by decide) rfl) fun v89 hv89 H88 => ?_
              refine wpo_mv (a := (eI v89.behind)) rfl rfl rfl (o_as tk rfl (Wk.refl _)) ?_
              refine wpo_nil ?_
              exact ⟨(c82, c31, v85, v89.behind), inj_inl H88, id_3, n_3, (wkf_cons (.of_eq rfl) (wkf_cons (.of_eq (congrArg (AV.vec _ _) ((updA_len hc83)).symm)) (wkf_cons (.of_eq rfl) (wkf_cons (.of_eq rfl) (wkf_cons (.of_eq rfl) (wkf_cons (.of_eq rfl) (wkf_cons (.of_eq rfl) (wkf_cons (.of_eq rfl) (wkf_nil _))))))))), (hH.drop n49)⟩
          · refine awp_region rfl ?_
            refine wpo_mv (a := (.vec id_3 1 (c28).length)) rfl rfl rfl (o_mv tk rfl (Wk.refl _)) ?_
            refine wpo_mv (a := (eI c31)) rfl rfl rfl (o_mv tk rfl (Wk.refl _)) ?_
            refine wpo_bd hs55 (fun _ => .ref id_3 (0 + (c31 : Int).toNat * 1 + 0)) rfl rfl rfl (fun v58 hv => o_vecx tk hv td62 sz3 (by decide) rfl rfl) fun v58 hv58 H57 => ?_
            refine wpo_bdr H57 (fun y => eI y) rfl rfl rfl (fun v60 hv => h_ldx tk hH 1 hv rfl (enc_i64 td3 sz3) (acut_enc (enc_i64 td3 sz3) rfl _) (by decide) rfl) fun v60 hv60 H59 => ?_
            refine wpo_lt H59 eB rfl rfl rfl (o_ar tk rfl rfl rfl) fun v62 H61 => ?_
            refine wpo_mv (a := (eB v62)) rfl rfl rfl (o_mv tk rfl (Wk.refl _)) ?_
            refine if_split H61 (fun hb H63 => ?_) (fun hb H63 => ?_)
            · subst hb
              refine wpo_skip rfl rfl rfl ?_
              refine wpo_skip rfl rfl rfl ?_
              refine wpo_skip rfl rfl rfl ?_
              refine wpo_skip rfl rfl rfl ?_
              refine wpo_mv (a := (eB true)) rfl rfl rfl (o_pick_t tk rfl rfl (Wk.refl _)) ?_
              refine wpo_mv (a := (eB true)) rfl rfl rfl (o_mv tk rfl (Wk.refl _)) ?_
              refine wpo_skip rfl rfl rfl ?_
              refine wpo_skip rfl rfl rfl ?_
              refine wpo_skip rfl rfl rfl ?_
              refine wpo_skip rfl rfl rfl ?_
              refine wpo_mv (a := (eB true)) rfl rfl rfl (o_pick_t tk rfl rfl (Wk.refl _)) ?_
              refine wpo_nil ?_
              have e := Option.some.inj H63
              subst e
              exact ⟨(wkf_cons (.of_eq rfl) (wkf_cons (.of_eq rfl) (wkf_cons (.of_eq rfl) (wkf_cons (.of_eq rfl) (wkf_cons (.of_eq rfl) (wkf_cons (.of_eq rfl) (wkf_cons (.of_eq rfl) (wkf_cons (.of_eq rfl) (wkf_nil _))))))))), hH⟩
            · subst hb
              refine wpo_mv (a := (.ref id48 0)) rfl rfl rfl (o_c tk false rfl (fun _ => rfl)) ?_
              refine wpo_rd (a := (eI c51.ahead)) rfl rfl rfl (h_ld tk hH 0 rfl rfl rfl) ?_
              refine wpo_mv (a := (eI c29)) rfl rfl rfl (o_mv tk rfl (Wk.refl _)) ?_
              refine wpo_lt H63 eB rfl rfl rfl (o_ar tk rfl rfl rfl) fun v65 H64 => ?_
              refine wpo_mv (a := (eB v65)) rfl rfl rfl (o_pick_f tk rfl rfl (Wk.refl _)) ?_
              refine wpo_mv (a := (eB v65)) rfl rfl rfl (o_mv tk rfl (Wk.refl _)) ?_
              refine if_split H64 (fun hb H66 => ?_) (fun hb H66 => ?_)
              · subst hb
                refine wpo_skip rfl rfl rfl ?_
                refine wpo_skip rfl rfl rfl ?_
                refine wpo_skip rfl rfl rfl ?_
                refine wpo_skip rfl rfl rfl ?_
                refine wpo_mv (a := (eB true)) rfl rfl rfl (o_pick_t tk rfl rfl (Wk.refl _)) ?_
                refine wpo_nil ?_
                have e := Option.some.inj H66
                subst e
                exact ⟨(wkf_cons (.of_eq rfl) (wkf_cons (.of_eq rfl) (wkf_cons (.of_eq rfl) (wkf_cons (.of_eq rfl) (wkf_cons (.of_eq rfl) (wkf_cons (.of_eq rfl) (wkf_cons (.of_eq rfl) (wkf_cons (.of_eq rfl) (wkf_nil _))))))))), hH⟩
              · subst hb
                refine wpo_mv (a := (.ref id48 2)) rfl rfl rfl (o_c tk false rfl (fun _ => rfl)) ?_
                refine wpo_rd (a := (eI c51.list)) rfl rfl rfl (h_ld tk hH 0 rfl rfl rfl) ?_
                refine wpo_mv (a := (eI c11)) rfl rfl rfl (o_mv tk rfl (Wk.refl _)) ?_
                refine wpo_lt H66 eB rfl rfl rfl (o_ar tk rfl rfl rfl) fun v68 H67 => ?_
                refine wpo_mv (a := (eB v68)) rfl rfl rfl (o_pick_f tk rfl rfl (Wk.refl _)) ?_
                refine wpo_nil ?_
                have e := Option.some.inj H67
                subst e
                exact ⟨(wkf_cons (.of_eq rfl) (wkf_cons (.of_eq rfl) (wkf_cons (.of_eq rfl) (wkf_cons (.of_eq rfl) (wkf_cons (.of_eq rfl) (wkf_cons (.of_eq rfl) (wkf_cons (.of_eq rfl) (wkf_cons (.of_eq rfl) (wkf_nil _))))))))), hH⟩
        · refine awp_exit ?_
          have hz := hy38 _ (inj_inr H43)
          exact ⟨⟨_, inj_inr H43⟩, (c28, c29, c30), hz.symm, id_3, n_3, (wkf_cons (.of_eq rfl) (wkf_cons (.of_eq rfl) (wkf_cons (.of_eq rfl) (wkf_cons (.of_eq rfl) (wkf_cons (.of_eq rfl) (wkf_cons (.of_eq rfl) (wkf_cons (.of_eq rfl) (wkf_nil _)))))))), hH⟩
    · refine awp_exit ?_
      have hz := hy18 _ (inj_inr H23)
      exact ⟨⟨_, inj_inr H23⟩, c10, hz.symm, id_3, n_3, (wkf_cons (.of_eq rfl) (wkf_cons (.of_eq rfl) (wkf_nil _))), hH⟩
end Go.Proofs.YtobbifgmjkgkfaaDoor
namespace Go.Proofs.YtobbifgmjkgkfaaDoor
open Go Go.Va
set_option linter.unusedVariables false
set_option linter.unusedSimpArgs false
set_option maxRecDepth 20000
theorem lists_Lists_Oldest_ok {x0 : lists_Lists} {r : Int} (H : lists_Lists_Oldest x0 = some r) (σ : St) {p0 p0_nodes p0_first_ p0_last_ p0_count : Nat} (h0 : σ.objs[p0]? = some [(.vec p0_nodes 4 (x0.nodes).length), (.vec p0_first_ 1 (x0.first_).length), (.vec p0_last_ 1 (x0.last_).length), (.vec p0_count 1 (x0.count).length), (eI x0.free), (eI x0.clock)]) (h0_nodes : σ.objs[p0_nodes]? = some (cL e_lists_link x0.nodes)) (h0_first_ : σ.objs[p0_first_]? = some (cL eI x0.first_)) (h0_last_ : σ.objs[p0_last_]? = some (cL eI x0.last_)) (h0_count : σ.objs[p0_count]? = some (cL eI x0.count)) (hd : [p0, p0_nodes, p0_first_, p0_last_, p0_count].Pairwise fun a b => a ≠ b) : ACall Tryd.prog 32 [(.ref p0 0)] σ (fun a τ => a = eI r ∧ τ = σ) := by
  unfold lists_Lists_Oldest at H
  refine ACall.pure (acall_start tk Tryd.func32 (by decide) rfl (Nat.le_of_ble_eq_true rfl) ?_)
  have hH := Holds.brings (σ := σ) [(p0, [(.vec p0_nodes 4 (x0.nodes).length), (.vec p0_first_ 1 (x0.first_).length), (.vec p0_last_ 1 (x0.last_).length), (.vec p0_count 1 (x0.count).length), (eI x0.free), (eI x0.clock)]), (p0_nodes, (cL e_lists_link x0.nodes)), (p0_first_, (cL eI x0.first_)), (p0_last_, (cL eI x0.last_)), (p0_count, (cL eI x0.count))] (by simp only [List.mem_cons, List.not_mem_nil, or_false]; rintro _ (rfl | rfl | rfl | rfl | rfl) <;> assumption) hd
  refine awp_seq ?_
  refine awp_region rfl ?_
  refine wpo_mv (a := (eI (0 : Int))) rfl rfl rfl (o_as tk rfl (Wk.refl _)) ?_
  refine wpo_nil ?_
  refine awp_seq ?_
  refine awp_region rfl ?_
  refine wpo_mv (a := (eI (-1 : Int))) rfl rfl rfl (o_as tk rfl (Wk.refl _)) ?_
  refine wpo_nil ?_
  refine awp_seq ?_
  refine awp_seq ?_
  refine awp_region rfl ?_
  refine wpo_mv (a := (.ref p0 0)) rfl rfl rfl (o_mv tk rfl (Wk.refl _)) ?_
  refine wpo_mv (a := (.ref p0 0)) rfl rfl rfl (o_c tk false rfl (fun _ => rfl)) ?_
  refine wpo_mv (a := (.ref p0 2)) rfl rfl rfl (o_c tk false rfl (fun _ => rfl)) ?_
  refine wpo_rd (a := (.vec p0_last_ 1 (x0.last_).length)) rfl rfl rfl (h_ld tk hH 0 rfl rfl rfl) ?_
  refine wpo_lt H eI rfl rfl rfl (o_vlen tk td62 rfl) fun v2 H1 => ?_
  refine wpo_mv (a := (eI (0 : Int))) rfl rfl rfl (o_mv tk rfl (Wk.refl _)) ?_
  refine wpo_nil ?_
  refine awp_block ?_
  obtain ⟨s12, hs6, hj7⟩ := Option.bind_eq_some_iff.1 H1
  refine awp_cutx 0 (fun fr τ => WkF fr (fm [(3, (eI s12))]) ∧ Holds σ [(p0, [(.vec p0_nodes 4 (x0.nodes).length), (.vec p0_first_ 1 (x0.first_).length), (.vec p0_last_ 1 (x0.last_).length), (.vec p0_count 1 (x0.count).length), (eI x0.free), (eI x0.clock)]), (p0_nodes, (cL e_lists_link x0.nodes)), (p0_first_, (cL eI x0.first_)), (p0_last_, (cL eI x0.last_)), (p0_count, (cL eI x0.count))] [] τ) ?_ ?_
  · rintro fr τ ⟨hfr, hH⟩
    have H47 := hj7
    refine AWP.fm [(3, (eI s12))] hfr ?_
    refine awp_seq ?_
    refine awp_region rfl ?_
    refine wpo_mv (a := (eI s12)) rfl rfl rfl (o_mv tk rfl (Wk.refl _)) ?_
    refine wpo_mv (a := (eI s12)) rfl rfl rfl (o_as tk rfl (Wk.refl _)) ?_
    refine wpo_nil ?_
    refine awp_ret ?_
    obtain rfl := Option.some.inj H47
    exact ⟨_, (eI s12), rfl, (.of_eq rfl), .of_eq ((enc_i64 td3 sz3).cut _ _ _), (((((hH.noT.unbring h0).unbring h0_nodes).unbring h0_first_).unbring h0_last_).unbring h0_count)⟩
  · refine awp_loopO (body := fun s => lists_Lists_Oldest_b0 x0 v2 s.1 s.2) hs6 (fun (s : Int × Int) fr τ => WkF fr (fm [(0, (.ref p0 0)), (3, (eI s.1)), (9, (.vec p0_last_ 1 (x0.last_).length)), (10, (eI v2)), (11, (eI s.2))]) ∧ Holds σ [(p0, [(.vec p0_nodes 4 (x0.nodes).length), (.vec p0_first_ 1 (x0.first_).length), (.vec p0_last_ 1 (x0.last_).length), (.vec p0_count 1 (x0.count).length), (eI x0.free), (eI x0.clock)]), (p0_nodes, (cL e_lists_link x0.nodes)), (p0_first_, (cL eI x0.first_)), (p0_last_, (cL eI x0.last_)), (p0_count, (cL eI x0.count))] [] τ) ⟨(wkf_cons (.of_eq rfl) (wkf_cons (.of_eq rfl) (wkf_cons (.of_eq rfl) (wkf_cons (.of_eq rfl) (wkf_cons (.of_eq rfl) (wkf_nil _)))))), hH⟩ ?_
    rintro ⟨c3, c4⟩ fr τ y8 ⟨hfr, hH⟩ hb10 hy11
    have H13 : lists_Lists_Oldest_b0 x0 v2 c3 c4 = some y8 := hb10
    unfold lists_Lists_Oldest_b0 at H13
    refine AWP.fm [(0, (.ref p0 0)), (3, (eI c3)), (9, (.vec p0_last_ 1 (x0.last_).length)), (10, (eI v2)), (11, (eI c4))] hfr ?_
    have hH : Holds σ [(p0, [(.vec p0_nodes 4 (x0.nodes).length), (.vec p0_first_ 1 (x0.first_).length), (.vec p0_last_ 1 (x0.last_).length), (.vec p0_count 1 (x0.count).length), (eI x0.free), (eI x0.clock)]), (p0_nodes, (cL e_lists_link x0.nodes)), (p0_first_, (cL eI x0.first_)), (p0_last_, (cL eI x0.last_)), (p0_count, (cL eI x0.count))] [] τ := hH
    refine awp_seq ?_
    refine awp_region rfl ?_
    refine wpo_lt H13 eB rfl rfl rfl (o_ar tk rfl rfl rfl) fun v15 H14 => ?_
    refine wpo_nil ?_
    refine awp_seq ?_
    refine awp_if H14 rfl (fun H16 => ?_) (fun H16 => ?_)
    · refine awp_skip ?_
      refine awp_seq ?_
      refine awp_block ?_
      refine awp_seq ?_
      refine awp_region rfl ?_
      refine wpo_bd H16 (fun _ => .ref p0_last_ (0 + (c4 : Int).toNat * 1 + 0)) rfl rfl rfl (fun v18 hv => o_vecx tk hv td62 sz3 (by decide) rfl rfl) fun v18 hv18 H17 => ?_
      refine wpo_bdr H17 (fun y => eI y) rfl rfl rfl (fun v20 hv => h_ldx tk hH 3 hv rfl (enc_i64 td3 sz3) (acut_enc (enc_i64 td3 sz3) rfl _) (by decide) rfl) fun v20 hv20 H19 => ?_
      refine wpo_mv (a := (eI v20)) rfl rfl rfl (o_as tk rfl (Wk.refl _)) ?_
      refine wpo_nil ?_
      refine awp_seq ?_
      obtain ⟨s21, hs23, hj24⟩ := Option.bind_eq_some_iff.1 H19
      refine awp_cutn (fun fr τ => WkF fr (fm [(0, (.ref p0 0)), (3, (eI c3)), (5, (eI v20)), (9, (.vec p0_last_ 1 (x0.last_).length)), (10, (eI v2)), (11, (eI c4)), (39, (eB s21))]) ∧ Holds σ [(p0, [(.vec p0_nodes 4 (x0.nodes).length), (.vec p0_first_ 1 (x0.first_).length), (.vec p0_last_ 1 (x0.last_).length), (.vec p0_count 1 (x0.count).length), (eI x0.free), (eI x0.clock)]), (p0_nodes, (cL e_lists_link x0.nodes)), (p0_first_, (cL eI x0.first_)), (p0_last_, (cL eI x0.last_)), (p0_count, (cL eI x0.count))] [] τ) ?_ ?_
      · rintro fr τ ⟨hfr, hH⟩
        have H41 := hj24
        refine AWP.fm [(0, (.ref p0 0)), (3, (eI c3)), (5, (eI v20)), (9, (.vec p0_last_ 1 (x0.last_).length)), (10, (eI v2)), (11, (eI c4)), (39, (eB s21))] hfr ?_
        refine awp_if H41 rfl (fun H42 => ?_) (fun H42 => ?_)
        · refine awp_region rfl ?_
          refine wpo_mv (a := (eI v20)) rfl rfl rfl (o_mv tk rfl (Wk.refl _)) ?_
          refine wpo_mv (a := (eI v20)) rfl rfl rfl (o_as tk rfl (Wk.refl _)) ?_
          refine wpo_nil ?_
          refine awp_region rfl ?_
          refine wpo_lt H42 eI rfl rfl rfl (o_ar tk rfl rfl rfl) fun v44 H43 => ?_
          refine wpo_mv (a := (eI v44)) rfl rfl rfl (o_mv tk rfl (Wk.refl _)) ?_
          refine wpo_nil ?_
          exact ⟨(v20, v44), inj_inl H43, (wkf_cons (.of_eq rfl) (wkf_cons (.of_eq rfl) (wkf_cons (.of_eq rfl) (wkf_cons (.of_eq rfl) (wkf_cons (.of_eq rfl) (wkf_nil _)))))), hH⟩
        · refine awp_skip ?_
          refine awp_region rfl ?_
          refine wpo_lt H42 eI rfl rfl rfl (o_ar tk rfl rfl rfl) fun v46 H45 => ?_
          refine wpo_mv (a := (eI v46)) rfl rfl rfl (o_mv tk rfl (Wk.refl _)) ?_
          refine wpo_nil ?_
          exact ⟨(c3, v46), inj_inl H45, (wkf_cons (.of_eq rfl) (wkf_cons (.of_eq rfl) (wkf_cons (.of_eq rfl) (wkf_cons (.of_eq rfl) (wkf_cons (.of_eq rfl) (wkf_nil _)))))), hH⟩
      · refine awp_drawS mixed [] rfl (by decide +kernel) rfl rfl ?_
        refine wpdS_mv (a := (eI v20)) rfl rfl rfl (o_mv tk rfl (Wk.refl _)) ?_
        refine wpdS_lt hs23 eB rfl rfl rfl (o_ar tk rfl rfl rfl) fun v26 H25 => ?_
        refine wpdS_mv (a := (eB v26)) rfl rfl rfl (o_mv tk rfl (Wk.refl _)) ?_
        refine if_split H25 (fun hb H27 => ?_) (fun hb H27 => ?_)
        · subst hb
          refine wpdS_mv (a := (eI c3)) rfl rfl rfl (o_mv tk rfl (Wk.refl _)) ?_
          refine wpdS_lt H27 eB rfl rfl rfl (o_ar tk rfl rfl rfl) fun v29 H28 => ?_
          refine wpdS_mv (a := (eB v29)) rfl rfl rfl (o_mv tk rfl (Wk.refl _)) ?_
          refine if_split H28 (fun hb H30 => ?_) (fun hb H30 => ?_)
          · subst hb
            refine wpdS_skip rfl rfl rfl ?_
            refine wpdS_skip rfl rfl rfl ?_
            refine wpdS_skip rfl rfl rfl ?_
            refine wpdS_skip rfl rfl rfl ?_
            refine wpdS_skip rfl rfl rfl ?_
            refine wpdS_skip rfl rfl rfl ?_
            refine wpdS_skip rfl rfl rfl ?_
            refine wpdS_skip rfl rfl rfl ?_
            refine wpdS_skip rfl rfl rfl ?_
            refine wpdS_skip rfl rfl rfl ?_
            refine wpdS_skip rfl rfl rfl ?_
            refine wpdS_skip rfl rfl rfl ?_
            refine wpdS_skip rfl rfl rfl ?_
            refine wpdS_skip rfl rfl rfl ?_
            refine wpdS_skip rfl rfl rfl ?_
            refine wpdS_skip rfl rfl rfl ?_
            refine wpdS_skip rfl rfl rfl ?_
            refine wpdS_mv (a := (eB true)) rfl rfl rfl (o_pick_t tk rfl rfl (Wk.refl _)) ?_
            refine wpdS_mv (a := (eB true)) rfl rfl rfl (o_pick_t tk rfl rfl (Wk.refl _)) ?_
            refine wpdS_nil ?_
            have e := Option.some.inj H30
            subst e
            exact ⟨(wkf_cons (.of_eq rfl) (wkf_cons (.of_eq rfl) (wkf_cons (.of_eq rfl) (wkf_cons (.of_eq rfl) (wkf_cons (.of_eq rfl) (wkf_cons (.of_eq rfl) (wkf_cons (.of_eq rfl) (wkf_nil _)))))))), hH⟩
          · subst hb
            refine wpdS_mv (a := (.ref p0 0)) rfl rfl rfl (o_mv tk rfl (Wk.refl _)) ?_
            refine wpdS_mv (a := (.ref p0 0)) rfl rfl rfl (o_c tk false rfl (fun _ => rfl)) ?_
            refine wpdS_mv (a := (.ref p0 0)) rfl rfl rfl (o_c tk false rfl (fun _ => rfl)) ?_
            refine wpdS_rd (a := (.vec p0_nodes 4 (x0.nodes).length)) rfl (by decide +kernel) rfl rfl (h_ld tk hH 0 rfl rfl rfl) ?_
            refine wpdS_mv (a := (eI v20)) rfl rfl rfl (o_mv tk rfl (Wk.refl _)) ?_
            refine wpdS_bd H30 (fun _ => .ref p0_nodes (0 + (v20 : Int).toNat * 4 + 0)) rfl rfl rfl (fun v32 hv => o_vecx tk hv td112 sz116 (by decide) rfl rfl) fun v32 hv32 H31 => ?_
            refine wpdS_mv (a := (.ref p0_nodes (0 + (v20 : Int).toNat * 4 + 3))) rfl rfl rfl (o_c tk false rfl (fun _ => rfl)) ?_
            refine wpdS_bdr H31 (fun y => eI y.used) rfl (by decide +kernel) rfl rfl (fun v34 hv => h_ldx tk hH 1 hv rfl enc116 rfl (by decide) rfl) fun v34 hv34 H33 => ?_
            refine wpdS_mv (a := (.ref p0 0)) rfl rfl rfl (o_mv tk rfl (Wk.refl _)) ?_
            refine wpdS_mv (a := (.ref p0 0)) rfl rfl rfl (o_c tk false rfl (fun _ => rfl)) ?_
            refine wpdS_mv (a := (.ref p0 0)) rfl rfl rfl (o_c tk false rfl (fun _ => rfl)) ?_
            refine wpdS_rd (a := (.vec p0_nodes 4 (x0.nodes).length)) rfl (by decide +kernel) rfl rfl (h_ld tk hH 0 rfl rfl rfl) ?_
            refine wpdS_mv (a := (eI c3)) rfl rfl rfl (o_mv tk rfl (Wk.refl _)) ?_
            refine wpdS_bd H33 (fun _ => .ref p0_nodes (0 + (c3 : Int).toNat * 4 + 0)) rfl rfl rfl (fun v36 hv => o_vecx tk hv td112 sz116 (by decide) rfl rfl) fun v36 hv36 H35 => ?_
            refine wpdS_mv (a := (.ref p0_nodes (0 + (c3 : Int).toNat * 4 + 3))) rfl rfl rfl (o_c tk false rfl (fun _ => rfl)) ?_
            refine wpdS_bdr H35 (fun y => eI y.used) rfl (by decide +kernel) rfl rfl (fun v38 hv => h_ldx tk hH 1 hv rfl enc116 rfl (by decide) rfl) fun v38 hv38 H37 => ?_
            refine wpdS_lt H37 eB rfl rfl rfl (o_ar tk rfl rfl rfl) fun v40 H39 => ?_
            refine wpdS_mv (a := (eB v40)) rfl rfl rfl (o_pick_f tk rfl rfl (Wk.refl _)) ?_
            refine wpdS_mv (a := (eB v40)) rfl rfl rfl (o_pick_t tk rfl rfl (Wk.refl _)) ?_
            refine wpdS_nil ?_
            have e := Option.some.inj H39
            subst e
            exact ⟨(wkf_cons (.of_eq rfl) (wkf_cons (.of_eq rfl) (wkf_cons (.of_eq rfl) (wkf_cons (.of_eq rfl) (wkf_cons (.of_eq rfl) (wkf_cons (.of_eq rfl) (wkf_cons (.of_eq rfl) (wkf_nil _)))))))), hH⟩
        · subst hb
          refine wpdS_skip rfl rfl rfl ?_
          refine wpdS_skip rfl rfl rfl ?_
          refine wpdS_skip rfl rfl rfl ?_
          refine wpdS_skip rfl rfl rfl ?_
          refine wpdS_skip rfl rfl rfl ?_
          refine wpdS_skip rfl rfl rfl ?_
          refine wpdS_skip rfl rfl rfl ?_
          refine wpdS_skip rfl rfl rfl ?_
          refine wpdS_skip rfl rfl rfl ?_
          refine wpdS_skip rfl rfl rfl ?_
          refine wpdS_skip rfl rfl rfl ?_
          refine wpdS_skip rfl rfl rfl ?_
          refine wpdS_skip rfl rfl rfl ?_
          refine wpdS_skip rfl rfl rfl ?_
          refine wpdS_skip rfl rfl rfl ?_
          refine wpdS_skip rfl rfl rfl ?_
          refine wpdS_skip rfl rfl rfl ?_
          refine wpdS_skip rfl rfl rfl ?_
          refine wpdS_skip rfl rfl rfl ?_
          refine wpdS_skip rfl rfl rfl ?_
          refine wpdS_skip rfl rfl rfl ?_
          refine wpdS_mv (a := (eB false)) rfl rfl rfl (o_pick_f tk rfl rfl (Wk.refl _)) ?_
          refine wpdS_nil ?_
          have e := Option.some.inj H27
          subst e
          exact ⟨(wkf_cons (.of_eq rfl) (wkf_cons (.of_eq rfl) (wkf_cons (.of_eq rfl) (wkf_cons (.of_eq rfl) (wkf_cons (.of_eq rfl) (wkf_cons (.of_eq rfl) (wkf_cons (.of_eq rfl) (wkf_nil _)))))))), hH⟩
    · refine awp_exit ?_
      have hz := hy11 _ (inj_inr H16)
      subst hz
      exact ⟨⟨_, inj_inr H16⟩, (wkf_cons (.of_eq rfl) (wkf_nil _)), hH⟩
end Go.Proofs.YtobbifgmjkgkfaaDoor
namespace Go.Proofs.YtobbifgmjkgkfaaDoor
open Go Go.Va
set_option linter.unusedVariables false
set_option linter.unusedSimpArgs false
set_option maxRecDepth 20000
theorem lists_Lists_List_ok {x0 : lists_Lists} {x1 : Int} {r : Int} (H : lists_Lists_List x0 x1 = some r) (σ : St) {p0 p0_nodes p0_first_ p0_last_ p0_count : Nat} (h0 : σ.objs[p0]? = some [(.vec p0_nodes 4 (x0.nodes).length), (.vec p0_first_ 1 (x0.first_).length), (.vec p0_last_ 1 (x0.last_).length), (.vec p0_count 1 (x0.count).length), (eI x0.free), (eI x0.clock)]) (h0_nodes : σ.objs[p0_nodes]? = some (cL e_lists_link x0.nodes)) (h0_first_ : σ.objs[p0_first_]? = some (cL eI x0.first_)) (h0_last_ : σ.objs[p0_last_]? = some (cL eI x0.last_)) (h0_count : σ.objs[p0_count]? = some (cL eI x0.count)) (hd : [p0, p0_nodes, p0_first_, p0_last_, p0_count].Pairwise fun a b => a ≠ b) : ACall Tryd.prog 33 [(.ref p0 0), (eI x1)] σ (fun a τ => a = eI r ∧ τ = σ) := by
  unfold lists_Lists_List at H
  refine ACall.pure (acall_start tk Tryd.func33 (by decide) rfl (Nat.le_of_ble_eq_true rfl) ?_)
  have hH := Holds.brings (σ := σ) [(p0, [(.vec p0_nodes 4 (x0.nodes).length), (.vec p0_first_ 1 (x0.first_).length), (.vec p0_last_ 1 (x0.last_).length), (.vec p0_count 1 (x0.count).length), (eI x0.free), (eI x0.clock)]), (p0_nodes, (cL e_lists_link x0.nodes)), (p0_first_, (cL eI x0.first_)), (p0_last_, (cL eI x0.last_)), (p0_count, (cL eI x0.count))] (by simp only [List.mem_cons, List.not_mem_nil, or_false]; rintro _ (rfl | rfl | rfl | rfl | rfl) <;> assumption) hd
  refine awp_seq ?_
  refine awp_region rfl ?_
  refine wpo_mv (a := (eI (0 : Int))) rfl rfl rfl (o_as tk rfl (Wk.refl _)) ?_
  refine wpo_nil ?_
  refine awp_seq ?_
  refine awp_seq ?_
  obtain ⟨s1, hs3, hj4⟩ := Option.bind_eq_some_iff.1 H
  refine awp_cutn (fun fr τ => WkF fr (fm [(0, (.ref p0 0)), (1, (eI x1)), (15, (eB s1))]) ∧ Holds σ [(p0, [(.vec p0_nodes 4 (x0.nodes).length), (.vec p0_first_ 1 (x0.first_).length), (.vec p0_last_ 1 (x0.last_).length), (.vec p0_count 1 (x0.count).length), (eI x0.free), (eI x0.clock)]), (p0_nodes, (cL e_lists_link x0.nodes)), (p0_first_, (cL eI x0.first_)), (p0_last_, (cL eI x0.last_)), (p0_count, (cL eI x0.count))] [] τ) ?_ ?_
  · rintro fr τ ⟨hfr, hH⟩
    have H12 := hj4
    refine AWP.fm [(0, (.ref p0 0)), (1, (eI x1)), (15, (eB s1))] hfr ?_
    refine awp_if H12 rfl (fun H13 => ?_) (fun H13 => ?_)
    · refine awp_seq ?_
      refine awp_region rfl ?_
      refine wpo_mv (a := (eI (-1 : Int))) rfl rfl rfl (o_as tk rfl (Wk.refl _)) ?_
      refine wpo_nil ?_
      refine awp_ret ?_
      obtain rfl := Option.some.inj H13
      exact ⟨_, (eI (-1 : Int)), rfl, (.of_eq rfl), .of_eq ((enc_i64 td3 sz3).cut _ _ _), (((((hH.noT.unbring h0).unbring h0_nodes).unbring h0_first_).unbring h0_last_).unbring h0_count)⟩
    · refine awp_skip ?_
      refine awp_seq ?_
      refine awp_region rfl ?_
      refine wpo_mv (a := (.ref p0 0)) rfl rfl rfl (o_mv tk rfl (Wk.refl _)) ?_
      refine wpo_mv (a := (.ref p0 0)) rfl rfl rfl (o_c tk false rfl (fun _ => rfl)) ?_
      refine wpo_mv (a := (.ref p0 0)) rfl rfl rfl (o_c tk false rfl (fun _ => rfl)) ?_
      refine wpo_rd (a := (.vec p0_nodes 4 (x0.nodes).length)) rfl rfl rfl (h_ld tk hH 0 rfl rfl rfl) ?_
      refine wpo_mv (a := (eI x1)) rfl rfl rfl (o_mv tk rfl (Wk.refl _)) ?_
      refine wpo_bd H13 (fun _ => .ref p0_nodes (0 + (x1 : Int).toNat * 4 + 0)) rfl rfl rfl (fun v15 hv => o_vecx tk hv td112 sz116 (by decide) rfl rfl) fun v15 hv15 H14 => ?_
      refine wpo_mv (a := (.ref p0_nodes (0 + (x1 : Int).toNat * 4 + 2))) rfl rfl rfl (o_c tk false rfl (fun _ => rfl)) ?_
      refine wpo_bdr H14 (fun y => eI y.list) rfl rfl rfl (fun v17 hv => h_ldx tk hH 1 hv rfl enc116 rfl (by decide) rfl) fun v17 hv17 H16 => ?_
      refine wpo_mv (a := (eI v17.list)) rfl rfl rfl (o_as tk rfl (Wk.refl _)) ?_
      refine wpo_nil ?_
      refine awp_ret ?_
      obtain rfl := Option.some.inj H16
      exact ⟨_, (eI v17.list), rfl, (.of_eq rfl), .of_eq ((enc_i64 td3 sz3).cut _ _ _), (((((hH.noT.unbring h0).unbring h0_nodes).unbring h0_first_).unbring h0_last_).unbring h0_count)⟩
  · refine awp_region rfl ?_
    refine wpo_mv (a := (eI x1)) rfl rfl rfl (o_mv tk rfl (Wk.refl _)) ?_
    refine wpo_lt hs3 eB rfl rfl rfl (o_ar tk rfl rfl rfl) fun v6 H5 => ?_
    refine wpo_mv (a := (eB v6)) rfl rfl rfl (o_mv tk rfl (Wk.refl _)) ?_
    refine if_split H5 (fun hb H7 => ?_) (fun hb H7 => ?_)
    · subst hb
      refine wpo_skip rfl rfl rfl ?_
      refine wpo_skip rfl rfl rfl ?_
      refine wpo_skip rfl rfl rfl ?_
      refine wpo_skip rfl rfl rfl ?_
      refine wpo_skip rfl rfl rfl ?_
      refine wpo_skip rfl rfl rfl ?_
      refine wpo_skip rfl rfl rfl ?_
      refine wpo_mv (a := (eB true)) rfl rfl rfl (o_pick_t tk rfl rfl (Wk.refl _)) ?_
      refine wpo_nil ?_
      have e := Option.some.inj H7
      subst e
      exact ⟨(wkf_cons (.of_eq rfl) (wkf_cons (.of_eq rfl) (wkf_cons (.of_eq rfl) (wkf_nil _)))), hH⟩
    · subst hb
      refine wpo_mv (a := (eI x1)) rfl rfl rfl (o_mv tk rfl (Wk.refl _)) ?_
      refine wpo_mv (a := (.ref p0 0)) rfl rfl rfl (o_mv tk rfl (Wk.refl _)) ?_
      refine wpo_mv (a := (.ref p0 0)) rfl rfl rfl (o_c tk false rfl (fun _ => rfl)) ?_
      refine wpo_mv (a := (.ref p0 0)) rfl rfl rfl (o_c tk false rfl (fun _ => rfl)) ?_
      refine wpo_rd (a := (.vec p0_nodes 4 (x0.nodes).length)) rfl rfl rfl (h_ld tk hH 0 rfl rfl rfl) ?_
      refine wpo_lt H7 eI rfl rfl rfl (o_vlen tk td112 rfl) fun v9 H8 => ?_
      refine wpo_lt H8 eB rfl rfl rfl (o_ar tk rfl rfl rfl) fun v11 H10 => ?_
      refine wpo_mv (a := (eB v11)) rfl rfl rfl (o_pick_f tk rfl rfl (Wk.refl _)) ?_
      refine wpo_nil ?_
      have e := Option.some.inj H10
      subst e
      exact ⟨(wkf_cons (.of_eq rfl) (wkf_cons (.of_eq rfl) (wkf_cons (.of_eq rfl) (wkf_nil _)))), hH⟩
end Go.Proofs.YtobbifgmjkgkfaaDoor
namespace Go.Proofs.YtobbifgmjkgkfaaDoor
open Go Go.Va
set_option linter.unusedVariables false
set_option linter.unusedSimpArgs false
set_option maxRecDepth 20000
theorem lists_Lists_Order_ok {x0 : lists_Lists} {x1 : Int} {r : (List Int)} (H : lists_Lists_Order x0 x1 = some r) (σ : St) {p0 p0_nodes p0_first_ p0_last_ p0_count : Nat} (h0 : σ.objs[p0]? = some [(.vec p0_nodes 4 (x0.nodes).length), (.vec p0_first_ 1 (x0.first_).length), (.vec p0_last_ 1 (x0.last_).length), (.vec p0_count 1 (x0.count).length), (eI x0.free), (eI x0.clock)]) (h0_nodes : σ.objs[p0_nodes]? = some (cL e_lists_link x0.nodes)) (h0_first_ : σ.objs[p0_first_]? = some (cL eI x0.first_)) (h0_last_ : σ.objs[p0_last_]? = some (cL eI x0.last_)) (h0_count : σ.objs[p0_count]? = some (cL eI x0.count)) (hd : [p0, p0_nodes, p0_first_, p0_last_, p0_count].Pairwise fun a b => a ≠ b) : ACall Tryd.prog 34 [(.ref p0 0), (eI x1)] σ (fun a τ => a = (eL 1 eI) r ∧ τ = σ) := by
  unfold lists_Lists_Order at H
  refine ACall.pure (acall_start tk Tryd.func34 (by decide) rfl (Nat.le_of_ble_eq_true rfl) ?_)
  have hH := Holds.brings (σ := σ) [(p0, [(.vec p0_nodes 4 (x0.nodes).length), (.vec p0_first_ 1 (x0.first_).length), (.vec p0_last_ 1 (x0.last_).length), (.vec p0_count 1 (x0.count).length), (eI x0.free), (eI x0.clock)]), (p0_nodes, (cL e_lists_link x0.nodes)), (p0_first_, (cL eI x0.first_)), (p0_last_, (cL eI x0.last_)), (p0_count, (cL eI x0.count))] (by simp only [List.mem_cons, List.not_mem_nil, or_false]; rintro _ (rfl | rfl | rfl | rfl | rfl) <;> assumption) hd
  refine awp_seq ?_
  refine awp_region rfl ?_
  refine wpo_mv (a := AV.nils) rfl rfl rfl (o_as tk rfl (Wk.refl _)) ?_
  refine wpo_nil ?_
  refine awp_seq ?_
  refine awp_seq ?_
  obtain ⟨s1, hs3, hj4⟩ := Option.bind_eq_some_iff.1 H
  refine awp_cutn (fun fr τ => WkF fr (fm [(0, (.ref p0 0)), (1, (eI x1)), (17, (eB s1))]) ∧ Holds σ [(p0, [(.vec p0_nodes 4 (x0.nodes).length), (.vec p0_first_ 1 (x0.first_).length), (.vec p0_last_ 1 (x0.last_).length), (.vec p0_count 1 (x0.count).length), (eI x0.free), (eI x0.clock)]), (p0_nodes, (cL e_lists_link x0.nodes)), (p0_first_, (cL eI x0.first_)), (p0_last_, (cL eI x0.last_)), (p0_count, (cL eI x0.count))] [] τ) ?_ ?_
  · rintro fr τ ⟨hfr, hH⟩
    have H12 := hj4
    refine AWP.fm [(0, (.ref p0 0)), (1, (eI x1)), (17, (eB s1))] hfr ?_
    refine awp_if H12 rfl (fun H13 => ?_) (fun H13 => ?_)
    · refine awp_seq ?_
      refine awp_region rfl ?_
      refine wpo_mv (a := AV.nils) rfl rfl rfl (o_as tk rfl (Wk.refl _)) ?_
      refine wpo_nil ?_
      refine awp_ret ?_
      obtain rfl := Option.some.inj H13
      exact ⟨_, ((eL 1 eI) []), rfl, (wk_nils _), .of_eq ((enc_l td62 sz62 (enc_i64 td3 sz3).cut).cut _ _ _), (((((hH.noT.unbring h0).unbring h0_nodes).unbring h0_first_).unbring h0_last_).unbring h0_count)⟩
    · refine awp_skip ?_
      refine awp_seq ?_
      refine awp_region rfl ?_
      refine wpo_mv (a := AV.nils) rfl rfl rfl (o_as tk rfl (Wk.refl _)) ?_
      refine wpo_nil ?_
      refine awp_seq ?_
      refine awp_seq ?_
      refine awp_region rfl ?_
      refine wpo_mv (a := (.ref p0 0)) rfl rfl rfl (o_mv tk rfl (Wk.refl _)) ?_
      refine wpo_mv (a := (.ref p0 0)) rfl rfl rfl (o_c tk false rfl (fun _ => rfl)) ?_
      refine wpo_mv (a := (.ref p0 1)) rfl rfl rfl (o_c tk false rfl (fun _ => rfl)) ?_
      refine wpo_rd (a := (.vec p0_first_ 1 (x0.first_).length)) rfl rfl rfl (h_ld tk hH 0 rfl rfl rfl) ?_
      refine wpo_mv (a := (eI x1)) rfl rfl rfl (o_mv tk rfl (Wk.refl _)) ?_
      refine wpo_bd H13 (fun _ => .ref p0_first_ (0 + (x1 : Int).toNat * 1 + 0)) rfl rfl rfl (fun v15 hv => o_vecx tk hv td62 sz3 (by decide) rfl rfl) fun v15 hv15 H14 => ?_
      refine wpo_bdr H14 (fun y => eI y) rfl rfl rfl (fun v17 hv => h_ldx tk hH 2 hv rfl (enc_i64 td3 sz3) (acut_enc (enc_i64 td3 sz3) rfl _) (by decide) rfl) fun v17 hv17 H16 => ?_
      refine wpo_mv (a := (eI v17)) rfl rfl rfl (o_as tk rfl (Wk.refl _)) ?_
      refine wpo_nil ?_
      refine awp_block ?_
      refine AWP.tokN hH 5 1 rfl fun tk20 τ hH => ?_
      obtain ⟨s28, hs22, hj23⟩ := Option.bind_eq_some_iff.1 H16
      refine awp_cutx 0 (fun fr τ => ∃ tk_5, WkF fr (fm [(5, (eT tk_5 1 eI s28))]) ∧ Holds σ [(p0, [(.vec p0_nodes 4 (x0.nodes).length), (.vec p0_first_ 1 (x0.first_).length), (.vec p0_last_ 1 (x0.last_).length), (.vec p0_count 1 (x0.count).length), (eI x0.free), (eI x0.clock)]), (p0_nodes, (cL e_lists_link x0.nodes)), (p0_first_, (cL eI x0.first_)), (p0_last_, (cL eI x0.last_)), (p0_count, (cL eI x0.count))] [tk_5] τ) ?_ ?_
      · rintro fr τ ⟨tk_5, hfr, hH⟩
        have H43 := hj23
        refine AWP.fm [(5, (eT tk_5 1 eI s28))] hfr ?_
        refine awp_seq ?_
        refine awp_region rfl ?_
        refine wpo_mv (a := (eT tk_5 1 eI s28)) rfl rfl rfl (o_mv tk rfl (Wk.refl _)) ?_
        refine wpo_mv (a := (eT tk_5 1 eI s28)) rfl rfl rfl (o_as tk rfl (Wk.refl _)) ?_
        refine wpo_nil ?_
        refine awp_ret ?_
        obtain rfl := Option.some.inj H43
        exact ⟨_, ((eL 1 eI) s28), rfl, wk_no, .of_eq ((enc_l td62 sz62 (enc_i64 td3 sz3).cut).cut _ _ _), (((((hH.noT.unbring h0).unbring h0_nodes).unbring h0_first_).unbring h0_last_).unbring h0_count)⟩
      · refine awp_loopO (body := fun s => lists_Lists_Order_b0 x0 s.1 s.2) hs22 (fun (s : (List Int) × Int) fr τ => ∃ tk_5, WkF fr (fm [(0, (.ref p0 0)), (5, (eT tk_5 1 eI s.1)), (6, (eI s.2))]) ∧ Holds σ [(p0, [(.vec p0_nodes 4 (x0.nodes).length), (.vec p0_first_ 1 (x0.first_).length), (.vec p0_last_ 1 (x0.last_).length), (.vec p0_count 1 (x0.count).length), (eI x0.free), (eI x0.clock)]), (p0_nodes, (cL e_lists_link x0.nodes)), (p0_first_, (cL eI x0.first_)), (p0_last_, (cL eI x0.last_)), (p0_count, (cL eI x0.count))] [tk_5] τ) ⟨tk20, (wkf_cons (.of_eq rfl) (wkf_cons (.of_eq rfl) (wkf_cons (.of_eq rfl) (wkf_nil _)))), hH⟩ ?_
        rintro ⟨c18, c19⟩ fr τ y24 ⟨tk_5, hfr, hH⟩ hb26 hy27
        have H29 : lists_Lists_Order_b0 x0 c18 c19 = some y24 := hb26
        unfold lists_Lists_Order_b0 at H29
        refine AWP.fm [(0, (.ref p0 0)), (5, (eT tk_5 1 eI c18)), (6, (eI c19))] hfr ?_
        have hH : Holds σ [(p0, [(.vec p0_nodes 4 (x0.nodes).length), (.vec p0_first_ 1 (x0.first_).length), (.vec p0_last_ 1 (x0.last_).length), (.vec p0_count 1 (x0.count).length), (eI x0.free), (eI x0.clock)]), (p0_nodes, (cL e_lists_link x0.nodes)), (p0_first_, (cL eI x0.first_)), (p0_last_, (cL eI x0.last_)), (p0_count, (cL eI x0.count))] [tk_5] τ := hH
        refine awp_seq ?_
        refine awp_seq ?_
        refine awp_region rfl ?_
        refine wpo_mv (a := (eI c19)) rfl rfl rfl (o_mv tk rfl (Wk.refl _)) ?_
        refine wpo_lt H29 eB rfl rfl rfl (o_ar tk rfl rfl rfl) fun v31 H30 => ?_
        refine wpo_nil ?_
        refine awp_if H30 rfl (fun H32 => ?_) (fun H32 => ?_)
        · refine awp_skip ?_
          refine awp_seq ?_
          refine awp_block ?_
          refine awp_region rfl ?_
          refine wpo_mv (a := (eT tk_5 1 eI c18)) rfl rfl rfl (o_mv tk rfl (Wk.refl _)) ?_
          refine wpo_mv (a := (eI c19)) rfl rfl rfl (o_mv tk rfl (Wk.refl _)) ?_
          refine wpo_lt H32 (eF 1 eI) rfl rfl rfl (o_c tk false rfl (fun _ => rfl)) fun v34 H33 => ?_
          obtain ⟨v36, hv37, H35⟩ := Option.bind_eq_some_iff.1 H33
          refine wpo_a (av := fun t => eT t 1 eI v36) rfl rfl rfl (h_app tk hH 0 hv37 rfl td62 ty3 rfl (by decide) rfl (src_l td62 rfl)) fun tk38 τ hH => ?_
          refine wpo_mv (a := (eT tk38 1 eI v36)) rfl rfl rfl (o_as tk rfl (Wk.refl _)) ?_
          refine wpo_nil ?_
          refine awp_region rfl ?_
          refine wpo_mv (a := (.ref p0 0)) rfl rfl rfl (o_mv tk rfl (Wk.refl _)) ?_
          refine wpo_mv (a := (.ref p0 0)) rfl rfl rfl (o_c tk false rfl (fun _ => rfl)) ?_
          refine wpo_mv (a := (.ref p0 0)) rfl rfl rfl (o_c tk false rfl (fun _ => rfl)) ?_
          refine wpo_rd (a := (.vec p0_nodes 4 (x0.nodes).length)) rfl rfl rfl (h_ld tk hH 0 rfl rfl rfl) ?_
          refine wpo_mv (a := (eI c19)) rfl rfl rfl (o_mv tk rfl (Wk.refl _)) ?_
          refine wpo_bd H35 (fun _ => .ref p0_nodes (0 + (c19 : Int).toNat * 4 + 0)) rfl rfl rfl (fun v40 hv => o_vecx tk hv td112 sz116 (by decide) rfl rfl) fun v40 hv40 H39 => ?_
          refine wpo_mv (a := (.ref p0_nodes (0 + (c19 : Int).toNat * 4 + 1))) rfl rfl rfl (o_c tk false rfl (fun _ => rfl)) ?_
          refine wpo_bdr H39 (fun y => eI y.behind) rfl rfl rfl (fun v42 hv => h_ldx tk hH 1 hv rfl enc116 rfl (by decide) rfl) fun v42 hv42 H41 => ?_
          refine wpo_mv (a := (eI v42.behind)) rfl rfl rfl (o_as tk rfl (Wk.refl _)) ?_
          refine wpo_nil ?_
          exact ⟨(v36, v42.behind), inj_inl H41, tk38, (wkf_cons (.of_eq rfl) (wkf_cons (.of_eq rfl) (wkf_cons (.of_eq rfl) (wkf_nil _)))), hH⟩
        · refine awp_exit ?_
          have hz := hy27 _ (inj_inr H32)
          subst hz
          exact ⟨⟨_, inj_inr H32⟩, tk_5, (wkf_cons (.of_eq rfl) (wkf_nil _)), hH⟩
  · refine awp_region rfl ?_
    refine wpo_mv (a := (eI x1)) rfl rfl rfl (o_mv tk rfl (Wk.refl _)) ?_
    refine wpo_lt hs3 eB rfl rfl rfl (o_ar tk rfl rfl rfl) fun v6 H5 => ?_
    refine wpo_mv (a := (eB v6)) rfl rfl rfl (o_mv tk rfl (Wk.refl _)) ?_
    refine if_split H5 (fun hb H7 => ?_) (fun hb H7 => ?_)
    · subst hb
      refine wpo_skip rfl rfl rfl ?_
      refine wpo_skip rfl rfl rfl ?_
      refine wpo_skip rfl rfl rfl ?_
      refine wpo_skip rfl rfl rfl ?_
      refine wpo_skip rfl rfl rfl ?_
      refine wpo_skip rfl rfl rfl ?_
      refine wpo_skip rfl rfl rfl ?_
      refine wpo_mv (a := (eB true)) rfl rfl rfl (o_pick_t tk rfl rfl (Wk.refl _)) ?_
      refine wpo_nil ?_
      have e := Option.some.inj H7
      subst e
      exact ⟨(wkf_cons (.of_eq rfl) (wkf_cons (.of_eq rfl) (wkf_cons (.of_eq rfl) (wkf_nil _)))), hH⟩
    · subst hb
      refine wpo_mv (a := (eI x1)) rfl rfl rfl (o_mv tk rfl (Wk.refl _)) ?_
      refine wpo_mv (a := (.ref p0 0)) rfl rfl rfl (o_mv tk rfl (Wk.refl _)) ?_
      refine wpo_mv (a := (.ref p0 0)) rfl rfl rfl (o_c tk false rfl (fun _ => rfl)) ?_
      refine wpo_mv (a := (.ref p0 1)) rfl rfl rfl (o_c tk false rfl (fun _ => rfl)) ?_
      refine wpo_rd (a := (.vec p0_first_ 1 (x0.first_).length)) rfl rfl rfl (h_ld tk hH 0 rfl rfl rfl) ?_
      refine wpo_lt H7 eI rfl rfl rfl (o_vlen tk td62 rfl) fun v9 H8 => ?_
      refine wpo_lt H8 eB rfl rfl rfl (o_ar tk rfl rfl rfl) fun v11 H10 => ?_
      refine wpo_mv (a := (eB v11)) rfl rfl rfl (o_pick_f tk rfl rfl (Wk.refl _)) ?_
      refine wpo_nil ?_
      have e := Option.some.inj H10
      subst e
      exact ⟨(wkf_cons (.of_eq rfl) (wkf_cons (.of_eq rfl) (wkf_cons (.of_eq rfl) (wkf_nil _)))), hH⟩
end Go.Proofs.YtobbifgmjkgkfaaDoor
namespace Go.Proofs.YtobbifgmjkgkfaaDoor
open Go Go.Va
set_option linter.unusedVariables false
set_option linter.unusedSimpArgs false
set_option maxRecDepth 20000
theorem butteryref02_Ints_ok {x0 : List Int} {x1 : List Int} {r : Bool} (H : butteryref02_Ints x0 x1 = some r) (σ : St)  : ACall Tryd.prog 35 [((eL 1 eI) x0), ((eL 1 eI) x1)] σ (fun a τ => a = eB r ∧ τ = σ) := by
  unfold butteryref02_Ints at H
  refine ACall.pure (acall_start tk Tryd.func35 (by decide) rfl (Nat.le_of_ble_eq_true rfl) ?_)
  have hH := Holds.init σ
  refine awp_seq ?_
  refine awp_region rfl ?_
  refine wpo_mv (a := (eB false)) rfl rfl rfl (o_as tk rfl (Wk.refl _)) ?_
  refine wpo_nil ?_
  refine awp_seq ?_
  refine awp_seq ?_
  refine awp_region rfl ?_
  refine wpo_mv (a := ((eL 1 eI) x0)) rfl rfl rfl (o_mv tk rfl (Wk.refl _)) ?_
  refine wpo_lt H eI rfl rfl rfl (o_len tk td62 rfl) fun v2 H1 => ?_
  refine wpo_mv (a := ((eL 1 eI) x1)) rfl rfl rfl (o_mv tk rfl (Wk.refl _)) ?_
  refine wpo_lt H1 eI rfl rfl rfl (o_len tk td62 rfl) fun v4 H3 => ?_
  refine wpo_lt H3 eB rfl rfl rfl (o_ar tk rfl rfl rfl) fun v6 H5 => ?_
  refine wpo_nil ?_
  refine awp_if H5 rfl (fun H7 => ?_) (fun H7 => ?_)
  · refine awp_seq ?_
    refine awp_region rfl ?_
    refine wpo_mv (a := (eB false)) rfl rfl rfl (o_as tk rfl (Wk.refl _)) ?_
    refine wpo_nil ?_
    refine awp_ret ?_
    obtain rfl := Option.some.inj H7
    exact ⟨_, (eB false), rfl, (.of_eq rfl), .of_eq ((enc_b td4 sz4).cut _ _ _), hH.noT⟩
  · refine awp_skip ?_
    refine awp_seq ?_
    refine awp_seq ?_
    refine awp_region rfl ?_
    refine wpo_mv (a := (eI (0 : Int))) rfl rfl rfl (o_as tk rfl (Wk.refl _)) ?_
    refine wpo_nil ?_
    refine awp_block ?_
    obtain ⟨o9, hs10, hj11⟩ := Option.bind_eq_some_iff.1 H7
    refine awp_cutx 0 (fun fr τ => ∃ s16 : Unit, o9 = .inl s16 ∧ WkF fr (fm []) ∧ Holds σ [] [] τ) ?_ ?_
    · rintro fr τ ⟨s16, rfl, hfr, hH⟩
      have H33 := hj11
      simp only [Sum.elim_inl] at H33
      refine AWP.fm [] hfr ?_
      refine awp_seq ?_
      refine awp_region rfl ?_
      refine wpo_mv (a := (eB true)) rfl rfl rfl (o_as tk rfl (Wk.refl _)) ?_
      refine wpo_nil ?_
      refine awp_ret ?_
      obtain rfl := Option.some.inj H33
      exact ⟨_, (eB true), rfl, (.of_eq rfl), .of_eq ((enc_b td4 sz4).cut _ _ _), hH.noT⟩
    · refine awp_loopO (body := fun s => butteryref02_Ints_b0 x0 x1 s) hs10 (fun (s : Int) fr τ => WkF fr (fm [(0, ((eL 1 eI) x0)), (1, ((eL 1 eI) x1)), (5, (eI s))]) ∧ Holds σ [] [] τ) ⟨(wkf_cons (.of_eq rfl) (wkf_cons (.of_eq rfl) (wkf_cons (.of_eq rfl) (wkf_nil _)))), hH⟩ ?_
      rintro c8 fr τ y12 ⟨hfr, hH⟩ hb14 hy15
      have H17 : butteryref02_Ints_b0 x0 x1 c8 = some y12 := hb14
      unfold butteryref02_Ints_b0 at H17
      refine AWP.fm [(0, ((eL 1 eI) x0)), (1, ((eL 1 eI) x1)), (5, (eI c8))] hfr ?_
      have hH : Holds σ [] [] τ := hH
      refine awp_seq ?_
      refine awp_seq ?_
      refine awp_region rfl ?_
      refine wpo_mv (a := (eI c8)) rfl rfl rfl (o_mv tk rfl (Wk.refl _)) ?_
      refine wpo_mv (a := ((eL 1 eI) x0)) rfl rfl rfl (o_mv tk rfl (Wk.refl _)) ?_
      refine wpo_lt H17 eI rfl rfl rfl (o_len tk td62 rfl) fun v19 H18 => ?_
      refine wpo_lt H18 eB rfl rfl rfl (o_ar tk rfl rfl rfl) fun v21 H20 => ?_
      refine wpo_nil ?_
      refine awp_if H20 rfl (fun H22 => ?_) (fun H22 => ?_)
      · refine awp_skip ?_
        refine awp_seq ?_
        refine awp_block ?_
        refine awp_seq ?_
        refine awp_drawS mixed [] rfl (by decide +kernel) rfl rfl ?_
        refine wpdS_mv (a := ((eL 1 eI) x0)) rfl rfl rfl (o_mv tk rfl (Wk.refl _)) ?_
        refine wpdS_mv (a := (eI c8)) rfl rfl rfl (o_mv tk rfl (Wk.refl _)) ?_
        refine wpdS_bd H22 (fun y => .fptr (eI y).cells 0) rfl rfl rfl (fun v24 hv => o_ixa tk hv td62 (enc_i64 td3 sz3) rfl rfl) fun v24 hv24 H23 => ?_
        refine wpdS_mv (a := (eI v24)) rfl rfl rfl (o_ld_e tk (enc_i64 td3 sz3) rfl rfl) ?_
        refine wpdS_mv (a := ((eL 1 eI) x1)) rfl rfl rfl (o_mv tk rfl (Wk.refl _)) ?_
        refine wpdS_mv (a := (eI c8)) rfl rfl rfl (o_mv tk rfl (Wk.refl _)) ?_
        refine wpdS_bd H23 (fun y => .fptr (eI y).cells 0) rfl rfl rfl (fun v26 hv => o_ixa tk hv td62 (enc_i64 td3 sz3) rfl rfl) fun v26 hv26 H25 => ?_
        refine wpdS_mv (a := (eI v26)) rfl rfl rfl (o_ld_e tk (enc_i64 td3 sz3) rfl rfl) ?_
        refine wpdS_lt H25 eB rfl rfl rfl (o_ar tk rfl rfl rfl) fun v28 H27 => ?_
        refine wpdS_nil ?_
        refine awp_if H27 rfl (fun H29 => ?_) (fun H29 => ?_)
        · refine awp_seq ?_
          refine awp_region rfl ?_
          refine wpo_mv (a := (eB false)) rfl rfl rfl (o_as tk rfl (Wk.refl _)) ?_
          refine wpo_nil ?_
          refine awp_ret ?_
          have hz := hy15 _ (inj_inr H29)
          refine ⟨⟨_, inj_inr H29⟩, ?_⟩
          rw [← hz] at hj11
          have H30 := (show some _ = some _ from hj11)
          obtain rfl := Option.some.inj H30
          exact ⟨_, (eB false), rfl, (.of_eq rfl), .of_eq ((enc_b td4 sz4).cut _ _ _), hH.noT⟩
        · refine awp_skip ?_
          refine awp_region rfl ?_
          refine wpo_mv (a := (eI c8)) rfl rfl rfl (o_mv tk rfl (Wk.refl _)) ?_
          refine wpo_lt H29 eI rfl rfl rfl (o_ar tk rfl rfl rfl) fun v32 H31 => ?_
          refine wpo_mv (a := (eI v32)) rfl rfl rfl (o_as tk rfl (Wk.refl _)) ?_
          refine wpo_nil ?_
          exact ⟨v32, inj_inl H31, (wkf_cons (.of_eq rfl) (wkf_cons (.of_eq rfl) (wkf_cons (.of_eq rfl) (wkf_nil _)))), hH⟩
      · refine awp_exit ?_
        have hz := hy15 _ (inj_inr H22)
        exact ⟨⟨_, inj_inr H22⟩, (), hz.symm, (wkf_nil _), hH⟩
end Go.Proofs.YtobbifgmjkgkfaaDoor
namespace Go.Proofs.YtobbifgmjkgkfaaDoor
open Go Go.Va
set_option linter.unusedVariables false
set_option linter.unusedSimpArgs false
set_option maxRecDepth 20000
theorem lists_Lists_Last_ok {x0 : lists_Lists} {x1 : Int} {r : Int} (H : lists_Lists_Last x0 x1 = some r) (σ : St) {p0 p0_nodes p0_first_ p0_last_ p0_count : Nat} (h0 : σ.objs[p0]? = some [(.vec p0_nodes 4 (x0.nodes).length), (.vec p0_first_ 1 (x0.first_).length), (.vec p0_last_ 1 (x0.last_).length), (.vec p0_count 1 (x0.count).length), (eI x0.free), (eI x0.clock)]) (h0_nodes : σ.objs[p0_nodes]? = some (cL e_lists_link x0.nodes)) (h0_first_ : σ.objs[p0_first_]? = some (cL eI x0.first_)) (h0_last_ : σ.objs[p0_last_]? = some (cL eI x0.last_)) (h0_count : σ.objs[p0_count]? = some (cL eI x0.count)) (hd : [p0, p0_nodes, p0_first_, p0_last_, p0_count].Pairwise fun a b => a ≠ b) : ACall Tryd.prog 57 [(.ref p0 0), (eI x1)] σ (fun a τ => a = eI r ∧ τ = σ) := by
  unfold lists_Lists_Last at H
  refine ACall.pure (acall_start tk Tryd.func57 (by decide) rfl (Nat.le_of_ble_eq_true rfl) ?_)
  have hH := Holds.brings (σ := σ) [(p0, [(.vec p0_nodes 4 (x0.nodes).length), (.vec p0_first_ 1 (x0.first_).length), (.vec p0_last_ 1 (x0.last_).length), (.vec p0_count 1 (x0.count).length), (eI x0.free), (eI x0.clock)]), (p0_nodes, (cL e_lists_link x0.nodes)), (p0_first_, (cL eI x0.first_)), (p0_last_, (cL eI x0.last_)), (p0_count, (cL eI x0.count))] (by simp only [List.mem_cons, List.not_mem_nil, or_false]; rintro _ (rfl | rfl | rfl | rfl | rfl) <;> assumption) hd
  refine awp_seq ?_
  refine awp_region rfl ?_
  refine wpo_mv (a := (eI (0 : Int))) rfl rfl rfl (o_as tk rfl (Wk.refl _)) ?_
  refine wpo_nil ?_
  refine awp_seq ?_
  refine awp_seq ?_
  obtain ⟨s1, hs3, hj4⟩ := Option.bind_eq_some_iff.1 H
  refine awp_cutn (fun fr τ => WkF fr (fm [(0, (.ref p0 0)), (1, (eI x1)), (15, (eB s1))]) ∧ Holds σ [(p0, [(.vec p0_nodes 4 (x0.nodes).length), (.vec p0_first_ 1 (x0.first_).length), (.vec p0_last_ 1 (x0.last_).length), (.vec p0_count 1 (x0.count).length), (eI x0.free), (eI x0.clock)]), (p0_nodes, (cL e_lists_link x0.nodes)), (p0_first_, (cL eI x0.first_)), (p0_last_, (cL eI x0.last_)), (p0_count, (cL eI x0.count))] [] τ) ?_ ?_
  · rintro fr τ ⟨hfr, hH⟩
    have H12 := hj4
    refine AWP.fm [(0, (.ref p0 0)), (1, (eI x1)), (15, (eB s1))] hfr ?_
    refine awp_if H12 rfl (fun H13 => ?_) (fun H13 => ?_)
    · refine awp_seq ?_
      refine awp_region rfl ?_
      refine wpo_mv (a := (eI (-1 : Int))) rfl rfl rfl (o_as tk rfl (Wk.refl _)) ?_
      refine wpo_nil ?_
      refine awp_ret ?_
      obtain rfl := Option.some.inj H13
      exact ⟨_, (eI (-1 : Int)), rfl, (.of_eq rfl), .of_eq ((enc_i64 td3 sz3).cut _ _ _), (((((hH.noT.unbring h0).unbring h0_nodes).unbring h0_first_).unbring h0_last_).unbring h0_count)⟩
    · refine awp_skip ?_
      refine awp_seq ?_
      refine awp_region rfl ?_
      refine wpo_mv (a := (.ref p0 0)) rfl rfl rfl (o_mv tk rfl (Wk.refl _)) ?_
      refine wpo_mv (a := (.ref p0 0)) rfl rfl rfl (o_c tk false rfl (fun _ => rfl)) ?_
      refine wpo_mv (a := (.ref p0 2)) rfl rfl rfl (o_c tk false rfl (fun _ => rfl)) ?_
      refine wpo_rd (a := (.vec p0_last_ 1 (x0.last_).length)) rfl rfl rfl (h_ld tk hH 0 rfl rfl rfl) ?_
      refine wpo_mv (a := (eI x1)) rfl rfl rfl (o_mv tk rfl (Wk.refl _)) ?_
      refine wpo_bd H13 (fun _ => .ref p0_last_ (0 + (x1 : Int).toNat * 1 + 0)) rfl rfl rfl (fun v15 hv => o_vecx tk hv td62 sz3 (by decide) rfl rfl) fun v15 hv15 H14 => ?_
      refine wpo_bdr H14 (fun y => eI y) rfl rfl rfl (fun v17 hv => h_ldx tk hH 3 hv rfl (enc_i64 td3 sz3) (acut_enc (enc_i64 td3 sz3) rfl _) (by decide) rfl) fun v17 hv17 H16 => ?_
      refine wpo_mv (a := (eI v17)) rfl rfl rfl (o_as tk rfl (Wk.refl _)) ?_
      refine wpo_nil ?_
      refine awp_ret ?_
      obtain rfl := Option.some.inj H16
      exact ⟨_, (eI v17), rfl, (.of_eq rfl), .of_eq ((enc_i64 td3 sz3).cut _ _ _), (((((hH.noT.unbring h0).unbring h0_nodes).unbring h0_first_).unbring h0_last_).unbring h0_count)⟩
  · refine awp_region rfl ?_
    refine wpo_mv (a := (eI x1)) rfl rfl rfl (o_mv tk rfl (Wk.refl _)) ?_
    refine wpo_lt hs3 eB rfl rfl rfl (o_ar tk rfl rfl rfl) fun v6 H5 => ?_
    refine wpo_mv (a := (eB v6)) rfl rfl rfl (o_mv tk rfl (Wk.refl _)) ?_
    refine if_split H5 (fun hb H7 => ?_) (fun hb H7 => ?_)
    · subst hb
      refine wpo_skip rfl rfl rfl ?_
      refine wpo_skip rfl rfl rfl ?_
      refine wpo_skip rfl rfl rfl ?_
      refine wpo_skip rfl rfl rfl ?_
      refine wpo_skip rfl rfl rfl ?_
      refine wpo_skip rfl rfl rfl ?_
      refine wpo_skip rfl rfl rfl ?_
      refine wpo_mv (a := (eB true)) rfl rfl rfl (o_pick_t tk rfl rfl (Wk.refl _)) ?_
      refine wpo_nil ?_
      have e := Option.some.inj H7
      subst e
      exact ⟨(wkf_cons (.of_eq rfl) (wkf_cons (.of_eq rfl) (wkf_cons (.of_eq rfl) (wkf_nil _)))), hH⟩
    · subst hb
      refine wpo_mv (a := (eI x1)) rfl rfl rfl (o_mv tk rfl (Wk.refl _)) ?_
      refine wpo_mv (a := (.ref p0 0)) rfl rfl rfl (o_mv tk rfl (Wk.refl _)) ?_
      refine wpo_mv (a := (.ref p0 0)) rfl rfl rfl (o_c tk false rfl (fun _ => rfl)) ?_
      refine wpo_mv (a := (.ref p0 2)) rfl rfl rfl (o_c tk false rfl (fun _ => rfl)) ?_
      refine wpo_rd (a := (.vec p0_last_ 1 (x0.last_).length)) rfl rfl rfl (h_ld tk hH 0 rfl rfl rfl) ?_
      refine wpo_lt H7 eI rfl rfl rfl (o_vlen tk td62 rfl) fun v9 H8 => ?_
      refine wpo_lt H8 eB rfl rfl rfl (o_ar tk rfl rfl rfl) fun v11 H10 => ?_
      refine wpo_mv (a := (eB v11)) rfl rfl rfl (o_pick_f tk rfl rfl (Wk.refl _)) ?_
      refine wpo_nil ?_
      have e := Option.some.inj H10
      subst e
      exact ⟨(wkf_cons (.of_eq rfl) (wkf_cons (.of_eq rfl) (wkf_cons (.of_eq rfl) (wkf_nil _)))), hH⟩
end Go.Proofs.YtobbifgmjkgkfaaDoor
namespace Go.Proofs.YtobbifgmjkgkfaaDoor
open Go Go.Va
set_option linter.unusedVariables false
set_option linter.unusedSimpArgs false
set_option maxRecDepth 20000
theorem lists_Lists_Len_ok {x0 : lists_Lists} {x1 : Int} {r : Int} (H : lists_Lists_Len x0 x1 = some r) (σ : St) {p0 p0_nodes p0_first_ p0_last_ p0_count : Nat} (h0 : σ.objs[p0]? = some [(.vec p0_nodes 4 (x0.nodes).length), (.vec p0_first_ 1 (x0.first_).length), (.vec p0_last_ 1 (x0.last_).length), (.vec p0_count 1 (x0.count).length), (eI x0.free), (eI x0.clock)]) (h0_nodes : σ.objs[p0_nodes]? = some (cL e_lists_link x0.nodes)) (h0_first_ : σ.objs[p0_first_]? = some (cL eI x0.first_)) (h0_last_ : σ.objs[p0_last_]? = some (cL eI x0.last_)) (h0_count : σ.objs[p0_count]? = some (cL eI x0.count)) (hd : [p0, p0_nodes, p0_first_, p0_last_, p0_count].Pairwise fun a b => a ≠ b) : ACall Tryd.prog 58 [(.ref p0 0), (eI x1)] σ (fun a τ => a = eI r ∧ τ = σ) := by
  unfold lists_Lists_Len at H
  refine ACall.pure (acall_start tk Tryd.func58 (by decide) rfl (Nat.le_of_ble_eq_true rfl) ?_)
  have hH := Holds.brings (σ := σ) [(p0, [(.vec p0_nodes 4 (x0.nodes).length), (.vec p0_first_ 1 (x0.first_).length), (.vec p0_last_ 1 (x0.last_).length), (.vec p0_count 1 (x0.count).length), (eI x0.free), (eI x0.clock)]), (p0_nodes, (cL e_lists_link x0.nodes)), (p0_first_, (cL eI x0.first_)), (p0_last_, (cL eI x0.last_)), (p0_count, (cL eI x0.count))] (by simp only [List.mem_cons, List.not_mem_nil, or_false]; rintro _ (rfl | rfl | rfl | rfl | rfl) <;> assumption) hd
  refine awp_seq ?_
  refine awp_region rfl ?_
  refine wpo_mv (a := (eI (0 : Int))) rfl rfl rfl (o_as tk rfl (Wk.refl _)) ?_
  refine wpo_nil ?_
  refine awp_seq ?_
  refine awp_seq ?_
  obtain ⟨s1, hs3, hj4⟩ := Option.bind_eq_some_iff.1 H
  refine awp_cutn (fun fr τ => WkF fr (fm [(0, (.ref p0 0)), (1, (eI x1)), (15, (eB s1))]) ∧ Holds σ [(p0, [(.vec p0_nodes 4 (x0.nodes).length), (.vec p0_first_ 1 (x0.first_).length), (.vec p0_last_ 1 (x0.last_).length), (.vec p0_count 1 (x0.count).length), (eI x0.free), (eI x0.clock)]), (p0_nodes, (cL e_lists_link x0.nodes)), (p0_first_, (cL eI x0.first_)), (p0_last_, (cL eI x0.last_)), (p0_count, (cL eI x0.count))] [] τ) ?_ ?_
  · rintro fr τ ⟨hfr, hH⟩
    have H12 := hj4
    refine AWP.fm [(0, (.ref p0 0)), (1, (eI x1)), (15, (eB s1))] hfr ?_
    refine awp_if H12 rfl (fun H13 => ?_) (fun H13 => ?_)
    · refine awp_seq ?_
      refine awp_region rfl ?_
      refine wpo_mv (a := (eI (0 : Int))) rfl rfl rfl (o_as tk rfl (Wk.refl _)) ?_
      refine wpo_nil ?_
      refine awp_ret ?_
      obtain rfl := Option.some.inj H13
      exact ⟨_, (eI (0 : Int)), rfl, (.of_eq rfl), .of_eq ((enc_i64 td3 sz3).cut _ _ _), (((((hH.noT.unbring h0).unbring h0_nodes).unbring h0_first_).unbring h0_last_).unbring h0_count)⟩
    · refine awp_skip ?_
      refine awp_seq ?_
      refine awp_region rfl ?_
      refine wpo_mv (a := (.ref p0 0)) rfl rfl rfl (o_mv tk rfl (Wk.refl _)) ?_
      refine wpo_mv (a := (.ref p0 0)) rfl rfl rfl (o_c tk false rfl (fun _ => rfl)) ?_
      refine wpo_mv (a := (.ref p0 3)) rfl rfl rfl (o_c tk false rfl (fun _ => rfl)) ?_
      refine wpo_rd (a := (.vec p0_count 1 (x0.count).length)) rfl rfl rfl (h_ld tk hH 0 rfl rfl rfl) ?_
      refine wpo_mv (a := (eI x1)) rfl rfl rfl (o_mv tk rfl (Wk.refl _)) ?_
      refine wpo_bd H13 (fun _ => .ref p0_count (0 + (x1 : Int).toNat * 1 + 0)) rfl rfl rfl (fun v15 hv => o_vecx tk hv td62 sz3 (by decide) rfl rfl) fun v15 hv15 H14 => ?_
      refine wpo_bdr H14 (fun y => eI y) rfl rfl rfl (fun v17 hv => h_ldx tk hH 4 hv rfl (enc_i64 td3 sz3) (acut_enc (enc_i64 td3 sz3) rfl _) (by decide) rfl) fun v17 hv17 H16 => ?_
      refine wpo_mv (a := (eI v17)) rfl rfl rfl (o_as tk rfl (Wk.refl _)) ?_
      refine wpo_nil ?_
      refine awp_ret ?_
      obtain rfl := Option.some.inj H16
      exact ⟨_, (eI v17), rfl, (.of_eq rfl), .of_eq ((enc_i64 td3 sz3).cut _ _ _), (((((hH.noT.unbring h0).unbring h0_nodes).unbring h0_first_).unbring h0_last_).unbring h0_count)⟩
  · refine awp_region rfl ?_
    refine wpo_mv (a := (eI x1)) rfl rfl rfl (o_mv tk rfl (Wk.refl _)) ?_
    refine wpo_lt hs3 eB rfl rfl rfl (o_ar tk rfl rfl rfl) fun v6 H5 => ?_
    refine wpo_mv (a := (eB v6)) rfl rfl rfl (o_mv tk rfl (Wk.refl _)) ?_
    refine if_split H5 (fun hb H7 => ?_) (fun hb H7 => ?_)
    · subst hb
      refine wpo_skip rfl rfl rfl ?_
      refine wpo_skip rfl rfl rfl ?_
      refine wpo_skip rfl rfl rfl ?_
      refine wpo_skip rfl rfl rfl ?_
      refine wpo_skip rfl rfl rfl ?_
      refine wpo_skip rfl rfl rfl ?_
      refine wpo_skip rfl rfl rfl ?_
      refine wpo_mv (a := (eB true)) rfl rfl rfl (o_pick_t tk rfl rfl (Wk.refl _)) ?_
      refine wpo_nil ?_
      have e := Option.some.inj H7
      subst e
      exact ⟨(wkf_cons (.of_eq rfl) (wkf_cons (.of_eq rfl) (wkf_cons (.of_eq rfl) (wkf_nil _)))), hH⟩
    · subst hb
      refine wpo_mv (a := (eI x1)) rfl rfl rfl (o_mv tk rfl (Wk.refl _)) ?_
      refine wpo_mv (a := (.ref p0 0)) rfl rfl rfl (o_mv tk rfl (Wk.refl _)) ?_
      refine wpo_mv (a := (.ref p0 0)) rfl rfl rfl (o_c tk false rfl (fun _ => rfl)) ?_
      refine wpo_mv (a := (.ref p0 3)) rfl rfl rfl (o_c tk false rfl (fun _ => rfl)) ?_
      refine wpo_rd (a := (.vec p0_count 1 (x0.count).length)) rfl rfl rfl (h_ld tk hH 0 rfl rfl rfl) ?_
      refine wpo_lt H7 eI rfl rfl rfl (o_vlen tk td62 rfl) fun v9 H8 => ?_
      refine wpo_lt H8 eB rfl rfl rfl (o_ar tk rfl rfl rfl) fun v11 H10 => ?_
      refine wpo_mv (a := (eB v11)) rfl rfl rfl (o_pick_f tk rfl rfl (Wk.refl _)) ?_
      refine wpo_nil ?_
      have e := Option.some.inj H10
      subst e
      exact ⟨(wkf_cons (.of_eq rfl) (wkf_cons (.of_eq rfl) (wkf_cons (.of_eq rfl) (wkf_nil _)))), hH⟩
end Go.Proofs.YtobbifgmjkgkfaaDoor

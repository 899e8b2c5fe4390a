/- Where any things stand, laid one behind the other, any bytes in pieces, and the things of any foot and pieces, are what the chapter says. (part 4 of 8) -/
import Derived.Test.YtkmlinaofbcbaaaDoorKRegionLays3
import Derived.LaidEql
import Derived.RowKitTokens
import Derived.Stop.Asserts
import Derived.Test.YtkmlinaofbcbaaaDoorProg
import Derived.WalkKit
namespace Go.Proofs.YtkmlinaofbcbaaaDoor
open Go Go.Va
set_option linter.unusedVariables false
set_option linter.unusedSimpArgs false
set_option maxRecDepth 20000
noncomputable def region_Get_b0 (x0 : List (BitVec 8)) (c16 : api_Foot) (c17 : octets_Reader) : Option ((api_Foot × octets_Reader) ⊕ (api_Foot × octets_Reader)) :=
  (
    (octets_Reader_Code c17).bind fun v33 =>
    lt (v33 == (0 : Int)) fun v35 =>
    if v35 = true then
      (octets_Reader_Left c17).bind fun v38 =>
      lt (decide (v38 > (0 : Int))) fun v40 =>
      some v40
    else
      some false
   : Option (Bool)).bind fun s28 =>
    if s28 = true then
      (octets_Reader_Number c17 (60 : Int)).bind fun v44 =>
      lt (([v44.1] : List Int)) fun v46 =>
      (app 8 c16.Dead v46).bind fun v48 =>
      some (.inl (({ c16 with Dead := v48 } : api_Foot), v44.2))
    else
      some (.inr (c16, c17))
noncomputable def region_Get_l0 (x0 : List (BitVec 8)) (s : api_Foot × octets_Reader) : Option (api_Foot × octets_Reader) := loopO (fun s => region_Get_b0 x0 s.1 s.2) s
noncomputable def region_Get (x0 : List (BitVec 8)) : Option (api_Foot × Err) :=
  (octets_Read x0).bind fun v4 =>
  (octets_Reader_Number v4 (1099511627776 : Int)).bind fun v8 =>
  (octets_Reader_Number v8.2 (954368 : Int)).bind fun v10 =>
  (octets_Reader_Number v10.2 (60 : Int)).bind fun v12 =>
  (region_Get_l0 x0 (((⟨v8.1, v10.1, v12.1, ([] : List Int)⟩ : api_Foot) : api_Foot), v12.2)).bind fun s26 =>
    (octets_Reader_Code s26.2).bind fun v54 =>
    lt (v54 != (0 : Int)) fun v56 =>
    if v56 = true then
      (octets_Reader_At s26.2).bind fun v59 =>
      (trouble_New ([102#8, 111#8, 111#8, 116#8] : List (BitVec 8)) v59 v54).bind fun v61 =>
      some (((⟨(0 : Int), (0 : Int), (0 : Int), ([] : List Int)⟩ : api_Foot) : api_Foot), v61)
    else
      (region_Check s26.1).bind fun v64 =>
      lt (!Err.isNil v64) fun v66 =>
      if v66 = true then
        lt (((x0).length : Int)) fun v69 =>
        (trouble_Wrap ([102#8, 111#8, 111#8, 116#8] : List (BitVec 8)) v69 v64).bind fun v71 =>
        some (((⟨(0 : Int), (0 : Int), (0 : Int), ([] : List Int)⟩ : api_Foot) : api_Foot), v71)
      else
        some ((s26.1 : api_Foot), Err.nil)
end Go.Proofs.YtkmlinaofbcbaaaDoor
namespace Go.Proofs.YtkmlinaofbcbaaaDoor
open Go Go.Va
set_option linter.unusedVariables false
set_option linter.unusedSimpArgs false
set_option maxRecDepth 20000
noncomputable def butteryref02_Ints_b0 (x0 : List Int) (x1 : List Int) (c8 : Int) : Option ((Int) ⊕ (Unit ⊕ (Bool))) :=
  lt (((x0).length : Int)) fun v19 =>
  lt (decide (c8 < v19)) fun v21 =>
  if v21 = true then
    (ix x0 c8).bind fun v24 =>
    (ix x1 c8).bind fun v26 =>
    lt (v24 != v26) fun v28 =>
    if v28 = true then
      some (.inr (.inr false))
    else
      lt (w64 (c8 + (1 : Int))) fun v32 =>
      some (.inl v32)
  else
    some (.inr (.inl ()))
noncomputable def butteryref02_Ints_l0 (x0 : List Int) (x1 : List Int) (s : Int) : Option (Unit ⊕ (Bool)) := loopO (fun s => butteryref02_Ints_b0 x0 x1 s) s
noncomputable def butteryref02_Ints (x0 : List Int) (x1 : List Int) : Option (Bool) :=
  lt (((x0).length : Int)) fun v2 =>
  lt (((x1).length : Int)) fun v4 =>
  lt (v2 != v4) fun v6 =>
  if v6 = true then
    some false
  else
    (butteryref02_Ints_l0 x0 x1 (0 : Int)).bind fun o9 =>
      Sum.elim (fun s16 : Unit =>
        some true
        ) (fun y => some y) o9
end Go.Proofs.YtkmlinaofbcbaaaDoor
namespace Go.Proofs.YtkmlinaofbcbaaaDoor
open Go Go.Va
set_option linter.unusedVariables false
set_option linter.unusedSimpArgs false
set_option maxRecDepth 20000
noncomputable def butteryref14_Same (x0 : api_Foot) (x1 : api_Foot) : Option (Bool) :=
  lt (x0.Seq == x1.Seq) fun v2 =>
  if v2 = true then
    lt (x0.Bytes == x1.Bytes) fun v5 =>
    if v5 = true then
      lt (x0.Count == x1.Count) fun v8 =>
      if v8 = true then
        (butteryref02_Ints x0.Dead x1.Dead).bind fun v11 =>
        some v11
      else
        some false
    else
      some false
  else
    some false
end Go.Proofs.YtkmlinaofbcbaaaDoor
namespace Go.Proofs.YtkmlinaofbcbaaaDoor
open Go Go.Va
set_option linter.unusedVariables false
set_option linter.unusedSimpArgs false
set_option maxRecDepth 20000
noncomputable def region_Split_b0 (x0 : List (BitVec 8)) (c1 : List (List (BitVec 8))) (c2 : Int) : Option (((List (List (BitVec 8))) × Int) ⊕ ((List (List (BitVec 8))))) :=
  lt (((x0).length : Int)) fun v14 =>
  lt (decide (c2 < v14)) fun v16 =>
  if v16 = true then
    lt (w64 (c2 + (233 : Int))) fun v19 =>
    lt (((x0).length : Int)) fun v21 =>
    lt ((if v21 < v19 then v21 else v19)) fun v23 =>
    (cut3 x0 c2 v23 v23).bind fun v25 =>
    lt (([v25] : List (List (BitVec 8)))) fun v27 =>
    (app 24 c1 v27).bind fun v29 =>
    lt (w64 (c2 + (233 : Int))) fun v33 =>
    some (.inl (v29, v33))
  else
    some (.inr c1)
noncomputable def region_Split_l0 (x0 : List (BitVec 8)) (s : (List (List (BitVec 8))) × Int) : Option ((List (List (BitVec 8)))) := loopO (fun s => region_Split_b0 x0 s.1 s.2) s
noncomputable def region_Split (x0 : List (BitVec 8)) : Option ((List (List (BitVec 8)))) :=
  (region_Split_l0 x0 ([], (0 : Int))).bind fun s11 =>
    some s11
end Go.Proofs.YtkmlinaofbcbaaaDoor
namespace Go.Proofs.YtkmlinaofbcbaaaDoor
open Go Go.Va
set_option linter.unusedVariables false
set_option linter.unusedSimpArgs false
set_option maxRecDepth 20000
noncomputable def item_Check_1_c (x0 : List (BitVec 8)) (x1 : Int) (x2 : Int) (x3 : Err) : Option (Err) :=
  (
    lt (Err.isNil x3) fun v6 =>
    if v6 = true then
      lt (decide (x1 < x2)) fun v9 =>
      if v9 = true then
        some true
      else
        lt (decide (x1 > (1099511627776 : Int))) fun v12 =>
        some v12
    else
      some false
   : Option (Bool)).bind fun s1 =>
    if s1 = true then
      (trouble_New x0 x1 (2 : Int)).bind fun v16 =>
      lt ((v16 : Err)) fun c18 =>
      some c18
    else
      some x3
end Go.Proofs.YtkmlinaofbcbaaaDoor
namespace Go.Proofs.YtkmlinaofbcbaaaDoor
open Go Go.Va
set_option linter.unusedVariables false
set_option linter.unusedSimpArgs false
set_option maxRecDepth 20000
noncomputable def octets_Key (x0 : List (BitVec 8)) : Option (Int) :=
  lt (((x0).length : Int)) fun v2 =>
  lt (v2 == (0 : Int)) fun v4 =>
  if v4 = true then
    some (1 : Int)
  else
    lt (decide (v2 > (40 : Int))) fun v7 =>
    if v7 = true then
      some (3 : Int)
    else
      some (0 : Int)
end Go.Proofs.YtkmlinaofbcbaaaDoor
namespace Go.Proofs.YtkmlinaofbcbaaaDoor
open Go Go.Va
set_option linter.unusedVariables false
set_option linter.unusedSimpArgs false
set_option maxRecDepth 20000
noncomputable def item_Check (x0 : api_Entry) : Option (Err) :=
  (octets_Key x0.Key).bind fun v2 =>
  lt (v2 != (0 : Int)) fun v4 =>
  if v4 = true then
    lt (((x0.Key).length : Int)) fun v7 =>
    (trouble_New ([107#8, 101#8, 121#8] : List (BitVec 8)) v7 v2).bind fun v9 =>
    some v9
  else
    (item_Check_1_c ([118#8, 101#8, 114#8, 115#8, 105#8, 111#8, 110#8] : List (BitVec 8)) x0.Version (1 : Int) Err.nil).bind fun v13 =>
    (item_Check_1_c ([97#8, 115#8, 111#8, 102#8] : List (BitVec 8)) x0.AsOf x0.Version v13).bind fun v15 =>
    (item_Check_1_c ([101#8, 110#8, 100#8, 115#8] : List (BitVec 8)) x0.Ends (0 : Int) v15).bind fun v17 =>
    (
      lt (Err.isNil v17) fun v23 =>
      if v23 = true then
        lt (((x0.Value).length : Int)) fun v26 =>
        lt (decide (v26 > (4096 : Int))) fun v28 =>
        some v28
      else
        some false
     : Option (Bool)).bind fun s18 =>
      if s18 = true then
        lt (((x0.Value).length : Int)) fun v32 =>
        (trouble_New ([118#8, 97#8, 108#8, 117#8, 101#8] : List (BitVec 8)) v32 (3 : Int)).bind fun v34 =>
        lt ((v34 : Err)) fun c36 =>
        some c36
      else
        some v17
end Go.Proofs.YtkmlinaofbcbaaaDoor
namespace Go.Proofs.YtkmlinaofbcbaaaDoor
open Go Go.Va
set_option linter.unusedVariables false
set_option linter.unusedSimpArgs false
set_option maxRecDepth 20000
noncomputable def octets_Reader_Bytes (x0 : octets_Reader) (x1 : Int) : Option ((List (BitVec 8)) × octets_Reader) :=
  (octets_Reader_Number x0 x1).bind fun v2 =>
  lt (v2.2.code != (0 : Int)) fun v4 =>
  if v4 = true then
    some ([], v2.2)
  else
    (octets_Reader_Left v2.2).bind fun v7 =>
    lt (decide (v2.1 > v7)) fun v9 =>
    if v9 = true then
      lt (({ v2.2 with at_ := x0.at_ } : octets_Reader)) fun c12 =>
      (octets_Reader_Fail c12 (6 : Int)).bind fun v15 =>
      some ([], v15)
    else
      lt (w64 (v2.2.at_ + v2.1)) fun v17 =>
      (cutO v2.2.b v2.2.at_ v17).bind fun v19 =>
      (app 1 ([] : List (BitVec 8)) v19).bind fun v21 =>
      lt (w64 (v2.2.at_ + v2.1)) fun v25 =>
      lt (({ v2.2 with at_ := v25 } : octets_Reader)) fun c27 =>
      some (v21, c27)
end Go.Proofs.YtkmlinaofbcbaaaDoor
namespace Go.Proofs.YtkmlinaofbcbaaaDoor
open Go Go.Va
set_option linter.unusedVariables false
set_option linter.unusedSimpArgs false
set_option maxRecDepth 20000
noncomputable def item_From (x0 : octets_Reader) : Option (api_Entry × octets_Reader) :=
  (octets_Reader_Bytes x0 (40 : Int)).bind fun v4 =>
  (octets_Reader_Number v4.2 (1099511627776 : Int)).bind fun v9 =>
  (octets_Reader_Number v9.2 (1099511627776 : Int)).bind fun v12 =>
  (octets_Reader_Number v12.2 (1099511627776 : Int)).bind fun v15 =>
  (octets_Reader_Bytes v15.2 (4096 : Int)).bind fun v18 =>
  (octets_Reader_Code v18.2).bind fun v21 =>
  lt (v21 == (0 : Int)) fun v23 =>
  (
    if v23 = true then
      (item_Check ({ ({ ({ ({ ((⟨v4.1, (0 : Int), (0 : Int), (0 : Int), ([] : List (BitVec 8))⟩ : api_Entry) : api_Entry) with Version := v9.1 } : api_Entry) with AsOf := v12.1 } : api_Entry) with Ends := v15.1 } : api_Entry) with Value := v18.1 } : api_Entry)).bind fun v30 =>
      lt (!Err.isNil v30) fun v32 =>
      if v32 = true then
        (trouble_Of v30).bind fun v35 =>
        (octets_Reader_Fail v18.2 v35).bind fun v37 =>
        some v37
      else
        some v18.2
    else
      some v18.2
   : Option (octets_Reader)).bind fun s24 =>
    (octets_Reader_Code s24).bind fun v40 =>
    lt (v40 != (0 : Int)) fun v42 =>
    if v42 = true then
      some (((⟨([] : List (BitVec 8)), (0 : Int), (0 : Int), (0 : Int), ([] : List (BitVec 8))⟩ : api_Entry) : api_Entry), s24)
    else
      some ((({ ({ ({ ({ ((⟨v4.1, (0 : Int), (0 : Int), (0 : Int), ([] : List (BitVec 8))⟩ : api_Entry) : api_Entry) with Version := v9.1 } : api_Entry) with AsOf := v12.1 } : api_Entry) with Ends := v15.1 } : api_Entry) with Value := v18.1 } : api_Entry) : api_Entry), s24)
end Go.Proofs.YtkmlinaofbcbaaaDoor
namespace Go.Proofs.YtkmlinaofbcbaaaDoor
open Go Go.Va
set_option linter.unusedVariables false
set_option linter.unusedSimpArgs false
set_option maxRecDepth 20000
noncomputable def item_Read_b0  (c5 : List api_Entry) (c6 : octets_Reader) : Option (((List api_Entry) × octets_Reader) ⊕ (((List api_Entry) × octets_Reader) ⊕ ((List api_Entry) × Err))) :=
  (
    (octets_Reader_Code c6).bind fun v22 =>
    lt (v22 == (0 : Int)) fun v24 =>
    if v24 = true then
      (octets_Reader_Left c6).bind fun v27 =>
      lt (decide (v27 > (0 : Int))) fun v29 =>
      some v29
    else
      some false
   : Option (Bool)).bind fun s17 =>
    if s17 = true then
      (octets_Reader_At c6).bind fun v33 =>
      (item_From c6).bind fun v35 =>
      (octets_Reader_Code v35.2).bind fun v40 =>
      lt (v40 != (0 : Int)) fun v42 =>
      if v42 = true then
        lt (((c5).length : Int)) fun v45 =>
        (octets_Reader_Code v35.2).bind fun v47 =>
        (trouble_New ([101#8, 110#8, 116#8, 114#8, 121#8] : List (BitVec 8)) v33 v47).bind fun v49 =>
        (trouble_Wrap ([101#8, 110#8, 116#8, 114#8, 105#8, 101#8, 115#8] : List (BitVec 8)) v45 v49).bind fun v51 =>
        some (.inr (.inr ([], v51)))
      else
        lt (([(v35.1 : api_Entry)] : List api_Entry)) fun v54 =>
        (app 64 c5 v54).bind fun v56 =>
        some (.inl (v56, v35.2))
    else
      some (.inr (.inl (c5, c6)))
noncomputable def item_Read_l0  (s : (List api_Entry) × octets_Reader) : Option (((List api_Entry) × octets_Reader) ⊕ ((List api_Entry) × Err)) := loopO (fun s => item_Read_b0 s.1 s.2) s
noncomputable def item_Read (x0 : List (BitVec 8)) : Option ((List api_Entry) × Err) :=
  (octets_Read x0).bind fun v2 =>
  (item_Read_l0 ([], v2)).bind fun o8 =>
    Sum.elim (fun s15 : (List api_Entry) × octets_Reader =>
      some (s15.1, Err.nil)
      ) (fun y => some y) o8
end Go.Proofs.YtkmlinaofbcbaaaDoor
namespace Go.Proofs.YtkmlinaofbcbaaaDoor
open Go Go.Va
set_option linter.unusedVariables false
set_option linter.unusedSimpArgs false
set_option maxRecDepth 20000
noncomputable def region_Whole_b0 (x0 : api_Foot) (x1 : List (List (BitVec 8))) (v2 : Int) (c3 : List (BitVec 8)) (c4 : Int) : Option (((List (BitVec 8)) × Int) ⊕ ((List (BitVec 8)))) :=
  lt (decide (c4 < v2)) fun v16 =>
  if v16 = true then
    (ix x1 c4).bind fun v19 =>
    (app 1 c3 v19).bind fun v21 =>
    lt (w64 (c4 + (1 : Int))) fun v25 =>
    some (.inl (v21, v25))
  else
    some (.inr c3)
noncomputable def region_Whole_l0 (x0 : api_Foot) (x1 : List (List (BitVec 8))) (v2 : Int) (s : (List (BitVec 8)) × Int) : Option ((List (BitVec 8))) := loopO (fun s => region_Whole_b0 x0 x1 v2 s.1 s.2) s
noncomputable def region_Whole (x0 : api_Foot) (x1 : List (List (BitVec 8))) : Option ((List api_Entry) × Err) :=
  lt (((x1).length : Int)) fun v2 =>
  (region_Whole_l0 x0 x1 v2 ([], (0 : Int))).bind fun s13 =>
    lt (((s13).length : Int)) fun v28 =>
    lt (v28 != x0.Bytes) fun v30 =>
    if v30 = true then
      lt (((s13).length : Int)) fun v33 =>
      (trouble_New ([114#8, 101#8, 103#8, 105#8, 111#8, 110#8] : List (BitVec 8)) v33 (6 : Int)).bind fun v35 =>
      some ([], v35)
    else
      (item_Read s13).bind fun v37 =>
      lt (!Err.isNil v37.2) fun v39 =>
      if v39 = true then
        (trouble_Wrap ([114#8, 101#8, 103#8, 105#8, 111#8, 110#8] : List (BitVec 8)) x0.Seq v37.2).bind fun v42 =>
        some ([], v42)
      else
        lt (((v37.1).length : Int)) fun v44 =>
        lt (v44 != x0.Count) fun v46 =>
        if v46 = true then
          lt (((v37.1).length : Int)) fun v49 =>
          (trouble_New ([114#8, 101#8, 103#8, 105#8, 111#8, 110#8] : List (BitVec 8)) v49 (5 : Int)).bind fun v51 =>
          some ([], v51)
        else
          some (v37.1, Err.nil)
end Go.Proofs.YtkmlinaofbcbaaaDoor
namespace Go.Proofs.YtkmlinaofbcbaaaDoor
open Go Go.Va
set_option linter.unusedVariables false
set_option linter.unusedSimpArgs false
set_option maxRecDepth 20000
noncomputable def butteryref06_Same (x0 : api_Entry) (x1 : api_Entry) : Option (Bool) :=
  lt (x0.Key == x1.Key) fun v2 =>
  if v2 = true then
    lt (x0.Version == x1.Version) fun v5 =>
    if v5 = true then
      lt (x0.AsOf == x1.AsOf) fun v8 =>
      if v8 = true then
        lt (x0.Ends == x1.Ends) fun v11 =>
        if v11 = true then
          (butteryref02_Same x0.Value x1.Value).bind fun v14 =>
          some v14
        else
          some false
      else
        some false
    else
      some false
  else
    some false
end Go.Proofs.YtkmlinaofbcbaaaDoor
namespace Go.Proofs.YtkmlinaofbcbaaaDoor
open Go Go.Va
set_option linter.unusedVariables false
set_option linter.unusedSimpArgs false
set_option maxRecDepth 20000
noncomputable def butteryref06_SameAll_b0 (x0 : List api_Entry) (x1 : List api_Entry) (c8 : Int) : Option ((Int) ⊕ (Unit ⊕ (Bool))) :=
  lt (((x0).length : Int)) fun v19 =>
  lt (decide (c8 < v19)) fun v21 =>
  if v21 = true then
    (ix x0 c8).bind fun v24 =>
    (ix x1 c8).bind fun v26 =>
    (butteryref06_Same v24 v26).bind fun v28 =>
    lt (!v28) fun v30 =>
    if v30 = true then
      some (.inr (.inr false))
    else
      lt (w64 (c8 + (1 : Int))) fun v34 =>
      some (.inl v34)
  else
    some (.inr (.inl ()))
noncomputable def butteryref06_SameAll_l0 (x0 : List api_Entry) (x1 : List api_Entry) (s : Int) : Option (Unit ⊕ (Bool)) := loopO (fun s => butteryref06_SameAll_b0 x0 x1 s) s
noncomputable def butteryref06_SameAll (x0 : List api_Entry) (x1 : List api_Entry) : Option (Bool) :=
  lt (((x0).length : Int)) fun v2 =>
  lt (((x1).length : Int)) fun v4 =>
  lt (v2 != v4) fun v6 =>
  if v6 = true then
    some false
  else
    (butteryref06_SameAll_l0 x0 x1 (0 : Int)).bind fun o9 =>
      Sum.elim (fun s16 : Unit =>
        some true
        ) (fun y => some y) o9
end Go.Proofs.YtkmlinaofbcbaaaDoor
namespace Go.Proofs.YtkmlinaofbcbaaaDoor
open Go Go.Va
set_option linter.unusedVariables false
set_option linter.unusedSimpArgs false
set_option maxRecDepth 20000
noncomputable def octets_Len_F (rec : Int → Option (Int)) (x0 : Int) : Option (Int) :=
  lt (decide (x0 ≥ (34359738368 : Int))) fun v2 =>
  if v2 = true then
    lt (shr64 x0 35) fun v5 =>
    (rec v5).bind fun v7 =>
    lt (w64 ((5 : Int) + v7)) fun v9 =>
    some v9
  else
    lt (decide (x0 ≥ (268435456 : Int))) fun v11 =>
    if v11 = true then
      lt (w64 ((1 : Int) + (1 : Int))) fun v14 =>
      lt (w64 (v14 + (1 : Int))) fun v16 =>
      lt (w64 (v16 + (1 : Int))) fun v18 =>
      lt (w64 (v18 + (1 : Int))) fun v20 =>
      some v20
    else
      lt (decide (x0 ≥ (2097152 : Int))) fun v22 =>
      if v22 = true then
        lt (w64 ((1 : Int) + (1 : Int))) fun v25 =>
        lt (w64 (v25 + (1 : Int))) fun v27 =>
        lt (w64 (v27 + (1 : Int))) fun v29 =>
        some v29
      else
        lt (decide (x0 ≥ (16384 : Int))) fun v31 =>
        if v31 = true then
          lt (w64 ((1 : Int) + (1 : Int))) fun v34 =>
          lt (w64 (v34 + (1 : Int))) fun v36 =>
          some v36
        else
          lt (decide (x0 ≥ (128 : Int))) fun v38 =>
          if v38 = true then
            lt (w64 ((1 : Int) + (1 : Int))) fun v41 =>
            some v41
          else
            some (1 : Int)
noncomputable def octets_Len_n : Nat → Int → Option (Int)
  | 0 => fun _ => none
  | k + 1 => octets_Len_F (octets_Len_n k)
noncomputable def octets_Len (x0 : Int) : Option (Int) := octets_Len_n 1000000 x0
end Go.Proofs.YtkmlinaofbcbaaaDoor
namespace Go.Proofs.YtkmlinaofbcbaaaDoor
open Go Go.Va
set_option linter.unusedVariables false
set_option linter.unusedSimpArgs false
set_option maxRecDepth 20000
noncomputable def item_Size (x0 : api_Entry) : Option (Int) :=
  lt (((x0.Key).length : Int)) fun v2 =>
  (octets_Len v2).bind fun v4 =>
  lt (((x0.Key).length : Int)) fun v6 =>
  lt (w64 (v4 + v6)) fun v8 =>
  lt (((x0.Value).length : Int)) fun v10 =>
  (octets_Len v10).bind fun v12 =>
  lt (w64 (v8 + v12)) fun v14 =>
  lt (((x0.Value).length : Int)) fun v16 =>
  lt (w64 (v14 + v16)) fun v18 =>
  (octets_Len x0.Version).bind fun v20 =>
  lt (w64 (v18 + v20)) fun v22 =>
  (octets_Len x0.AsOf).bind fun v24 =>
  lt (w64 (v22 + v24)) fun v26 =>
  (octets_Len x0.Ends).bind fun v28 =>
  lt (w64 (v26 + v28)) fun v30 =>
  some v30
end Go.Proofs.YtkmlinaofbcbaaaDoor
namespace Go.Proofs.YtkmlinaofbcbaaaDoor
open Go Go.Va
set_option linter.unusedVariables false
set_option linter.unusedSimpArgs false
set_option maxRecDepth 20000
noncomputable def bloom_Mix (x0 : BitVec 64) : Option ((BitVec 64)) :=
  lt (x0 >>> 33) fun v2 =>
  lt (x0 ^^^ v2) fun v4 =>
  lt (v4 * 18397679294719823053#64) fun v6 =>
  lt (v6 >>> 33) fun v8 =>
  lt (v6 ^^^ v8) fun v10 =>
  lt (v10 * 14181476777654086739#64) fun v12 =>
  lt (v12 >>> 33) fun v14 =>
  lt (v12 ^^^ v14) fun v16 =>
  some v16
end Go.Proofs.YtkmlinaofbcbaaaDoor
namespace Go.Proofs.YtkmlinaofbcbaaaDoor
open Go Go.Va
set_option linter.unusedVariables false
set_option linter.unusedSimpArgs false
set_option maxRecDepth 20000
noncomputable def bloom_Hash_b0 (x0 : List (BitVec 8)) (v2 : Int) (c3 : BitVec 64) (c4 : Int) : Option (((BitVec 64) × Int) ⊕ ((BitVec 64))) :=
  lt (decide (c4 < v2)) fun v15 =>
  if v15 = true then
    (ix x0 c4).bind fun v18 =>
    lt (BitVec.setWidth 64 v18) fun v20 =>
    lt (c3 ^^^ v20) fun v22 =>
    lt (v22 * 1099511628211#64) fun v24 =>
    lt (w64 (c4 + (1 : Int))) fun v26 =>
    some (.inl (v24, v26))
  else
    some (.inr c3)
noncomputable def bloom_Hash_l0 (x0 : List (BitVec 8)) (v2 : Int) (s : (BitVec 64) × Int) : Option ((BitVec 64)) := loopO (fun s => bloom_Hash_b0 x0 v2 s.1 s.2) s
noncomputable def bloom_Hash (x0 : List (BitVec 8)) : Option ((BitVec 64)) :=
  lt (((x0).length : Int)) fun v2 =>
  (bloom_Hash_l0 x0 v2 (14695981039346656037#64, (0 : Int))).bind fun s12 =>
    (bloom_Mix s12).bind fun v29 =>
    some v29
end Go.Proofs.YtkmlinaofbcbaaaDoor
namespace Go.Proofs.YtkmlinaofbcbaaaDoor
open Go Go.Va
set_option linter.unusedVariables false
set_option linter.unusedSimpArgs false
set_option maxRecDepth 20000
noncomputable def region_Marks_b0 (x0 : List api_Entry) (v2 : Int) (c3 : List api_Mark) (c4 : Int) (c5 : Int) : Option (((List api_Mark) × Int × Int) ⊕ ((List api_Mark))) :=
  lt (decide (c5 < v2)) fun v17 =>
  if v17 = true then
    (ix x0 c5).bind fun v20 =>
    (item_Size (v20 : api_Entry)).bind fun v25 =>
    (bloom_Hash ((v20 : api_Entry).Key)).bind fun v27 =>
    lt ((⟨v27, c4, v25⟩ : api_Mark)) fun v29 =>
    lt (([v29] : List api_Mark)) fun v31 =>
    (app 24 c3 v31).bind fun v33 =>
    lt (w64 (c4 + v25)) fun v37 =>
    lt (w64 (c5 + (1 : Int))) fun v39 =>
    some (.inl (v33, v37, v39))
  else
    some (.inr c3)
noncomputable def region_Marks_l0 (x0 : List api_Entry) (v2 : Int) (s : (List api_Mark) × Int × Int) : Option ((List api_Mark)) := loopO (fun s => region_Marks_b0 x0 v2 s.1 s.2.1 s.2.2) s
noncomputable def region_Marks (x0 : List api_Entry) : Option ((List api_Mark)) :=
  lt (((x0).length : Int)) fun v2 =>
  (region_Marks_l0 x0 v2 ([], (0 : Int), (0 : Int))).bind fun s14 =>
    some s14
end Go.Proofs.YtkmlinaofbcbaaaDoor
namespace Go.Proofs.YtkmlinaofbcbaaaDoor
open Go Go.Va
set_option linter.unusedVariables false
set_option linter.unusedSimpArgs false
set_option maxRecDepth 20000
noncomputable def octets_Bytes (x0 : List (BitVec 8)) (x1 : List (BitVec 8)) : Option ((List (BitVec 8))) :=
  lt (((x1).length : Int)) fun v2 =>
  lt (([v2] : List Int)) fun v4 =>
  (octets_Put x0 v4).bind fun v6 =>
  (app 1 v6 x1).bind fun v9 =>
  some v9
end Go.Proofs.YtkmlinaofbcbaaaDoor
namespace Go.Proofs.YtkmlinaofbcbaaaDoor
open Go Go.Va
set_option linter.unusedVariables false
set_option linter.unusedSimpArgs false
set_option maxRecDepth 20000
noncomputable def item_Put (x0 : List (BitVec 8)) (x1 : api_Entry) : Option ((List (BitVec 8))) :=
  (toBytes x1.Key).bind fun v2 =>
  (octets_Bytes x0 v2).bind fun v4 =>
  lt (([x1.Version, x1.AsOf, x1.Ends] : List Int)) fun v6 =>
  (octets_Put v4 v6).bind fun v8 =>
  (octets_Bytes v8 x1.Value).bind fun v10 =>
  some v10
end Go.Proofs.YtkmlinaofbcbaaaDoor
namespace Go.Proofs.YtkmlinaofbcbaaaDoor
open Go Go.Va
set_option linter.unusedVariables false
set_option linter.unusedSimpArgs false
set_option maxRecDepth 20000
noncomputable def item_All_b0 (x0 : List api_Entry) (v2 : Int) (c3 : List (BitVec 8)) (c4 : Int) : Option (((List (BitVec 8)) × Int) ⊕ ((List (BitVec 8)))) :=
  lt (decide (c4 < v2)) fun v16 =>
  if v16 = true then
    (ix x0 c4).bind fun v19 =>
    (item_Put c3 (v19 : api_Entry)).bind fun v24 =>
    lt (w64 (c4 + (1 : Int))) fun v27 =>
    some (.inl (v24, v27))
  else
    some (.inr c3)
noncomputable def item_All_l0 (x0 : List api_Entry) (v2 : Int) (s : (List (BitVec 8)) × Int) : Option ((List (BitVec 8))) := loopO (fun s => item_All_b0 x0 v2 s.1 s.2) s
noncomputable def item_All (x0 : List api_Entry) : Option ((List (BitVec 8))) :=
  lt (((x0).length : Int)) fun v2 =>
  (item_All_l0 x0 v2 ([], (0 : Int))).bind fun s13 =>
    some s13
end Go.Proofs.YtkmlinaofbcbaaaDoor
namespace Go.Proofs.YtkmlinaofbcbaaaDoor
open Go Go.Va
set_option linter.unusedVariables false
set_option linter.unusedSimpArgs false
set_option maxRecDepth 20000
noncomputable def item_Same (x0 : api_Entry) (x1 : api_Entry) : Option (Bool) :=
  lt (x0.Key == x1.Key) fun v2 =>
  if v2 = true then
    lt (x0.Version == x1.Version) fun v5 =>
    if v5 = true then
      lt (x0.AsOf == x1.AsOf) fun v8 =>
      if v8 = true then
        lt (x0.Ends == x1.Ends) fun v11 =>
        if v11 = true then
          lt (x0.Value == x1.Value) fun v14 =>
          some v14
        else
          some false
      else
        some false
    else
      some false
  else
    some false
end Go.Proofs.YtkmlinaofbcbaaaDoor
namespace Go.Proofs.YtkmlinaofbcbaaaDoor
open Go Go.Va
set_option linter.unusedVariables false
set_option linter.unusedSimpArgs false
set_option maxRecDepth 20000
noncomputable def region_Take_b0 (x0 : List (List (BitVec 8))) (x1 : Int) (x2 : api_Mark) (v4 : Int) (c5 : List (BitVec 8)) (c6 : Int) : Option (((List (BitVec 8)) × Int) ⊕ ((List (BitVec 8)))) :=
  lt (decide (c6 < v4)) fun v18 =>
  if v18 = true then
    (ix x0 c6).bind fun v21 =>
    (app 1 c5 v21).bind fun v23 =>
    lt (w64 (c6 + (1 : Int))) fun v27 =>
    some (.inl (v23, v27))
  else
    some (.inr c5)
noncomputable def region_Take_l0 (x0 : List (List (BitVec 8))) (x1 : Int) (x2 : api_Mark) (v4 : Int) (s : (List (BitVec 8)) × Int) : Option ((List (BitVec 8))) := loopO (fun s => region_Take_b0 x0 x1 x2 v4 s.1 s.2) s
noncomputable def region_Take (x0 : List (List (BitVec 8))) (x1 : Int) (x2 : api_Mark) : Option (api_Entry × Err) :=
  lt (((x0).length : Int)) fun v4 =>
  (region_Take_l0 x0 x1 x2 v4 ([], (0 : Int))).bind fun s15 =>
    lt (w64 (x1 * (233 : Int))) fun v30 =>
    lt (w64 (x2.Off - v30)) fun v32 =>
    (
      lt (decide (v32 < (0 : Int))) fun v38 =>
      if v38 = true then
        some true
      else
        lt (decide (x2.Size < (0 : Int))) fun v41 =>
        if v41 = true then
          some true
        else
          lt (((s15).length : Int)) fun v44 =>
          lt (decide (v32 > v44)) fun v46 =>
          if v46 = true then
            some true
          else
            lt (((s15).length : Int)) fun v49 =>
            lt (w64 (v49 - v32)) fun v51 =>
            lt (decide (x2.Size > v51)) fun v53 =>
            some v53
     : Option (Bool)).bind fun s33 =>
      if s33 = true then
        (trouble_New ([116#8, 97#8, 107#8, 101#8] : List (BitVec 8)) x2.Off (6 : Int)).bind fun v57 =>
        some (((⟨([] : List (BitVec 8)), (0 : Int), (0 : Int), (0 : Int), ([] : List (BitVec 8))⟩ : api_Entry) : api_Entry), v57)
      else
        lt (w64 (v32 + x2.Size)) fun v60 =>
        (cutO s15 v32 v60).bind fun v62 =>
        (item_Read v62).bind fun v64 =>
        lt (!Err.isNil v64.2) fun v66 =>
        if v66 = true then
          (trouble_Wrap ([116#8, 97#8, 107#8, 101#8] : List (BitVec 8)) x2.Off v64.2).bind fun v69 =>
          some (((⟨([] : List (BitVec 8)), (0 : Int), (0 : Int), (0 : Int), ([] : List (BitVec 8))⟩ : api_Entry) : api_Entry), v69)
        else
          lt (((v64.1).length : Int)) fun v72 =>
          lt (v72 != (1 : Int)) fun v74 =>
          if v74 = true then
            (trouble_New ([116#8, 97#8, 107#8, 101#8] : List (BitVec 8)) x2.Off (5 : Int)).bind fun v77 =>
            some (((⟨([] : List (BitVec 8)), (0 : Int), (0 : Int), (0 : Int), ([] : List (BitVec 8))⟩ : api_Entry) : api_Entry), v77)
          else
            (ix v64.1 (0 : Int)).bind fun v80 =>
            some ((v80 : api_Entry), Err.nil)
end Go.Proofs.YtkmlinaofbcbaaaDoor
namespace Go.Proofs.YtkmlinaofbcbaaaDoor
open Go Go.Va
set_option linter.unusedVariables false
set_option linter.unusedSimpArgs false
set_option maxRecDepth 20000
noncomputable def region_Span (x0 : api_Mark) : Option (Int × Int) :=
  lt (decide (x0.Size < (1 : Int))) fun v2 =>
  if v2 = true then
    lt (quo64 x0.Off (233 : Int)) fun v5 =>
    lt (quo64 x0.Off (233 : Int)) fun v7 =>
    lt (w64 (v7 - (1 : Int))) fun v9 =>
    some (v5, v9)
  else
    lt (quo64 x0.Off (233 : Int)) fun v11 =>
    lt (w64 (x0.Off + x0.Size)) fun v13 =>
    lt (w64 (v13 - (1 : Int))) fun v15 =>
    lt (quo64 v15 (233 : Int)) fun v17 =>
    some (v11, v17)
end Go.Proofs.YtkmlinaofbcbaaaDoor
namespace Go.Proofs.YtkmlinaofbcbaaaDoor
open Go Go.Va
set_option linter.unusedVariables false
set_option linter.unusedSimpArgs false
set_option maxRecDepth 20000
noncomputable def region_Cap (x0 : Int) : Option (Int) :=
  lt (w64 (x0 - (1 : Int))) fun v2 =>
  lt ((if (0 : Int) > v2 then (0 : Int) else v2)) fun v4 =>
  lt (w64 (v4 * (233 : Int))) fun v6 =>
  some v6
end Go.Proofs.YtkmlinaofbcbaaaDoor
namespace Go.Proofs.YtkmlinaofbcbaaaDoor
open Go Go.Va
set_option linter.unusedVariables false
set_option linter.unusedSimpArgs false
set_option maxRecDepth 20000
noncomputable def butterylaw14_works : Option (Bool) :=
  lt ((⟨(3 : Int), (8 : Int), (1 : Int), ([(0 : Int)] : List Int)⟩ : api_Foot)) fun v2 =>
  (region_Put (v2 : api_Foot)).bind fun v7 =>
  (region_Get v7.1).bind fun v9 =>
  lt ((⟨(3 : Int), (0 : Int), (1 : Int), ([(1 : Int)] : List Int)⟩ : api_Foot)) fun v14 =>
  (region_Put v14).bind fun v16 =>
  lt ((⟨([107#8] : List (BitVec 8)), (3 : Int), (5 : Int), (9 : Int), ([97#8, 98#8] : List (BitVec 8))⟩ : api_Entry)) fun v18 =>
  lt (([v18] : List api_Entry)) fun v20 =>
  (item_All v20).bind fun v22 =>
  (region_Split v22).bind fun v24 =>
  (region_Whole (v2 : api_Foot) v24).bind fun v26 =>
  (region_Marks v20).bind fun v28 =>
  lt (((v28).length : Int)) fun v30 =>
  lt (v30 != (1 : Int)) fun v32 =>
  if v32 = true then
    some false
  else
    (item_All v20).bind fun v35 =>
    (region_Split v35).bind fun v37 =>
    (ix v28 (0 : Int)).bind fun v39 =>
    (region_Take v37 (0 : Int) v39).bind fun v41 =>
    lt ((⟨0#64, (232 : Int), (2 : Int)⟩ : api_Mark)) fun v46 =>
    (region_Span v46).bind fun v48 =>
    lt (Err.isNil v7.2) fun v50 =>
    if v50 = true then
      lt (Err.isNil v9.2) fun v53 =>
      if v53 = true then
        (butteryref14_Same (v2 : api_Foot) (v9.1 : api_Foot)).bind fun v56 =>
        if v56 = true then
          (trouble_Of v16.2).bind fun v59 =>
          lt (v59 == (1 : Int)) fun v61 =>
          if v61 = true then
            lt (Err.isNil v26.2) fun v64 =>
            if v64 = true then
              (butteryref06_SameAll v26.1 v20).bind fun v67 =>
              if v67 = true then
                lt (Err.isNil v41.2) fun v70 =>
                if v70 = true then
                  (ix v20 (0 : Int)).bind fun v73 =>
                  (item_Same (v41.1 : api_Entry) v73).bind fun v75 =>
                  if v75 = true then
                    (region_Cap (5 : Int)).bind fun v78 =>
                    lt (v78 == (932 : Int)) fun v80 =>
                    if v80 = true then
                      lt (v48.1 == (0 : Int)) fun v83 =>
                      if v83 = true then
                        lt (v48.2 == (1 : Int)) fun v86 =>
                        if v86 = true then
                          (region_Check (v2 : api_Foot)).bind fun v89 =>
                          lt (Err.isNil v89) fun v91 =>
                          some v91
                        else
                          some false
                      else
                        some false
                    else
                      some false
                  else
                    some false
                else
                  some false
              else
                some false
            else
              some false
          else
            some false
        else
          some false
      else
        some false
    else
      some false
end Go.Proofs.YtkmlinaofbcbaaaDoor
namespace Go.Proofs.YtkmlinaofbcbaaaDoor
open Go Go.Va
set_option linter.unusedVariables false
set_option linter.unusedSimpArgs false
set_option maxRecDepth 20000
noncomputable def butterylaw06_Light_b0 (x0 : List api_Entry) (c6 : Int) (c7 : Int) : Option ((Int × Int) ⊕ (Unit ⊕ (Int))) :=
  lt (((x0).length : Int)) fun v18 =>
  lt (decide (c7 < v18)) fun v20 =>
  if v20 = true then
    (
      (ix x0 c7).bind fun v27 =>
      lt (((v27.Key).length : Int)) fun v29 =>
      lt (decide (v29 > (200 : Int))) fun v31 =>
      if v31 = true then
        some true
      else
        (ix x0 c7).bind fun v34 =>
        lt (((v34.Value).length : Int)) fun v36 =>
        lt (decide (v36 > (5000 : Int))) fun v38 =>
        some v38
     : Option (Bool)).bind fun s22 =>
      if s22 = true then
        some (.inr (.inr (1 : Int)))
      else
        (ix x0 c7).bind fun v43 =>
        lt (((v43.Value).length : Int)) fun v45 =>
        lt (w64 (c6 + v45)) fun v47 =>
        lt (decide (v47 > (12000 : Int))) fun v49 =>
        if v49 = true then
          some (.inr (.inr (1 : Int)))
        else
          lt (w64 (c7 + (1 : Int))) fun v53 =>
          some (.inl (v47, v53))
  else
    some (.inr (.inl ()))
noncomputable def butterylaw06_Light_l0 (x0 : List api_Entry) (s : Int × Int) : Option (Unit ⊕ (Int)) := loopO (fun s => butterylaw06_Light_b0 x0 s.1 s.2) s
noncomputable def butterylaw06_Light (x0 : List api_Entry) : Option (Int) :=
  lt (((x0).length : Int)) fun v2 =>
  lt (decide (v2 > (40 : Int))) fun v4 =>
  if v4 = true then
    some (1 : Int)
  else
    (butterylaw06_Light_l0 x0 ((0 : Int), (0 : Int))).bind fun o8 =>
      Sum.elim (fun s15 : Unit =>
        some (0 : Int)
        ) (fun y => some y) o8
end Go.Proofs.YtkmlinaofbcbaaaDoor
namespace Go.Proofs.YtkmlinaofbcbaaaDoor
open Go Go.Va
set_option linter.unusedVariables false
set_option linter.unusedSimpArgs false
set_option maxRecDepth 20000
noncomputable def butteryref14_Split_b0 (x0 : List (BitVec 8)) (c1 : List (List (BitVec 8))) (c2 : Int) : Option (((List (List (BitVec 8))) × Int) ⊕ ((List (List (BitVec 8))))) :=
  lt (((x0).length : Int)) fun v14 =>
  lt (decide (c2 < v14)) fun v16 =>
  if v16 = true then
    lt (w64 (c2 + (233 : Int))) fun v19 =>
    lt (((x0).length : Int)) fun v21 =>
    lt (decide (v19 > v21)) fun v23 =>
    (
      if v23 = true then
        lt (((x0).length : Int)) fun v30 =>
        some v30
      else
        some v19
     : Option (Int)).bind fun s24 =>
      (cutO x0 c2 s24).bind fun v33 =>
      lt (([v33] : List (List (BitVec 8)))) fun v35 =>
      (app 24 c1 v35).bind fun v37 =>
      lt (w64 (c2 + (233 : Int))) fun v41 =>
      some (.inl (v37, v41))
  else
    some (.inr c1)
noncomputable def butteryref14_Split_l0 (x0 : List (BitVec 8)) (s : (List (List (BitVec 8))) × Int) : Option ((List (List (BitVec 8)))) := loopO (fun s => butteryref14_Split_b0 x0 s.1 s.2) s
noncomputable def butteryref14_Split (x0 : List (BitVec 8)) : Option ((List (List (BitVec 8)))) :=
  (butteryref14_Split_l0 x0 ([], (0 : Int))).bind fun s11 =>
    some s11
end Go.Proofs.YtkmlinaofbcbaaaDoor
namespace Go.Proofs.YtkmlinaofbcbaaaDoor
open Go Go.Va
set_option linter.unusedVariables false
set_option linter.unusedSimpArgs false
set_option maxRecDepth 20000
noncomputable def butteryref14_Join_b0 (x0 : List (List (BitVec 8))) (c1 : List (BitVec 8)) (c2 : Int) : Option (((List (BitVec 8)) × Int) ⊕ ((List (BitVec 8)))) :=
  lt (((x0).length : Int)) fun v14 =>
  lt (decide (c2 < v14)) fun v16 =>
  if v16 = true then
    (ix x0 c2).bind fun v19 =>
    (app 1 c1 v19).bind fun v21 =>
    lt (w64 (c2 + (1 : Int))) fun v25 =>
    some (.inl (v21, v25))
  else
    some (.inr c1)
noncomputable def butteryref14_Join_l0 (x0 : List (List (BitVec 8))) (s : (List (BitVec 8)) × Int) : Option ((List (BitVec 8))) := loopO (fun s => butteryref14_Join_b0 x0 s.1 s.2) s
noncomputable def butteryref14_Join (x0 : List (List (BitVec 8))) : Option ((List (BitVec 8))) :=
  (butteryref14_Join_l0 x0 ([], (0 : Int))).bind fun s11 =>
    some s11
end Go.Proofs.YtkmlinaofbcbaaaDoor
namespace Go.Proofs.YtkmlinaofbcbaaaDoor
open Go Go.Va
set_option linter.unusedVariables false
set_option linter.unusedSimpArgs false
set_option maxRecDepth 20000
noncomputable def butteryref02_fail (x0 : butteryref02_Reader) (x1 : Int) : Option (butteryref02_Reader) :=
  lt (x0.Code == (0 : Int)) fun v7 =>
  if v7 = true then
    lt (({ (x0 : butteryref02_Reader) with Code := x1 } : butteryref02_Reader)) fun c10 =>
    some (c10 : butteryref02_Reader)
  else
    some ((x0 : butteryref02_Reader) : butteryref02_Reader)
end Go.Proofs.YtkmlinaofbcbaaaDoor
namespace Go.Proofs.YtkmlinaofbcbaaaDoor
open Go Go.Va
set_option linter.unusedVariables false
set_option linter.unusedSimpArgs false
set_option maxRecDepth 20000
noncomputable def butteryref02_Number_b0 (x0 : butteryref02_Reader) (x1 : Int) (c7 : Int) (c8 : Int) : Option ((Int × Int) ⊕ (Unit ⊕ (butteryref02_Reader × Int))) :=
  lt (((x0.B).length : Int)) fun v19 =>
  lt (decide (c8 < v19)) fun v21 =>
  if v21 = true then
    (ix x0.B c8).bind fun v24 =>
    lt ((BitVec.toNat v24 : Int)) fun v26 =>
    (
      lt (v26 == (128 : Int)) fun v32 =>
      if v32 = true then
        lt (c8 == x0.At) fun v35 =>
        some v35
      else
        some false
     : Option (Bool)).bind fun s27 =>
      if s27 = true then
        (butteryref02_fail x0 (5 : Int)).bind fun v39 =>
        some (.inr (.inr ((v39 : butteryref02_Reader), (0 : Int))))
      else
        lt (quo64 x1 (128 : Int)) fun v43 =>
        lt (decide (c7 > v43)) fun v45 =>
        if v45 = true then
          (butteryref02_fail x0 (2 : Int)).bind fun v48 =>
          some (.inr (.inr ((v48 : butteryref02_Reader), (0 : Int))))
        else
          lt (w64 (c7 * (128 : Int))) fun v52 =>
          lt (Int.tmod v26 (128 : Int)) fun v54 =>
          lt (w64 (v52 + v54)) fun v56 =>
          lt (decide (v26 ≥ (128 : Int))) fun v58 =>
          if v58 = true then
            lt (w64 (c8 + (1 : Int))) fun v61 =>
            some (.inl (v56, v61))
          else
            lt (decide (v56 > x1)) fun v63 =>
            if v63 = true then
              (butteryref02_fail x0 (2 : Int)).bind fun v66 =>
              some (.inr (.inr ((v66 : butteryref02_Reader), (0 : Int))))
            else
              lt (w64 (c8 + (1 : Int))) fun v73 =>
              lt (({ (x0 : butteryref02_Reader) with At := v73 } : butteryref02_Reader)) fun c75 =>
              some (.inr (.inr ((c75 : butteryref02_Reader), v56)))
  else
    some (.inr (.inl ()))
noncomputable def butteryref02_Number_l0 (x0 : butteryref02_Reader) (x1 : Int) (s : Int × Int) : Option (Unit ⊕ (butteryref02_Reader × Int)) := loopO (fun s => butteryref02_Number_b0 x0 x1 s.1 s.2) s
noncomputable def butteryref02_Number (x0 : butteryref02_Reader) (x1 : Int) : Option (butteryref02_Reader × Int) :=
  lt (x0.Code != (0 : Int)) fun v4 =>
  if v4 = true then
    some ((x0 : butteryref02_Reader), (0 : Int))
  else
    (butteryref02_Number_l0 x0 x1 ((0 : Int), x0.At)).bind fun o9 =>
      Sum.elim (fun s16 : Unit =>
        (butteryref02_fail x0 (6 : Int)).bind fun v81 =>
        some ((v81 : butteryref02_Reader), (0 : Int))
        ) (fun y => some y) o9
end Go.Proofs.YtkmlinaofbcbaaaDoor
namespace Go.Proofs.YtkmlinaofbcbaaaDoor
open Go Go.Va
set_option linter.unusedVariables false
set_option linter.unusedSimpArgs false
set_option maxRecDepth 20000
noncomputable def butteryref02_Text (x0 : butteryref02_Reader) (x1 : Int) : Option (butteryref02_Reader × (List (BitVec 8))) :=
  (butteryref02_Number x0 x1).bind fun v4 =>
  lt (((v4.1 : butteryref02_Reader).Code) != (0 : Int)) fun v9 =>
  if v9 = true then
    some (((v4.1 : butteryref02_Reader) : butteryref02_Reader), [])
  else
    lt ((((v4.1 : butteryref02_Reader).B).length : Int)) fun v13 =>
    lt (w64 (v13 - ((v4.1 : butteryref02_Reader).At))) fun v15 =>
    lt (decide (v4.2 > v15)) fun v17 =>
    if v17 = true then
      (butteryref02_fail x0 (6 : Int)).bind fun v20 =>
      some ((v20 : butteryref02_Reader), [])
    else
      lt (w64 (((v4.1 : butteryref02_Reader).At) + v4.2)) fun v23 =>
      (cutO ((v4.1 : butteryref02_Reader).B) ((v4.1 : butteryref02_Reader).At) v23).bind fun v25 =>
      (app 1 ([] : List (BitVec 8)) v25).bind fun v27 =>
      lt (w64 (((v4.1 : butteryref02_Reader).At) + v4.2)) fun v31 =>
      lt (({ (v4.1 : butteryref02_Reader) with At := v31 } : butteryref02_Reader)) fun c33 =>
      some ((c33 : butteryref02_Reader), v27)
end Go.Proofs.YtkmlinaofbcbaaaDoor
namespace Go.Proofs.YtkmlinaofbcbaaaDoor
open Go Go.Va
set_option linter.unusedVariables false
set_option linter.unusedSimpArgs false
set_option maxRecDepth 20000
noncomputable def butteryref02_Key (x0 : List (BitVec 8)) : Option (Int) :=
  lt (x0 == ([] : List (BitVec 8))) fun v2 =>
  if v2 = true then
    some (1 : Int)
  else
    lt (((x0).length : Int)) fun v5 =>
    lt (decide (v5 > (40 : Int))) fun v7 =>
    if v7 = true then
      some (3 : Int)
    else
      some (0 : Int)
end Go.Proofs.YtkmlinaofbcbaaaDoor
namespace Go.Proofs.YtkmlinaofbcbaaaDoor
open Go Go.Va
set_option linter.unusedVariables false
set_option linter.unusedSimpArgs false
set_option maxRecDepth 20000
noncomputable def butteryref06_Check (x0 : api_Entry) : Option (Int) :=
  (butteryref02_Key x0.Key).bind fun v2 =>
  lt (v2 != (0 : Int)) fun v4 =>
  if v4 = true then
    some v2
  else
    (
      lt (decide (x0.Version < (1 : Int))) fun v11 =>
      if v11 = true then
        some true
      else
        lt (decide (x0.Version > (1099511627776 : Int))) fun v14 =>
        if v14 = true then
          some true
        else
          lt (decide (x0.AsOf < x0.Version)) fun v17 =>
          if v17 = true then
            some true
          else
            lt (decide (x0.AsOf > (1099511627776 : Int))) fun v20 =>
            if v20 = true then
              some true
            else
              lt (decide (x0.Ends < (0 : Int))) fun v23 =>
              if v23 = true then
                some true
              else
                lt (decide (x0.Ends > (1099511627776 : Int))) fun v26 =>
                some v26
     : Option (Bool)).bind fun s6 =>
      if s6 = true then
        some (2 : Int)
      else
        lt (((x0.Value).length : Int)) fun v30 =>
        lt (decide (v30 > (4096 : Int))) fun v32 =>
        if v32 = true then
          some (3 : Int)
        else
          some (0 : Int)
end Go.Proofs.YtkmlinaofbcbaaaDoor
namespace Go.Proofs.YtkmlinaofbcbaaaDoor
open Go Go.Va
set_option linter.unusedVariables false
set_option linter.unusedSimpArgs false
set_option maxRecDepth 20000
noncomputable def butteryref06_From (x0 : butteryref02_Reader) : Option (butteryref02_Reader × api_Entry) :=
  (butteryref02_Text x0 (40 : Int)).bind fun v6 =>
  (butteryref02_Number (v6.1 : butteryref02_Reader) (1099511627776 : Int)).bind fun v11 =>
  (butteryref02_Number (v11.1 : butteryref02_Reader) (1099511627776 : Int)).bind fun v16 =>
  (butteryref02_Number (v16.1 : butteryref02_Reader) (1099511627776 : Int)).bind fun v21 =>
  (butteryref02_Text (v21.1 : butteryref02_Reader) (4096 : Int)).bind fun v26 =>
  lt ((⟨v6.2, v11.2, v16.2, v21.2, v26.2⟩ : api_Entry)) fun v31 =>
  lt (((v26.1 : butteryref02_Reader).Code) == (0 : Int)) fun v36 =>
  (
    if v36 = true then
      (butteryref06_Check (v31 : api_Entry)).bind fun v43 =>
      lt (({ (v26.1 : butteryref02_Reader) with Code := v43 } : butteryref02_Reader)) fun c45 =>
      some c45
    else
      some (v26.1 : butteryref02_Reader)
   : Option (butteryref02_Reader)).bind fun s37 =>
    lt (s37.Code != (0 : Int)) fun v49 =>
    if v49 = true then
      some ((s37 : butteryref02_Reader), ((⟨([] : List (BitVec 8)), (0 : Int), (0 : Int), (0 : Int), ([] : List (BitVec 8))⟩ : api_Entry) : api_Entry))
    else
      some ((s37 : butteryref02_Reader), ((v31 : api_Entry) : api_Entry))
end Go.Proofs.YtkmlinaofbcbaaaDoor
namespace Go.Proofs.YtkmlinaofbcbaaaDoor
open Go Go.Va
set_option linter.unusedVariables false
set_option linter.unusedSimpArgs false
set_option maxRecDepth 20000
noncomputable def butteryref06_Read_b0 (x0 : List (BitVec 8)) (c6 : List api_Entry) (c7 : butteryref02_Reader) : Option (((List api_Entry) × butteryref02_Reader) ⊕ (((List api_Entry) × butteryref02_Reader) ⊕ ((List api_Entry) × Int))) :=
  lt (((x0).length : Int)) fun v19 =>
  lt (decide (c7.At < v19)) fun v21 =>
  if v21 = true then
    (butteryref06_From c7).bind fun v24 =>
    lt (((v24.1 : butteryref02_Reader).Code) != (0 : Int)) fun v32 =>
    if v32 = true then
      some (.inr (.inr ([], (v24.1 : butteryref02_Reader).Code)))
    else
      lt (((v24.1 : butteryref02_Reader) : butteryref02_Reader)) fun c36 =>
      lt (([(v24.2 : api_Entry)] : List api_Entry)) fun v39 =>
      (app 64 c6 v39).bind fun v41 =>
      some (.inl (v41, c36))
  else
    some (.inr (.inl (c6, c7)))
noncomputable def butteryref06_Read_l0 (x0 : List (BitVec 8)) (s : (List api_Entry) × butteryref02_Reader) : Option (((List api_Entry) × butteryref02_Reader) ⊕ ((List api_Entry) × Int)) := loopO (fun s => butteryref06_Read_b0 x0 s.1 s.2) s
noncomputable def butteryref06_Read (x0 : List (BitVec 8)) : Option ((List api_Entry) × Int) :=
  lt ((⟨x0, (0 : Int), (0 : Int)⟩ : butteryref02_Reader)) fun v2 =>
  (butteryref06_Read_l0 x0 ([], (v2 : butteryref02_Reader))).bind fun o9 =>
    Sum.elim (fun s16 : (List api_Entry) × butteryref02_Reader =>
      some (s16.1, (0 : Int))
      ) (fun y => some y) o9
end Go.Proofs.YtkmlinaofbcbaaaDoor
namespace Go.Proofs.YtkmlinaofbcbaaaDoor
open Go Go.Va
set_option linter.unusedVariables false
set_option linter.unusedSimpArgs false
set_option maxRecDepth 20000
noncomputable def butteryref14_Whole (x0 : api_Foot) (x1 : List (List (BitVec 8))) : Option ((List api_Entry) × Int) :=
  (butteryref14_Join x1).bind fun v2 =>
  lt (((v2).length : Int)) fun v4 =>
  lt (v4 != x0.Bytes) fun v6 =>
  if v6 = true then
    some ([], (6 : Int))
  else
    (butteryref06_Read v2).bind fun v9 =>
    lt (v9.2 != (0 : Int)) fun v11 =>
    if v11 = true then
      some ([], v9.2)
    else
      lt (((v9.1).length : Int)) fun v14 =>
      lt (v14 != x0.Count) fun v16 =>
      if v16 = true then
        some ([], (5 : Int))
      else
        some (v9.1, (0 : Int))
end Go.Proofs.YtkmlinaofbcbaaaDoor
namespace Go.Proofs.YtkmlinaofbcbaaaDoor
open Go Go.Va
set_option linter.unusedVariables false
set_option linter.unusedSimpArgs false
set_option maxRecDepth 20000
noncomputable def butteryref07_fold (x0 : BitVec 64) : Option ((BitVec 64)) :=
  lt (x0 / 8589934592#64) fun v2 =>
  lt (x0 ^^^ v2) fun v4 =>
  some v4
end Go.Proofs.YtkmlinaofbcbaaaDoor
namespace Go.Proofs.YtkmlinaofbcbaaaDoor
open Go Go.Va
set_option linter.unusedVariables false
set_option linter.unusedSimpArgs false
set_option maxRecDepth 20000
noncomputable def butteryref07_Mix (x0 : BitVec 64) : Option ((BitVec 64)) :=
  (butteryref07_fold x0).bind fun v2 =>
  lt (v2 * 18397679294719823053#64) fun v4 =>
  (butteryref07_fold v4).bind fun v6 =>
  lt (v6 * 14181476777654086739#64) fun v8 =>
  (butteryref07_fold v8).bind fun v10 =>
  some v10
end Go.Proofs.YtkmlinaofbcbaaaDoor
namespace Go.Proofs.YtkmlinaofbcbaaaDoor
open Go Go.Va
set_option linter.unusedVariables false
set_option linter.unusedSimpArgs false
set_option maxRecDepth 20000
noncomputable def butteryref07_Hash_b0 (x0 : List (BitVec 8)) (c1 : BitVec 64) (c2 : Int) : Option (((BitVec 64) × Int) ⊕ ((BitVec 64))) :=
  lt (((x0).length : Int)) fun v13 =>
  lt (decide (c2 < v13)) fun v15 =>
  if v15 = true then
    (ix x0 c2).bind fun v18 =>
    lt (BitVec.setWidth 64 v18) fun v20 =>
    lt (c1 ^^^ v20) fun v22 =>
    lt (v22 * 1099511628211#64) fun v24 =>
    lt (w64 (c2 + (1 : Int))) fun v26 =>
    some (.inl (v24, v26))
  else
    some (.inr c1)
noncomputable def butteryref07_Hash_l0 (x0 : List (BitVec 8)) (s : (BitVec 64) × Int) : Option ((BitVec 64)) := loopO (fun s => butteryref07_Hash_b0 x0 s.1 s.2) s
noncomputable def butteryref07_Hash (x0 : List (BitVec 8)) : Option ((BitVec 64)) :=
  (butteryref07_Hash_l0 x0 (14695981039346656037#64, (0 : Int))).bind fun s10 =>
    (butteryref07_Mix s10).bind fun v29 =>
    some v29
end Go.Proofs.YtkmlinaofbcbaaaDoor
namespace Go.Proofs.YtkmlinaofbcbaaaDoor
open Go Go.Va
set_option linter.unusedVariables false
set_option linter.unusedSimpArgs false
set_option maxRecDepth 20000
noncomputable def butteryref02_num_b0  (c9 : List (BitVec 8)) (c10 : Int) : Option (((List (BitVec 8)) × Int) ⊕ ((List (BitVec 8)))) :=
  lt (decide (c10 > (0 : Int))) fun v22 =>
  if v22 = true then
    lt (Int.tmod c10 (128 : Int)) fun v25 =>
    lt (w64 (v25 + (128 : Int))) fun v27 =>
    lt (BitVec.ofInt 8 v27) fun v29 =>
    lt (([v29] : List (BitVec 8))) fun v31 =>
    (app 1 v31 c9).bind fun v33 =>
    lt (quo64 c10 (128 : Int)) fun v37 =>
    some (.inl (v33, v37))
  else
    some (.inr c9)
noncomputable def butteryref02_num_l0  (s : (List (BitVec 8)) × Int) : Option ((List (BitVec 8))) := loopO (fun s => butteryref02_num_b0 s.1 s.2) s
noncomputable def butteryref02_num (x0 : Int) : Option ((List (BitVec 8))) :=
  lt (Int.tmod x0 (128 : Int)) fun v2 =>
  lt (BitVec.ofInt 8 v2) fun v4 =>
  lt (([v4] : List (BitVec 8))) fun v6 =>
  lt (quo64 x0 (128 : Int)) fun v8 =>
  (butteryref02_num_l0 (v6, v8)).bind fun s19 =>
    some s19
end Go.Proofs.YtkmlinaofbcbaaaDoor
namespace Go.Proofs.YtkmlinaofbcbaaaDoor
open Go Go.Va
set_option linter.unusedVariables false
set_option linter.unusedSimpArgs false
set_option maxRecDepth 20000
noncomputable def butteryref02_Put_b0 (x1 : List Int) (c5 : List (BitVec 8)) (c6 : Int) : Option (((List (BitVec 8)) × Int) ⊕ ((List (BitVec 8)))) :=
  lt (((x1).length : Int)) fun v17 =>
  lt (decide (c6 < v17)) fun v19 =>
  if v19 = true then
    (ix x1 c6).bind fun v22 =>
    (butteryref02_num v22).bind fun v24 =>
    (app 1 c5 v24).bind fun v26 =>
    lt (w64 (c6 + (1 : Int))) fun v30 =>
    some (.inl (v26, v30))
  else
    some (.inr c5)
noncomputable def butteryref02_Put_l0 (x1 : List Int) (s : (List (BitVec 8)) × Int) : Option ((List (BitVec 8))) := loopO (fun s => butteryref02_Put_b0 x1 s.1 s.2) s
noncomputable def butteryref02_Put (x0 : List (BitVec 8)) (x1 : List Int) : Option ((List (BitVec 8))) :=
  (app 1 ([] : List (BitVec 8)) x0).bind fun v2 =>
  (butteryref02_Put_l0 x1 (v2, (0 : Int))).bind fun s14 =>
    some s14
end Go.Proofs.YtkmlinaofbcbaaaDoor
namespace Go.Proofs.YtkmlinaofbcbaaaDoor
open Go Go.Va
set_option linter.unusedVariables false
set_option linter.unusedSimpArgs false
set_option maxRecDepth 20000
noncomputable def butteryref02_Bytes (x0 : List (BitVec 8)) (x1 : List (BitVec 8)) : Option ((List (BitVec 8))) :=
  lt (((x1).length : Int)) fun v2 =>
  lt (([v2] : List Int)) fun v4 =>
  (butteryref02_Put x0 v4).bind fun v6 =>
  (app 1 v6 x1).bind fun v9 =>
  some v9
end Go.Proofs.YtkmlinaofbcbaaaDoor
namespace Go.Proofs.YtkmlinaofbcbaaaDoor
open Go Go.Va
set_option linter.unusedVariables false
set_option linter.unusedSimpArgs false
set_option maxRecDepth 20000
noncomputable def butteryref06_Put (x0 : List (BitVec 8)) (x1 : api_Entry) : Option ((List (BitVec 8))) :=
  (toBytes x1.Key).bind fun v2 =>
  (butteryref02_Bytes x0 v2).bind fun v4 =>
  lt (([x1.Version, x1.AsOf, x1.Ends] : List Int)) fun v6 =>
  (butteryref02_Put v4 v6).bind fun v8 =>
  (butteryref02_Bytes v8 x1.Value).bind fun v10 =>
  some v10
end Go.Proofs.YtkmlinaofbcbaaaDoor
namespace Go.Proofs.YtkmlinaofbcbaaaDoor
open Go Go.Va
set_option linter.unusedVariables false
set_option linter.unusedSimpArgs false
set_option maxRecDepth 20000
noncomputable def butteryref06_Size (x0 : api_Entry) : Option (Int) :=
  (butteryref06_Put [] x0).bind fun v2 =>
  lt (((v2).length : Int)) fun v4 =>
  some v4
end Go.Proofs.YtkmlinaofbcbaaaDoor
namespace Go.Proofs.YtkmlinaofbcbaaaDoor
open Go Go.Va
set_option linter.unusedVariables false
set_option linter.unusedSimpArgs false
set_option maxRecDepth 20000
noncomputable def butteryref06_All_b0 (x0 : List api_Entry) (c1 : List (BitVec 8)) (c2 : Int) : Option (((List (BitVec 8)) × Int) ⊕ ((List (BitVec 8)))) :=
  lt (((x0).length : Int)) fun v14 =>
  lt (decide (c2 < v14)) fun v16 =>
  if v16 = true then
    (ix x0 c2).bind fun v19 =>
    (butteryref06_Put c1 v19).bind fun v21 =>
    lt (w64 (c2 + (1 : Int))) fun v24 =>
    some (.inl (v21, v24))
  else
    some (.inr c1)
noncomputable def butteryref06_All_l0 (x0 : List api_Entry) (s : (List (BitVec 8)) × Int) : Option ((List (BitVec 8))) := loopO (fun s => butteryref06_All_b0 x0 s.1 s.2) s
noncomputable def butteryref06_All (x0 : List api_Entry) : Option ((List (BitVec 8))) :=
  (butteryref06_All_l0 x0 ([], (0 : Int))).bind fun s11 =>
    some s11
end Go.Proofs.YtkmlinaofbcbaaaDoor
namespace Go.Proofs.YtkmlinaofbcbaaaDoor
open Go Go.Va
set_option linter.unusedVariables false
set_option linter.unusedSimpArgs false
set_option maxRecDepth 20000
noncomputable def butteryref14_Marks_b0 (x0 : List api_Entry) (c1 : List api_Mark) (c2 : Int) : Option (((List api_Mark) × Int) ⊕ ((List api_Mark))) :=
  lt (((x0).length : Int)) fun v14 =>
  lt (decide (c2 < v14)) fun v16 =>
  if v16 = true then
    (ix x0 c2).bind fun v19 =>
    (butteryref07_Hash v19.Key).bind fun v21 =>
    (cutTo x0 c2).bind fun v23 =>
    (butteryref06_All v23).bind fun v25 =>
    lt (((v25).length : Int)) fun v27 =>
    (ix x0 c2).bind fun v29 =>
    (butteryref06_Size v29).bind fun v31 =>
    lt ((⟨v21, v27, v31⟩ : api_Mark)) fun v33 =>
    lt (([v33] : List api_Mark)) fun v35 =>
    (app 24 c1 v35).bind fun v37 =>
    lt (w64 (c2 + (1 : Int))) fun v41 =>
    some (.inl (v37, v41))
  else
    some (.inr c1)
noncomputable def butteryref14_Marks_l0 (x0 : List api_Entry) (s : (List api_Mark) × Int) : Option ((List api_Mark)) := loopO (fun s => butteryref14_Marks_b0 x0 s.1 s.2) s
noncomputable def butteryref14_Marks (x0 : List api_Entry) : Option ((List api_Mark)) :=
  (butteryref14_Marks_l0 x0 ([], (0 : Int))).bind fun s11 =>
    some s11
end Go.Proofs.YtkmlinaofbcbaaaDoor
namespace Go.Proofs.YtkmlinaofbcbaaaDoor
open Go Go.Va
set_option linter.unusedVariables false
set_option linter.unusedSimpArgs false
set_option maxRecDepth 20000
noncomputable def butterylaw14_RegionLays_b0 (x0 : List api_Entry) (x2 : api_Foot) (v24 : List (List (BitVec 8))) (v26 : List (List (BitVec 8))) (c34 : Int) : Option ((Int) ⊕ (Unit ⊕ (Bool))) :=
  lt (((v24).length : Int)) fun v45 =>
  lt (decide (c34 < v45)) fun v47 =>
  if v47 = true then
    (ix v24 c34).bind fun v50 =>
    (ix v26 c34).bind fun v52 =>
    (butteryref02_Same v50 v52).bind fun v54 =>
    lt (!v54) fun v56 =>
    if v56 = true then
      some (.inr (.inr false))
    else
      lt (w64 (c34 + (1 : Int))) fun v60 =>
      some (.inl v60)
  else
    some (.inr (.inl ()))
noncomputable def butterylaw14_RegionLays_l0 (x0 : List api_Entry) (x2 : api_Foot) (v24 : List (List (BitVec 8))) (v26 : List (List (BitVec 8))) (s : Int) : Option (Unit ⊕ (Bool)) := loopO (fun s => butterylaw14_RegionLays_b0 x0 x2 v24 v26 s) s
noncomputable def butterylaw14_RegionLays_b1 (x0 : List api_Entry) (c81 : Int) : Option ((Int) ⊕ (Unit ⊕ (Bool))) :=
  lt (((x0).length : Int)) fun v92 =>
  lt (decide (c81 < v92)) fun v94 =>
  if v94 = true then
    (ix x0 c81).bind fun v97 =>
    (butteryref06_Check v97).bind fun v99 =>
    lt (v99 != (0 : Int)) fun v101 =>
    if v101 = true then
      (butterylaw14_works).bind fun v104 =>
      some (.inr (.inr v104))
    else
      lt (w64 (c81 + (1 : Int))) fun v107 =>
      some (.inl v107)
  else
    some (.inr (.inl ()))
noncomputable def butterylaw14_RegionLays_l1 (x0 : List api_Entry) (s : Int) : Option (Unit ⊕ (Bool)) := loopO (fun s => butterylaw14_RegionLays_b1 x0 s) s
noncomputable def butterylaw14_RegionLays_b2 (v110 : List api_Mark) (v112 : List api_Mark) (c120 : Int) : Option ((Int) ⊕ (Unit ⊕ (Bool))) :=
  lt (((v110).length : Int)) fun v131 =>
  lt (decide (c120 < v131)) fun v133 =>
  if v133 = true then
    (ix v110 c120).bind fun v136 =>
    (ix v112 c120).bind fun v138 =>
    lt (!(v136 == v138)) fun v140 =>
    if v140 = true then
      some (.inr (.inr false))
    else
      lt (w64 (c120 + (1 : Int))) fun v144 =>
      some (.inl v144)
  else
    some (.inr (.inl ()))
noncomputable def butterylaw14_RegionLays_l2 (v110 : List api_Mark) (v112 : List api_Mark) (s : Int) : Option (Unit ⊕ (Bool)) := loopO (fun s => butterylaw14_RegionLays_b2 v110 v112 s) s
noncomputable def butterylaw14_RegionLays (x0 : List api_Entry) (x1 : List (BitVec 8)) (x2 : api_Foot) : Option (Bool) :=
  (
    (butterylaw06_Light x0).bind fun v6 =>
    lt (decide (v6 > (0 : Int))) fun v8 =>
    if v8 = true then
      some true
    else
      lt (((x1).length : Int)) fun v11 =>
      lt (decide (v11 > (3000 : Int))) fun v13 =>
      if v13 = true then
        some true
      else
        lt (((x2.Dead).length : Int)) fun v16 =>
        lt (decide (v16 > (200 : Int))) fun v18 =>
        some v18
   : Option (Bool)).bind fun s1 =>
    if s1 = true then
      (butterylaw14_works).bind fun v22 =>
      some v22
    else
      (region_Split x1).bind fun v24 =>
      (butteryref14_Split x1).bind fun v26 =>
      lt (((v24).length : Int)) fun v28 =>
      lt (((v26).length : Int)) fun v30 =>
      lt (v28 != v30) fun v32 =>
      if v32 = true then
        some false
      else
        (butterylaw14_RegionLays_l0 x0 x2 v24 v26 (0 : Int)).bind fun o35 =>
          Sum.elim (fun s42 : Unit =>
            (region_Whole x2 v24).bind fun v63 =>
            (butteryref14_Whole x2 v26).bind fun v65 =>
            (
              (butteryref06_SameAll v63.1 v65.1).bind fun v71 =>
              lt (!v71) fun v73 =>
              if v73 = true then
                some true
              else
                (trouble_Of v63.2).bind fun v76 =>
                lt (v76 != v65.2) fun v78 =>
                some v78
             : Option (Bool)).bind fun s66 =>
              if s66 = true then
                some false
              else
                (butterylaw14_RegionLays_l1 x0 (0 : Int)).bind fun o82 =>
                  Sum.elim (fun s89 : Unit =>
                    (region_Marks x0).bind fun v110 =>
                    (butteryref14_Marks x0).bind fun v112 =>
                    lt (((v110).length : Int)) fun v114 =>
                    lt (((v112).length : Int)) fun v116 =>
                    lt (v114 != v116) fun v118 =>
                    if v118 = true then
                      some false
                    else
                      (butterylaw14_RegionLays_l2 v110 v112 (0 : Int)).bind fun o121 =>
                        Sum.elim (fun s128 : Unit =>
                          (butterylaw14_works).bind fun v147 =>
                          some v147
                          ) (fun y => some y) o121
                    ) (fun y => some y) o82
            ) (fun y => some y) o35
end Go.Proofs.YtkmlinaofbcbaaaDoor
namespace Go.Proofs.YtkmlinaofbcbaaaDoor
open Go.RowKit Go.Extern.Stop Go.Stop Go.Extern
/-- errors.As(nil, target). -/
theorem as_nil (t : Value) (w : World) :
    Calls Tryd.prog 70 #[.nilIface, t] w fun e w' => e = .returned (.bool false) ∧ w' = w := by
  go_enter Tryd.func70, Tryd.ntmps70
  go_wp2
  go_ret
  exact ⟨rfl, rfl⟩

theorem Tryd.valueOf27 (t : Addr) (w : World) : (ReflectliteValue.unpack (.iface 111 (.pointer (some t)))).run Tryd.prog w
    = .ok (.agg #[.pointer (some ⟨1, 111, none⟩), .pointer (some ⟨w.heap.size, 0, none⟩), .int .u64 150]) (w.alloc (.cells #[.pointer (some t)] 111)) := by kernel_rfl
theorem Tryd.type27 (a : Addr) (w : World) : (ReflectliteValue.methodAny (ReflectliteValue.valueError "reflectlite.Value.Type" 0) (fun t _ _ _ => ReflectliteType.toType t) #[.agg #[.pointer (some ⟨1, 111, none⟩), .pointer (some a), .int .u64 150]]).run Tryd.prog w
    = .ok (.iface 181 (.agg #[.pointer (some ⟨1, 111, none⟩)])) w := by kernel_rfl
theorem Tryd.methodKind (h : Value) (w : World) : (Go.method 322 181 (.agg #[h]) "Kind").run Tryd.prog w = .ok (151, h) w := by kernel_rfl
theorem Tryd.kind27 (w : World) : ((ReflectliteType.abiMethod fun t => (fun a : Nat => Value.int IntKind.u8 (a : Int)) <$> Rtype.kind t) #[.pointer (some ⟨1, 111, none⟩)]).run Tryd.prog w = .ok (.int .u8 22) w := by kernel_rfl
theorem Tryd.kind25 (w : World) : ((ReflectliteType.abiMethod fun t => (fun a : Nat => Value.int IntKind.u8 (a : Int)) <$> Rtype.kind t) #[.pointer (some ⟨1, 109, none⟩)]).run Tryd.prog w = .ok (.int .u8 22) w := by kernel_rfl

theorem rlm (z : Sem Value) (f : TypeId → Addr → Nat → Nat → Sem Value) (v : Value) :
    ReflectliteValue.method z f #[v] = (do match ← ReflectliteValue.parts v with | none => z | some (t, a, fl) => f t a fl (fl % 32)) := rfl
theorem Tryd.parts27 (a : Addr) (w : World) : (ReflectliteValue.parts (.agg #[.pointer (some ⟨1, 111, none⟩), .pointer (some a), .int .u64 150])).run Tryd.prog w = .ok (some (111, a, 150)) w := by kernel_rfl
/-- (Value).IsNil at the Value of a **p.E that is not nil. -/
theorem Tryd.isNil27 (a p : Addr) (W : World) (ha : W.cell? a = some (.pointer (some p))) :
    (ReflectliteValue.method (ReflectliteValue.valueError "reflectlite.Value.IsNil" 0) ReflectliteValue.isNil #[.agg #[.pointer (some ⟨1, 111, none⟩), .pointer (some a), .int .u64 150]]).run Tryd.prog W = .ok (.bool false) W := by
  rw [rlm]
  simp only [Sem.run_bind, Tryd.parts27, Result.andThen]
  simp [ReflectliteValue.isNil, loadVar, isAgg, underlying, Tryd.underlying111, ha, Result.andThen]

theorem Tryd.methodElem (h : Value) (w : World) : (Go.method 322 181 (.agg #[h]) "Elem").run Tryd.prog w = .ok (163, .agg #[h]) w := by kernel_rfl
theorem Tryd.methodImplements (h : Value) (w : World) : (Go.method 322 181 (.agg #[h]) "Implements").run Tryd.prog w = .ok (164, .agg #[h]) w := by kernel_rfl
theorem Tryd.methodAssignableTo (h : Value) (w : World) : (Go.method 322 181 (.agg #[h]) "AssignableTo").run Tryd.prog w = .ok (161, .agg #[h]) w := by kernel_rfl
theorem Tryd.elem27 (w : World) : (ReflectliteType.method ReflectliteType.elem #[.agg #[.pointer (some ⟨1, 111, none⟩)]]).run Tryd.prog w = .ok (.iface 181 (.agg #[.pointer (some ⟨1, 109, none⟩)])) w := by kernel_rfl
theorem Tryd.implements25 (w : World) : (ReflectliteType.relation "Implements" ReflectliteType.implements_ #[.agg #[.pointer (some ⟨1, 109, none⟩)], .iface 181 (.agg #[.pointer (some ⟨1, 30, none⟩)])]).run Tryd.prog w = .ok (.bool true) w := by kernel_rfl
theorem Tryd.typeOf25 (v : Value) (w : World) : (ReflectliteType.typeOf #[.iface 109 v]).run Tryd.prog w = .ok (.iface 181 (.agg #[.pointer (some ⟨1, 109, none⟩)])) w := by kernel_rfl
theorem Tryd.assignable25 (w : World) : (ReflectliteType.relation "AssignableTo" ReflectliteType.assignableTo #[.agg #[.pointer (some ⟨1, 109, none⟩)], .iface 181 (.agg #[.pointer (some ⟨1, 109, none⟩)])]).run Tryd.prog w = .ok (.bool true) w := by kernel_rfl
theorem Tryd.valueOf25 (e : Addr) (w : World) : (ReflectliteValue.unpack (.iface 109 (.pointer (some e)))).run Tryd.prog w
    = .ok (.agg #[.pointer (some ⟨1, 109, none⟩), .pointer (some ⟨w.heap.size, 0, none⟩), .int .u64 150]) (w.alloc (.cells #[.pointer (some e)] 109)) := by kernel_rfl

theorem Tryd.elemOf27 (w : World) : (Rtype.elem? 111).run Tryd.prog w = .ok (some 109) w := by kernel_rfl
theorem Tryd.mk25 (p : Addr) (w : World) : (ReflectliteValue.mk 109 p ReflectliteValue.flagAddr).run Tryd.prog w = .ok (.agg #[.pointer (some ⟨1, 109, none⟩), .pointer (some p), .int .u64 406]) w := by kernel_rfl
/-- (Value).Elem at the Value of a **p.E that is not nil: the Value of the *p.E variable that it points to, addressable. -/
theorem Tryd.elemV27 (a p : Addr) (W : World) (ha : W.cell? a = some (.pointer (some p))) :
    (ReflectliteValue.method (ReflectliteValue.valueError "reflectlite.Value.Elem" 0) ReflectliteValue.elem #[.agg #[.pointer (some ⟨1, 111, none⟩), .pointer (some a), .int .u64 150]]).run Tryd.prog W
      = .ok (.agg #[.pointer (some ⟨1, 109, none⟩), .pointer (some p), .int .u64 406]) W := by
  rw [rlm]
  simp only [Sem.run_bind, Tryd.parts27, Result.andThen]
  simp [ReflectliteValue.elem, loadVar, isAgg, underlying, Tryd.underlying111, ha, Result.andThen, Tryd.elemOf27, Tryd.mk25]
theorem rls (v x : Value) : ReflectliteValue.set #[v, x] = (do
    let (some (dst, a, fl), some (src, b, _)) := (← ReflectliteValue.parts v, ← ReflectliteValue.parts x)
      | unsupported (.noEntry "extern/(internal/reflectlite.Value).Set.zeroValue")
    if fl / ReflectliteValue.flagAddr % 2 == 0 then unsupported (.noEntry "extern/(internal/reflectlite.Value).Set.unaddressable")
    let val ← loadVar src b
    if ← Rtype.directlyAssignable dst src then storeVar dst a val
    else if ← Rtype.implements dst src then
      if (← Rtype.kind src) == 20 then
        match val with
        | .nilIface => unsupported (.noEntry "extern/reflectlite: a nil value of one interface type handed on as a value of another")
        | _ => storeVar dst a val
      else storeVar dst a (.iface src val)
    else panicString ("reflectlite.Set: value of type " ++ (← Rtype.spelt src) ++ " is not assignable to type " ++ (← Rtype.spelt dst))
    pure (.tuple #[])) := rfl
theorem Tryd.parts25a (a : Addr) (w : World) : (ReflectliteValue.parts (.agg #[.pointer (some ⟨1, 109, none⟩), .pointer (some a), .int .u64 406])).run Tryd.prog w = .ok (some (109, a, 406)) w := by kernel_rfl
theorem Tryd.parts25 (a : Addr) (w : World) : (ReflectliteValue.parts (.agg #[.pointer (some ⟨1, 109, none⟩), .pointer (some a), .int .u64 150])).run Tryd.prog w = .ok (some (109, a, 150)) w := by kernel_rfl
theorem Tryd.direct25 (w : World) : (Rtype.directlyAssignable 109 109).run Tryd.prog w = .ok true w := by kernel_rfl
theorem Tryd.size25 (w : World) : (sizeOf 109).run Tryd.prog w = .ok 1 w := by kernel_rfl
/-- (Value).Set: the *p.E variable at 'ta' gets what the Value's own variable 'b' holds. -/
theorem Tryd.set25 (ta b e : Addr) (old : Value) (W : World) (hb : W.cell? b = some (.pointer (some e))) (ht : W.cell? ta = some old) (hf : W.frozen? ta = false) :
    (ReflectliteValue.set #[.agg #[.pointer (some ⟨1, 109, none⟩), .pointer (some ta), .int .u64 406], .agg #[.pointer (some ⟨1, 109, none⟩), .pointer (some b), .int .u64 150]]).run Tryd.prog W
      = .ok (.tuple #[]) (W.setCell ta (.pointer (some e))) := by
  rw [rls]
  simp only [Sem.run_bind, Tryd.parts25a, Tryd.parts25, Result.andThen]
  simp [ReflectliteValue.flagAddr, loadVar, isAgg, underlying, Tryd.underlying109, hb, Result.andThen, Tryd.direct25, storeVar, Value.cells, storeCells, Addr.add]
  rw [run_store Tryd.prog W ta _ _ (by rfl)]
  simp [ht, hf]

set_option maxHeartbeats 8000000 in
set_option maxRecDepth 100000 in
theorem as_hit (e t : Addr) (old : Value) (w : World) (hg : w.cell? ⟨0, 0, none⟩ = some (.iface 181 (.agg #[.pointer (some ⟨1, 30, none⟩)]))) (ht0 : w.cell? t = some old) (hf0 : w.frozen? t = false) :
    Calls Tryd.prog 70 #[.iface 109 (.pointer (some e)), .iface 111 (.pointer (some t))] w fun ev w' => ev = .returned (.bool true) ∧ w' = ((((w.alloc (.cells #[.pointer (some t)] 111)).alloc (.cells #[.pointer (some ⟨1, 111, none⟩), .pointer (some ⟨w.heap.size, 0, none⟩), .int .u64 150] 159)).alloc (.cells #[.pointer (some ⟨1, 111, none⟩), .pointer (some ⟨w.heap.size, 0, none⟩), .int .u64 150] 159)).alloc (.cells #[.pointer (some e)] 109)).setCell t (.pointer (some e)) := by
  have h6 := @run_callFunc_extern Tryd.prog 118 _ (fun args => ReflectliteValue.unpack (args.getD 0 (.tuple #[]))) Tryd.func118 (by kernel_rfl) (by kernel_rfl) (by kernel_rfl) (by kernel_rfl)
  have h7 := @run_callFunc_extern Tryd.prog 119 _ (ReflectliteValue.methodAny (ReflectliteValue.valueError "reflectlite.Value.Type" 0) (fun t _ _ _ => ReflectliteType.toType t)) Tryd.func119 (by kernel_rfl) (by kernel_rfl) (by kernel_rfl) (by kernel_rfl)
  have h8 := @run_callFunc_extern Tryd.prog 120 _ (ReflectliteValue.method (ReflectliteValue.valueError "reflectlite.Value.IsNil" 0) ReflectliteValue.isNil) Tryd.func120 (by kernel_rfl) (by kernel_rfl) (by kernel_rfl) (by kernel_rfl)
  have h27 := @run_callFunc_extern Tryd.prog 151 _ (ReflectliteType.abiMethod fun t => do pure (.int .u8 (← Rtype.kind t))) Tryd.func151 (by kernel_rfl) (by kernel_rfl) (by kernel_rfl) (by kernel_rfl)
  have h37 := @run_callFunc_extern Tryd.prog 163 _ (ReflectliteType.method ReflectliteType.elem) Tryd.func163 (by kernel_rfl) (by kernel_rfl) (by kernel_rfl) (by kernel_rfl)
  have h38 := @run_callFunc_extern Tryd.prog 164 _ (ReflectliteType.relation "Implements" ReflectliteType.implements_) Tryd.func164 (by kernel_rfl) (by kernel_rfl) (by kernel_rfl) (by kernel_rfl)
  have h10 := @run_callFunc_extern Tryd.prog 132 _ ReflectliteType.typeOf Tryd.func132 (by kernel_rfl) (by kernel_rfl) (by kernel_rfl) (by kernel_rfl)
  have h35 := @run_callFunc_extern Tryd.prog 161 _ (ReflectliteType.relation "AssignableTo" ReflectliteType.assignableTo) Tryd.func161 (by kernel_rfl) (by kernel_rfl) (by kernel_rfl) (by kernel_rfl)
  have h11 := @run_callFunc_extern Tryd.prog 133 _ (ReflectliteValue.method (ReflectliteValue.valueError "reflectlite.Value.Elem" 0) ReflectliteValue.elem) Tryd.func133 (by kernel_rfl) (by kernel_rfl) (by kernel_rfl) (by kernel_rfl)
  have h12 := @run_callFunc_extern Tryd.prog 134 _ ReflectliteValue.set Tryd.func134 (by kernel_rfl) (by kernel_rfl) (by kernel_rfl) (by kernel_rfl)
  have tO := Tryd.typeOf25
  have mA := Tryd.methodAssignableTo
  have a25 := Tryd.assignable25
  have v25 := Tryd.valueOf25
  have f6 := Tryd.valueOf27
  have f7 := Tryd.type27
  have mK := Tryd.methodKind
  have mE := Tryd.methodElem
  have mI := Tryd.methodImplements
  have k27 := Tryd.kind27
  have k25 := Tryd.kind25
  have e27 := Tryd.elem27
  have i25 := Tryd.implements25
  have n8 := Tryd.isNil27 ⟨w.heap.size, 0, none⟩ t ((w.alloc (.cells #[.pointer (some t)] 111)).alloc (.cells #[.pointer (some ⟨1, 111, none⟩), .pointer (some ⟨w.heap.size, 0, none⟩), .int .u64 150] 159)) (by simp)
  have hlt : 0 < w.heap.size := by
    rcases Nat.eq_zero_or_pos w.heap.size with h0 | h
    · simp [World.cell?, h0] at hg
    · exact h
  have hg2 : ((w.alloc (.cells #[.pointer (some t)] 111)).alloc (.cells #[.pointer (some ⟨1, 111, none⟩), .pointer (some ⟨w.heap.size, 0, none⟩), .int .u64 150] 159)).cell? ⟨0, 0, none⟩ = some (.iface 181 (.agg #[.pointer (some ⟨1, 30, none⟩)])) := by
    rw [World.cell?_alloc_lt _ _ ⟨0, 0, none⟩ (by simp), World.cell?_alloc_lt _ _ ⟨0, 0, none⟩ hlt]; exact hg
  have htl : t.block < w.heap.size := by
    rcases Nat.lt_or_ge t.block w.heap.size with h | h
    · exact h
    · simp [World.cell?, Array.getElem?_eq_none h] at ht0
  have el := Tryd.elemV27 ⟨w.heap.size, 0, none⟩ t (((w.alloc (.cells #[.pointer (some t)] 111)).alloc (.cells #[.pointer (some ⟨1, 111, none⟩), .pointer (some ⟨w.heap.size, 0, none⟩), .int .u64 150] 159)).alloc (.cells #[.pointer (some ⟨1, 111, none⟩), .pointer (some ⟨w.heap.size, 0, none⟩), .int .u64 150] 159)) (by rw [World.cell?_alloc_lt _ _ ⟨w.heap.size, 0, none⟩ (by simp; omega)]; simp)
  have st := Tryd.set25 t ⟨w.heap.size + 1 + 1 + 1, 0, none⟩ e old ((((w.alloc (.cells #[.pointer (some t)] 111)).alloc (.cells #[.pointer (some ⟨1, 111, none⟩), .pointer (some ⟨w.heap.size, 0, none⟩), .int .u64 150] 159)).alloc (.cells #[.pointer (some ⟨1, 111, none⟩), .pointer (some ⟨w.heap.size, 0, none⟩), .int .u64 150] 159)).alloc (.cells #[.pointer (some e)] 109))
    (by rw [World.cell?_alloc_at _ _ _ _ (by simp)]; rfl)
    (by rw [World.cell?_alloc_lt _ _ t (by simp; omega), World.cell?_alloc_lt _ _ t (by simp; omega), World.cell?_alloc_lt _ _ t (by simp; omega), World.cell?_alloc_lt _ _ t htl]; exact ht0)
    (by rw [World.frozen?_alloc_old _ _ t (by simp; omega), World.frozen?_alloc_old _ _ t (by simp; omega), World.frozen?_alloc_old _ _ t (by simp; omega), World.frozen?_alloc_old _ _ t (Nat.ne_of_lt htl)]; exact hf0)
  go_enter Tryd.func70, Tryd.ntmps70
  go_wp2
  refine wp_loop_rounds 1 ?_
  rw [rounds_succ]
  go_wp2
  go_ret
  exact ⟨rfl, rfl⟩
end Go.Proofs.YtkmlinaofbcbaaaDoor
namespace Go.Proofs.YtkmlinaofbcbaaaDoor
open Go Go.Va
set_option linter.unusedVariables false
set_option linter.unusedSimpArgs false
def gls : List (Addr × Value) := [(⟨0, 0, none⟩, .iface 181 (.agg #[.pointer (some ⟨1, 30, none⟩)]))]
section
variable {P : Program} {Ty : TypeId → Option TI} {fr : Nat → AV} {d : Option Tmp} {t : TypeId} {pos : String} {af : Array Edge} {g : Option (Nat × Bool)} {ox oy : Operand} {T T' : TypeId}
theorem o_err_eql (hT : TyOk P Ty) {x : Err} (ht : tdOf Ty T = .iface) (hx : aeval fr ox = eErr x) (hy : oy = .const .nilIface) : OpP P ⟨d, .binOp .eql T ox oy T', t, pos, af, g⟩ fr (eB x.isNil) := by
  subst hy
  refine OpP.of_aop' hT (mu := false) rfl (fun τ => ?_)
  have h2 : aeval fr (.const .nilIface) = .nili := rfl
  simp only [aop, hx, h2]
  cases x with
  | nil => simp [eErr, abin', abin, ht, isC, aeq, pairO, Err.isNil, eB]
  | fault o a c u => simp [eErr, abin', abin, ht, isC, aeq, pairO, Err.isNil, eB]
theorem o_err_neq (hT : TyOk P Ty) {x : Err} (ht : tdOf Ty T = .iface) (hx : aeval fr ox = eErr x) (hy : oy = .const .nilIface) : OpP P ⟨d, .binOp .neq T ox oy T', t, pos, af, g⟩ fr (eB (!x.isNil)) := by
  subst hy
  refine OpP.of_aop' hT (mu := false) rfl (fun τ => ?_)
  have h2 : aeval fr (.const .nilIface) = .nili := rfl
  simp only [aop, hx, h2]
  cases x with
  | nil => simp [eErr, abin', abin, ht, isC, aeq, pairO, Err.isNil, eB]
  | fault o a c u => simp [eErr, abin', abin, ht, isC, aeq, pairO, Err.isNil, eB]
end
/-- The pointer that an error holds. -/
def Err.ptr : Err → AV
  | .nil => .nilp
  | .fault o a c u => .fptr [eS o, eI a, eI c, eErr u] 0
theorem as_ok {x : Err} (hx : x.isNil = false) {σ : St} {id : Nat} (ho : σ.objs[id]? = some [.nilp]) (hg : σ.gl = gls) : ACall Tryd.prog 70 [eErr x, .iface 111 (.ref id 0)] σ (fun a τ => a = eB true ∧ τ = σ.puts [(id, [x.ptr])]) := by
  cases x with
  | nil => cases hx
  | fault o a c u =>
    refine ⟨⟨_, Tryd.func70, by decide, rfl⟩, fun w0 G w vs hI hr => ?_⟩
    obtain ⟨v0, h0, r0⟩ := hr.get (i := 0) rfl
    obtain ⟨v1, h1, r1⟩ := hr.get (i := 1) rfl
    have hvs : vs = #[v0, v1] := by
      obtain ⟨l⟩ := vs
      have hl := hr.len
      simp only [List.length_cons, List.length_nil] at hl h0 h1
      match l, hl, h0, h1 with
      | [x, y], _, h0, h1 => simp at h0 h1; subst h0; subst h1; rfl
    subst hvs
    simp only [eErr] at r0
    cases r0 with | iface _ v0 _ r0 =>
    cases r1 with | iface _ v1 _ r1 =>
    cases r0 with | fptr b o' off _ val hf hv =>
    cases r1 with | ref _ _ b1 hl =>
    obtain ⟨b2, T, cs, e1, e2, e3, e4, e5, e6⟩ := hI.loc id _ ho (by simp)
    rw [hl] at e1
    cases e1
    obtain ⟨u1, hu1, ru1⟩ := e4.rel.get (i := 0) rfl
    have hcs : cs[0]? = some (.pointer none) := by
      cases ru1
      rw [List.getElem?_take] at hu1
      simpa using hu1
    have hsz : 1 ≤ cs.size := e4.le
    have hglob := hI.below
    have hg0 : w0.cell? ⟨0, 0, none⟩ = some (.iface 181 (.agg #[.pointer (some ⟨1, 30, none⟩)])) := hI.gl _ (by rw [hg]; exact List.mem_singleton.2 rfl)
    have hg1 : w.cell? ⟨0, 0, none⟩ = some (.iface 181 (.agg #[.pointer (some ⟨1, 30, none⟩)])) := by
      have hb := World.block_lt_of_cell? w0 _ hg0
      simp only [World.cell?] at hg0 ⊢
      rw [hI.below.block _ hb]; exact hg0
    have hc : w.cell? ⟨b1, 0, none⟩ = some (.pointer none) := by simp [World.cell?, e3, hcs]
    have hfz : w.frozen? ⟨b1, 0, none⟩ = false := by simp [World.frozen?, e3]
    refine (as_hit ⟨b, o' + 0, none⟩ ⟨b1, 0, none⟩ (.pointer none) w hg1 hc hfz).mono ?_
    rintro e w' ⟨rfl, rfl⟩
    have k1 := hI.alloc_fz #[.pointer (some ⟨b1, 0, none⟩)] 111 (by simp [Value.oneCell']) (0, 0)
    have k2 := k1.2.alloc_fz #[.pointer (some ⟨1, 111, none⟩), .pointer (some ⟨w.heap.size, 0, none⟩), .int .u64 150] 159 (by simp [Value.oneCell']) (0, 0)
    have k3 := k2.2.alloc_fz #[.pointer (some ⟨1, 111, none⟩), .pointer (some ⟨w.heap.size, 0, none⟩), .int .u64 150] 159 (by simp [Value.oneCell']) (0, 0)
    have k4 := k3.2.alloc_fz #[.pointer (some ⟨b, o' + 0, none⟩)] 109 (by simp [Value.oneCell']) (0, 0)
    have hle := k1.1.trans (k2.1.trans (k3.1.trans k4.1))
    have hb1 : b1 < w.heap.size := (Array.getElem?_eq_some_iff.1 e3).1
    have k5 := k4.2.write (id := id) (off := 0) (news := [.pointer (some ⟨b, o' + 0, none⟩)]) (nc := [.fptr [eS o, eI a, eI c, eErr u] 0]) ho (hle.loc _ _ hl) (by simp) ((RelL.nil _).cons (.fptr b o' 0 _ val (fun j a h1 => hle.fz _ _ _ (hf j a h1)) (fun j a h1 => (hv j a h1).mono hle))) (by simp [Value.oneCell']) (by simp) (by rw [hle.bsz _ _ hl, ← e6]; simpa using hsz)
    refine ⟨.bool true, eB true, _, _, rfl, hle, ?_, .bool true, rfl, rfl⟩
    simp only [World.setCells, List.take_zero, List.nil_append, List.length_cons, List.length_nil, List.drop_succ_cons, List.drop_zero, List.drop_nil, List.append_nil] at k5
    exact k5
end Go.Proofs.YtkmlinaofbcbaaaDoor
namespace Go.Proofs.YtkmlinaofbcbaaaDoor
open Go Go.Va
set_option linter.unusedSimpArgs false
theorem stu74 : Tryd.prog.underlying 74 = some (.struct (Tryd.prog.fieldsOf 74)) := by simp only [Program.fieldsOf, Tryd.underlying74]
theorem sth74 : Tryd.prog.stoodInHeld 74 = false := by kernel_rfl
theorem stm74 : Tryd.prog.eqGuardType Tryd.prog.depth 74 = false := by kernel_rfl
theorem eqst74 (x y : api_Mark) : eqCells Tryd.prog (Tryd.prog.fieldsOf 74).toList (c_api_Mark x) (c_api_Mark y) = some (x == y) := by
  obtain ⟨x0, x1, x2⟩ := x
  obtain ⟨y0, y1, y2⟩ := y
  simp only [Program.fieldsOf, Tryd.underlying74]
  simp [eqCells, c_api_Mark, eU, eI, eB, eS, eK, mkB_inj, Tryd.underlying3, Tryd.underlying72]
  repeat' split
  all_goals simp_all [← BitVec.toNat_inj, Int.natCast_inj]
end Go.Proofs.YtkmlinaofbcbaaaDoor
namespace Go.Proofs.YtkmlinaofbcbaaaDoor
open Go Go.Va
set_option linter.unusedVariables false
set_option linter.unusedSimpArgs false
set_option maxRecDepth 20000
theorem butteryref02_Same_ok {x0 : List (BitVec 8)} {x1 : List (BitVec 8)} {r : Bool} (H : butteryref02_Same x0 x1 = some r) (σ : St)  : ACall Tryd.prog 16 [((eL 1 (@eU .u8 8)) x0), ((eL 1 (@eU .u8 8)) x1)] σ (fun a τ => a = eB r ∧ τ = σ) := by
  unfold butteryref02_Same at H
  refine ACall.pure (acall_start tk Tryd.func16 (by decide) rfl (Nat.le_of_ble_eq_true rfl) ?_)
  have hH := Holds.init σ
  refine awp_seq ?_
  refine awp_region rfl ?_
  refine wpo_mv (a := (eB false)) rfl rfl rfl (o_as tk rfl (Wk.refl _)) ?_
  refine wpo_nil ?_
  refine awp_seq ?_
  refine awp_seq ?_
  refine awp_region rfl ?_
  refine wpo_mv (a := ((eL 1 (@eU .u8 8)) x0)) rfl rfl rfl (o_mv tk rfl (Wk.refl _)) ?_
  refine wpo_lt H eI rfl rfl rfl (o_len tk td22 rfl) fun v2 H1 => ?_
  refine wpo_mv (a := ((eL 1 (@eU .u8 8)) x1)) rfl rfl rfl (o_mv tk rfl (Wk.refl _)) ?_
  refine wpo_lt H1 eI rfl rfl rfl (o_len tk td22 rfl) fun v4 H3 => ?_
  refine wpo_lt H3 eB rfl rfl rfl (o_ar tk rfl rfl rfl) fun v6 H5 => ?_
  refine wpo_nil ?_
  refine awp_if H5 rfl (fun H7 => ?_) (fun H7 => ?_)
  · refine awp_seq ?_
    refine awp_region rfl ?_
    refine wpo_mv (a := (eB false)) rfl rfl rfl (o_as tk rfl (Wk.refl _)) ?_
    refine wpo_nil ?_
    refine awp_ret ?_
    obtain rfl := Option.some.inj H7
    exact ⟨_, (eB false), rfl, (.of_eq rfl), .of_eq ((enc_b td4 sz4).cut _ _ _), hH.noT⟩
  · refine awp_skip ?_
    refine awp_seq ?_
    refine awp_seq ?_
    refine awp_region rfl ?_
    refine wpo_mv (a := (eI (0 : Int))) rfl rfl rfl (o_as tk rfl (Wk.refl _)) ?_
    refine wpo_nil ?_
    refine awp_block ?_
    obtain ⟨o9, hs10, hj11⟩ := Option.bind_eq_some_iff.1 H7
    refine awp_cutx 0 (fun fr τ => ∃ s16 : Unit, o9 = .inl s16 ∧ WkF fr (fm []) ∧ Holds σ [] [] τ) ?_ ?_
    · rintro fr τ ⟨s16, rfl, hfr, hH⟩
      have H33 := hj11
      simp only [Sum.elim_inl] at H33
      refine AWP.fm [] hfr ?_
      refine awp_seq ?_
      refine awp_region rfl ?_
      refine wpo_mv (a := (eB true)) rfl rfl rfl (o_as tk rfl (Wk.refl _)) ?_
      refine wpo_nil ?_
      refine awp_ret ?_
      obtain rfl := Option.some.inj H33
      exact ⟨_, (eB true), rfl, (.of_eq rfl), .of_eq ((enc_b td4 sz4).cut _ _ _), hH.noT⟩
    · refine awp_loopO (body := fun s => butteryref02_Same_b0 x0 x1 s) hs10 (fun (s : Int) fr τ => WkF fr (fm [(0, ((eL 1 (@eU .u8 8)) x0)), (1, ((eL 1 (@eU .u8 8)) x1)), (5, (eI s))]) ∧ Holds σ [] [] τ) ⟨(wkf_cons (.of_eq rfl) (wkf_cons (.of_eq rfl) (wkf_cons (.of_eq rfl) (wkf_nil _)))), hH⟩ ?_
      rintro c8 fr τ y12 ⟨hfr, hH⟩ hb14 hy15
      have H17 : butteryref02_Same_b0 x0 x1 c8 = some y12 := hb14
      unfold butteryref02_Same_b0 at H17
      refine AWP.fm [(0, ((eL 1 (@eU .u8 8)) x0)), (1, ((eL 1 (@eU .u8 8)) x1)), (5, (eI c8))] hfr ?_
      have hH : Holds σ [] [] τ := hH
      refine awp_seq ?_
      refine awp_seq ?_
      refine awp_region rfl ?_
      refine wpo_mv (a := (eI c8)) rfl rfl rfl (o_mv tk rfl (Wk.refl _)) ?_
      refine wpo_mv (a := ((eL 1 (@eU .u8 8)) x0)) rfl rfl rfl (o_mv tk rfl (Wk.refl _)) ?_
      refine wpo_lt H17 eI rfl rfl rfl (o_len tk td22 rfl) fun v19 H18 => ?_
      refine wpo_lt H18 eB rfl rfl rfl (o_ar tk rfl rfl rfl) fun v21 H20 => ?_
      refine wpo_nil ?_
      refine awp_if H20 rfl (fun H22 => ?_) (fun H22 => ?_)
      · refine awp_skip ?_
        refine awp_seq ?_
        refine awp_block ?_
        refine awp_seq ?_
        refine awp_drawS mixed [] rfl (by decide +kernel) rfl rfl ?_
        refine wpdS_mv (a := ((eL 1 (@eU .u8 8)) x0)) rfl rfl rfl (o_mv tk rfl (Wk.refl _)) ?_
        refine wpdS_mv (a := (eI c8)) rfl rfl rfl (o_mv tk rfl (Wk.refl _)) ?_
        refine wpdS_bd H22 (fun y => .fptr ((@eU .u8 8) y).cells 0) rfl rfl rfl (fun v24 hv => o_ixa tk hv td22 (enc_u td5 sz5) rfl rfl) fun v24 hv24 H23 => ?_
        refine wpdS_mv (a := ((@eU .u8 8) v24)) rfl rfl rfl (o_ld_e tk (enc_u td5 sz5) rfl rfl) ?_
        refine wpdS_mv (a := ((eL 1 (@eU .u8 8)) x1)) rfl rfl rfl (o_mv tk rfl (Wk.refl _)) ?_
        refine wpdS_mv (a := (eI c8)) rfl rfl rfl (o_mv tk rfl (Wk.refl _)) ?_
        refine wpdS_bd H23 (fun y => .fptr ((@eU .u8 8) y).cells 0) rfl rfl rfl (fun v26 hv => o_ixa tk hv td22 (enc_u td5 sz5) rfl rfl) fun v26 hv26 H25 => ?_
        refine wpdS_mv (a := ((@eU .u8 8) v26)) rfl rfl rfl (o_ld_e tk (enc_u td5 sz5) rfl rfl) ?_
        refine wpdS_lt H25 eB rfl rfl rfl (o_neq_u tk rfl rfl) fun v28 H27 => ?_
        refine wpdS_nil ?_
        refine awp_if H27 rfl (fun H29 => ?_) (fun H29 => ?_)
        · refine awp_seq ?_
          refine awp_region rfl ?_
          refine wpo_mv (a := (eB false)) rfl rfl rfl (o_as tk rfl (Wk.refl _)) ?_
          refine wpo_nil ?_
          refine awp_ret ?_
          have hz := hy15 _ (inj_inr H29)
          refine ⟨⟨_, inj_inr H29⟩, ?_⟩
          rw [← hz] at hj11
          have H30 := (show some _ = some _ from hj11)
          obtain rfl := Option.some.inj H30
          exact ⟨_, (eB false), rfl, (.of_eq rfl), .of_eq ((enc_b td4 sz4).cut _ _ _), hH.noT⟩
        · refine awp_skip ?_
          refine awp_region rfl ?_
          refine wpo_mv (a := (eI c8)) rfl rfl rfl (o_mv tk rfl (Wk.refl _)) ?_
          refine wpo_lt H29 eI rfl rfl rfl (o_ar tk rfl rfl rfl) fun v32 H31 => ?_
          refine wpo_mv (a := (eI v32)) rfl rfl rfl (o_as tk rfl (Wk.refl _)) ?_
          refine wpo_nil ?_
          exact ⟨v32, inj_inl H31, (wkf_cons (.of_eq rfl) (wkf_cons (.of_eq rfl) (wkf_cons (.of_eq rfl) (wkf_nil _)))), hH⟩
      · refine awp_exit ?_
        have hz := hy15 _ (inj_inr H22)
        exact ⟨⟨_, inj_inr H22⟩, (), hz.symm, (wkf_nil _), hH⟩
end Go.Proofs.YtkmlinaofbcbaaaDoor
namespace Go.Proofs.YtkmlinaofbcbaaaDoor
open Go Go.Va
set_option linter.unusedVariables false
set_option linter.unusedSimpArgs false
set_option maxRecDepth 20000
theorem trouble_Of_ok {x0 : Err} {r : Int} (H : trouble_Of x0 = some r) (σ : St) (hg : σ.gl = gls) : ACall Tryd.prog 17 [eErr x0] σ (fun a τ => a = eI r ∧ τ = σ) := by
  obtain rfl := Option.some.inj H
  refine ACall.pure (acall_start tk Tryd.func17 (by decide) rfl (Nat.le_of_ble_eq_true rfl) ?_)
  have hH := Holds.init σ
  refine awp_seq ?_
  refine awp_region rfl ?_
  refine wpo_mv (a := (eI (0 : Int))) rfl rfl rfl (o_as tk rfl (Wk.refl _)) ?_
  refine wpo_nil ?_
  refine awp_seq ?_
  refine awp_block ?_
  have hs := trouble_Of_l0 x0
  refine awp_cutx 0 (fun fr τ => codeOf x0 = 0 ∧ WkF fr (fm []) ∧ Holds σ [] [] τ) ?_ ?_
  · rintro fr τ ⟨h0, hfr, hH⟩
    refine AWP.fm [] hfr ?_
    refine awp_seq ?_
    refine awp_region rfl ?_
    refine wpo_mv (a := (eI 0)) rfl rfl rfl (o_as tk rfl (Wk.refl _)) ?_
    refine wpo_nil ?_
    refine awp_ret ?_
    rw [h0]
    exact ⟨_, (eI 0), rfl, (.of_eq rfl), .of_eq rfl, hH.noT⟩
  · refine awp_loopO (body := trouble_Of_b0) hs (fun (s : Err) fr τ => WkF fr (fm [(0, eErr s)]) ∧ Holds σ [] [] τ) ⟨(wkf_cons (.of_eq rfl) (wkf_nil _)), hH⟩ ?_
    rintro c1 fr τ y ⟨hfr, hH⟩ hb hy
    refine AWP.fm [(0, eErr c1)] hfr ?_
    cases c1 with
    | nil =>
      refine awp_seq ?_
      refine awp_seq ?_
      refine awp_region rfl ?_
      refine wpo_mv (a := eErr .nil) rfl rfl rfl (o_mv tk rfl (Wk.refl _)) ?_
      refine wpo_mv (a := eB false) rfl rfl rfl (o_err_neq (x := .nil) tk rfl rfl rfl) ?_
      refine wpo_nil ?_
      refine awp_false rfl ?_
      refine awp_exit ?_
      have hb : some (Sum.inr (Sum.inl ())) = some y := hb
      have hz := hy _ (Option.some.inj hb).symm
      refine ⟨⟨_, (Option.some.inj hb).symm⟩, ?_, (wkf_nil _), hH⟩
      split at hz
      · assumption
      · cases hz
    | fault o a c u =>
      refine awp_seq ?_
      refine awp_seq ?_
      refine awp_region rfl ?_
      refine wpo_mv (a := eErr (.fault o a c u)) rfl rfl rfl (o_mv tk rfl (Wk.refl _)) ?_
      refine wpo_mv (a := eB true) rfl rfl rfl (o_err_neq (x := .fault o a c u) tk rfl rfl rfl) ?_
      refine wpo_nil ?_
      refine awp_true rfl ?_
      refine awp_skip ?_
      refine awp_block ?_
      refine awp_seq ?_
      refine awp_region rfl ?_
      refine wpo_a (av := fun id => .ref id 0) rfl rfl rfl (h_alloc tk hH ty109 [.nilp] rfl) fun id τ ⟨hH, hn⟩ => ?_
      refine wpo_nil ?_
      refine awp_seq ?_
      refine awp_seq ?_
      refine awp_region rfl ?_
      refine wpo_mv (a := eErr (.fault o a c u)) rfl rfl rfl (o_mv tk rfl (Wk.refl _)) ?_
      refine wpo_mv (a := .iface 111 (.ref id 0)) rfl rfl rfl (o_c tk false rfl (fun _ => rfl)) ?_
      refine wpo_cb (α := Unit) (z := some ()) (k := fun _ => some ()) (r := ()) rfl (fun _ _ => eB true) rfl rfl rfl (fun v hv => h_call1 hH [(0, (id, [(Err.fault o a c u).ptr]))] ⟨⟨_, rfl⟩, trivial⟩ rfl rfl (.cons (.of_eq rfl) (.cons (.of_eq rfl) .nil)) (as_ok (x := .fault o a c u) rfl (hH.at_ 0 rfl) (hH.gl.trans hg))) fun _ _ τ _ _ hH => ?_
      refine wpo_mv (a := eB false) rfl rfl rfl (o_un tk rfl rfl) ?_
      refine wpo_nil ?_
      refine awp_false rfl ?_
      refine awp_skip ?_
      refine awp_seq ?_
      refine awp_seq ?_
      refine awp_region rfl ?_
      refine wpo_rd (a := (Err.fault o a c u).ptr) rfl rfl rfl (h_ld tk hH 0 rfl rfl rfl) ?_
      refine wpo_mv (a := (Err.fault o a c u).ptr) rfl rfl rfl (o_c tk false rfl (fun _ => rfl)) ?_
      refine wpo_mv (a := .fptr [eS o, eI a, eI c, eErr u] 2) rfl rfl rfl (o_c tk false rfl (fun _ => rfl)) ?_
      refine wpo_mv (a := eI c) rfl rfl rfl (o_ld tk rfl rfl) ?_
      refine wpo_mv (a := eB (c != 0)) rfl rfl rfl (o_ar tk rfl rfl rfl) ?_
      refine wpo_nil ?_
      have hb : (if (c != 0) = true then some (.inr (.inr c)) else some (.inl u)) = some y := hb
      refine awp_if hb rfl (fun hb => ?_) (fun hb => ?_)
      · refine awp_seq ?_
        refine awp_region rfl ?_
        refine wpo_rd (a := (Err.fault o a c u).ptr) rfl rfl rfl (h_ld tk hH 0 rfl rfl rfl) ?_
        refine wpo_mv (a := (Err.fault o a c u).ptr) rfl rfl rfl (o_c tk false rfl (fun _ => rfl)) ?_
        refine wpo_mv (a := .fptr [eS o, eI a, eI c, eErr u] 2) rfl rfl rfl (o_c tk false rfl (fun _ => rfl)) ?_
        refine wpo_mv (a := eI c) rfl rfl rfl (o_ld tk rfl rfl) ?_
        refine wpo_mv (a := eI c) rfl rfl rfl (o_as tk rfl (Wk.refl _)) ?_
        refine wpo_nil ?_
        refine awp_ret ?_
        have hz := hy _ (Option.some.inj hb).symm
        refine ⟨⟨_, (Option.some.inj hb).symm⟩, ?_⟩
        have hc : codeOf x0 = c := by
          split at hz
          · cases hz
          · exact Sum.inr.inj hz.symm
        rw [hc]
        exact ⟨_, (eI c), rfl, (.of_eq rfl), .of_eq rfl, (hH.noT.drop hn)⟩
      · refine awp_skip ?_
        refine awp_region rfl ?_
        refine wpo_rd (a := (Err.fault o a c u).ptr) rfl rfl rfl (h_ld tk hH 0 rfl rfl rfl) ?_
        refine wpo_mv (a := (Err.fault o a c u).ptr) rfl rfl rfl (o_c tk false rfl (fun _ => rfl)) ?_
        refine wpo_mv (a := .fptr [eS o, eI a, eI c, eErr u] 3) rfl rfl rfl (o_c tk false rfl (fun _ => rfl)) ?_
        refine wpo_mv (a := eErr u) rfl rfl rfl (o_ld tk rfl (by cases u <;> rfl)) ?_
        refine wpo_mv (a := eErr u) rfl rfl rfl (o_as tk rfl (Wk.refl _)) ?_
        refine wpo_nil ?_
        exact ⟨u, (Option.some.inj hb).symm, (wkf_cons (.of_eq rfl) (wkf_nil _)), hH.drop hn⟩
end Go.Proofs.YtkmlinaofbcbaaaDoor
namespace Go.Proofs.YtkmlinaofbcbaaaDoor
open Go Go.Va
set_option linter.unusedVariables false
set_option linter.unusedSimpArgs false
set_option maxRecDepth 20000
theorem trouble_Wrap_ok {x0 : List (BitVec 8)} {x1 : Int} {x2 : Err} {r : Err} (H : trouble_Wrap x0 x1 x2 = some r) (σ : St)  : ACall Tryd.prog 59 [(eS x0), (eI x1), (eErr x2)] σ (fun a τ => a = eErr r ∧ τ = σ) := by
  unfold trouble_Wrap at H
  refine ACall.pure (acall_start tk Tryd.func59 (by decide) rfl (Nat.le_of_ble_eq_true rfl) ?_)
  have hH := Holds.init σ
  refine awp_seq ?_
  refine awp_region rfl ?_
  refine wpo_mv (a := (eErr Err.nil)) rfl rfl rfl (o_as tk rfl (Wk.refl _)) ?_
  refine wpo_nil ?_
  refine awp_seq ?_
  refine awp_seq ?_
  refine awp_region rfl ?_
  refine wpo_mv (a := (eErr x2)) rfl rfl rfl (o_mv tk rfl (Wk.refl _)) ?_
  refine wpo_lt H eB rfl rfl rfl (o_err_eql tk rfl rfl rfl) fun v2 H1 => ?_
  refine wpo_nil ?_
  refine awp_if H1 rfl (fun H3 => ?_) (fun H3 => ?_)
  · refine awp_seq ?_
    refine awp_region rfl ?_
    refine wpo_mv (a := (eErr Err.nil)) rfl rfl rfl (o_as tk rfl (Wk.refl _)) ?_
    refine wpo_nil ?_
    refine awp_ret ?_
    obtain rfl := Option.some.inj H3
    exact ⟨_, (eErr Err.nil), rfl, (.of_eq rfl), .of_eq (encErr.cut _ _ _), hH.noT⟩
  · refine awp_skip ?_
    refine awp_seq ?_
    refine awp_region rfl ?_
    refine wpo_mv (a := (eS x0)) rfl rfl rfl (o_mv tk rfl (Wk.refl _)) ?_
    refine wpo_mv (a := (eI x1)) rfl rfl rfl (o_mv tk rfl (Wk.refl _)) ?_
    refine wpo_mv (a := (eErr x2)) rfl rfl rfl (o_mv tk rfl (Wk.refl _)) ?_
    refine wpo_lt H3 e_trouble_fault rfl rfl rfl (o_c tk false rfl (fun _ => by generalize x2 = z0; cases z0 <;> rfl)) fun v5 H4 => ?_
    refine wpo_mv (a := (.fptr (c_trouble_fault v5) 0)) rfl rfl rfl (o_boxf tk rfl (.of_eq rfl) (b := (e_trouble_fault v5)) (enc113.flat _)) ?_
    refine wpo_mv (a := (eErr (Err.fault v5.op v5.at_ v5.code v5.under))) rfl rfl rfl (o_c tk false rfl (fun _ => rfl)) ?_
    refine wpo_mv (a := (eErr (Err.fault v5.op v5.at_ v5.code v5.under))) rfl rfl rfl (o_as tk rfl (Wk.refl _)) ?_
    refine wpo_nil ?_
    refine awp_ret ?_
    obtain rfl := Option.some.inj H4
    exact ⟨_, (eErr (Err.fault v5.op v5.at_ v5.code v5.under)), rfl, (.of_eq rfl), .of_eq (encErr.cut _ _ _), hH.noT⟩
end Go.Proofs.YtkmlinaofbcbaaaDoor
namespace Go.Proofs.YtkmlinaofbcbaaaDoor
open Go Go.Va
set_option linter.unusedVariables false
set_option linter.unusedSimpArgs false
set_option maxRecDepth 20000
theorem octets_Put_app {x0 : List (BitVec 8)} {x1 : List Int} {r : (List (BitVec 8))} (H : octets_Put x0 x1 = some r) (σ : St)  : ACall Tryd.prog 60 [((eL 1 (@eU .u8 8)) x0), ((eL 1 eI) x1)] σ (fun a τ => a = .sl (.own σ.opn.length) 1 (r.map (@eU .u8 8)) ∧ τ = σ.more) := by
  unfold octets_Put at H
  refine ACall.app (fun ρ κ => cutL_enc (enc_u td5 sz5).cut ρ κ r) (acall_start tk Tryd.func60 (by decide) rfl (Nat.le_of_ble_eq_true rfl) ?_)
  have hH := Holds.init σ
  refine awp_seq ?_
  refine awp_region rfl ?_
  refine wpo_mv (a := AV.nils) rfl rfl rfl (o_as tk rfl (Wk.refl _)) ?_
  refine wpo_nil ?_
  refine awp_seq ?_
  refine awp_region rfl ?_
  refine wpo_mv (a := (eF 1 (@eU .u8 8) ([] : List (BitVec 8)))) rfl rfl rfl (o_c tk false rfl (fun _ => rfl)) ?_
  refine wpo_mv (a := ((eL 1 (@eU .u8 8)) x0)) rfl rfl rfl (o_mv tk rfl (Wk.refl _)) ?_
  obtain ⟨v2, hv3, H1⟩ := Option.bind_eq_some_iff.1 H
  refine wpo_a (av := fun t => eT t 1 (@eU .u8 8) v2) rfl rfl rfl (h_app0 tk hH hv3 td22 ty5 rfl (by decide) (.inr rfl) (src_l td22 rfl)) fun tk4 τ hH => ?_
  refine wpo_mv (a := (eT tk4 1 (@eU .u8 8) v2)) rfl rfl rfl (o_as tk rfl (Wk.refl _)) ?_
  refine wpo_nil ?_
  refine awp_seq ?_
  refine awp_seq ?_
  refine awp_region rfl ?_
  refine wpo_mv (a := ((eL 1 eI) x1)) rfl rfl rfl (o_mv tk rfl (Wk.refl _)) ?_
  refine wpo_lt H1 eI rfl rfl rfl (o_len tk td51 rfl) fun v6 H5 => ?_
  refine wpo_mv (a := (eI (0 : Int))) rfl rfl rfl (o_mv tk rfl (Wk.refl _)) ?_
  refine wpo_nil ?_
  refine awp_block ?_
  obtain ⟨s16, hs10, hj11⟩ := Option.bind_eq_some_iff.1 H5
  refine awp_cutx 0 (fun fr τ => ∃ tk_5, WkF fr (fm [(5, (eT tk_5 1 (@eU .u8 8) s16))]) ∧ Holds σ [] [tk_5] τ) ?_ ?_
  · rintro fr τ ⟨tk_5, hfr, hH⟩
    have H86 := hj11
    refine AWP.fm [(5, (eT tk_5 1 (@eU .u8 8) s16))] hfr ?_
    refine awp_seq ?_
    refine awp_region rfl ?_
    refine wpo_mv (a := (eT tk_5 1 (@eU .u8 8) s16)) rfl rfl rfl (o_mv tk rfl (Wk.refl _)) ?_
    refine wpo_mv (a := (eT tk_5 1 (@eU .u8 8) s16)) rfl rfl rfl (o_as tk rfl (Wk.refl _)) ?_
    refine wpo_nil ?_
    refine awp_ret ?_
    obtain rfl := Option.some.inj H86
    exact ⟨_, (eT tk_5 1 (@eU .u8 8) s16), rfl, .of_eq rfl, tk_5, rfl, hH⟩
  · refine awp_loopO (body := fun s => octets_Put_b0 x1 v6 s.1 s.2) hs10 (fun (s : (List (BitVec 8)) × Int) fr τ => ∃ tk_5, WkF fr (fm [(5, (eT tk_5 1 (@eU .u8 8) s.1)), (12, ((eL 1 eI) x1)), (13, (eI v6)), (14, (eI s.2))]) ∧ Holds σ [] [tk_5] τ) ⟨tk4, (wkf_cons (.of_eq rfl) (wkf_cons (.of_eq rfl) (wkf_cons (.of_eq rfl) (wkf_cons (.of_eq rfl) (wkf_nil _))))), hH⟩ ?_
    rintro ⟨c7, c8⟩ fr τ y12 ⟨tk_5, hfr, hH⟩ hb14 hy15
    have H17 : octets_Put_b0 x1 v6 c7 c8 = some y12 := hb14
    unfold octets_Put_b0 at H17
    refine AWP.fm [(5, (eT tk_5 1 (@eU .u8 8) c7)), (12, ((eL 1 eI) x1)), (13, (eI v6)), (14, (eI c8))] hfr ?_
    have hH : Holds σ [] [tk_5] τ := hH
    refine awp_seq ?_
    refine awp_region rfl ?_
    refine wpo_lt H17 eB rfl rfl rfl (o_ar tk rfl rfl rfl) fun v19 H18 => ?_
    refine wpo_nil ?_
    refine awp_seq ?_
    refine awp_if H18 rfl (fun H20 => ?_) (fun H20 => ?_)
    · refine awp_skip ?_
      refine awp_seq ?_
      refine awp_block ?_
      refine awp_seq ?_
      refine awp_region rfl ?_
      refine wpo_bd H20 (fun y => .fptr (eI y).cells 0) rfl rfl rfl (fun v22 hv => o_ixa tk hv td51 (enc_i64 td3 sz3) rfl rfl) fun v22 hv22 H21 => ?_
      refine wpo_mv (a := (eI v22)) rfl rfl rfl (o_ld_e tk (enc_i64 td3 sz3) rfl rfl) ?_
      refine wpo_mv (a := (eI v22)) rfl rfl rfl (o_as tk rfl (Wk.refl _)) ?_
      refine wpo_nil ?_
      refine awp_seq ?_
      refine awp_region rfl ?_
      refine wpo_mv (a := (eI (0 : Int))) rfl rfl rfl (o_as tk rfl (Wk.refl _)) ?_
      refine wpo_nil ?_
      refine awp_seq ?_
      refine awp_block ?_
      obtain ⟨s31, hs25, hj26⟩ := Option.bind_eq_some_iff.1 H21
      refine awp_cutx 2 (fun fr τ => ∃ tk_5, WkF fr (fm [(5, (eT tk_5 1 (@eU .u8 8) c7)), (7, (eI v22)), (8, (eI s31)), (12, ((eL 1 eI) x1)), (13, (eI v6)), (14, (eI c8))]) ∧ Holds σ [] [tk_5] τ) ?_ ?_
      · rintro fr τ ⟨tk_5, hfr, hH⟩
        have H42 := hj26
        refine AWP.fm [(5, (eT tk_5 1 (@eU .u8 8) c7)), (7, (eI v22)), (8, (eI s31)), (12, ((eL 1 eI) x1)), (13, (eI v6)), (14, (eI c8))] hfr ?_
        refine awp_seq ?_
        refine awp_block ?_
        obtain ⟨s52, hs46, hj47⟩ := Option.bind_eq_some_iff.1 H42
        refine awp_cutx 4 (fun fr τ => ∃ tk_5, WkF fr (fm [(5, (eT tk_5 1 (@eU .u8 8) s52)), (7, (eI v22)), (12, ((eL 1 eI) x1)), (13, (eI v6)), (14, (eI c8))]) ∧ Holds σ [] [tk_5] τ) ?_ ?_
        · rintro fr τ ⟨tk_5, hfr, hH⟩
          have H73 := hj47
          refine AWP.fm [(5, (eT tk_5 1 (@eU .u8 8) s52)), (7, (eI v22)), (12, ((eL 1 eI) x1)), (13, (eI v6)), (14, (eI c8))] hfr ?_
          refine awp_region rfl ?_
          refine wpo_mv (a := (eT tk_5 1 (@eU .u8 8) s52)) rfl rfl rfl (o_mv tk rfl (Wk.refl _)) ?_
          refine wpo_mv (a := (eI v22)) rfl rfl rfl (o_mv tk rfl (Wk.refl _)) ?_
          refine wpo_lt H73 (@eU .u8 8) rfl rfl rfl (o_cv_iu tk td3 td5 rfl rfl) fun v75 H74 => ?_
          refine wpo_lt H74 (@eU .u8 8) rfl rfl rfl (o_and_u tk rfl rfl rfl) fun v77 H76 => ?_
          refine wpo_lt H76 (eF 1 (@eU .u8 8)) rfl rfl rfl (o_c tk false rfl (fun _ => rfl)) fun v79 H78 => ?_
          obtain ⟨v81, hv82, H80⟩ := Option.bind_eq_some_iff.1 H78
          refine wpo_a (av := fun t => eT t 1 (@eU .u8 8) v81) rfl rfl rfl (h_app tk hH 0 hv82 rfl td22 ty5 rfl (by decide) rfl (src_l td22 rfl)) fun tk83 τ hH => ?_
          refine wpo_mv (a := (eT tk83 1 (@eU .u8 8) v81)) rfl rfl rfl (o_as tk rfl (Wk.refl _)) ?_
          refine wpo_nil ?_
          refine awp_region rfl ?_
          refine wpo_lt H80 eI rfl rfl rfl (o_ar tk rfl rfl rfl) fun v85 H84 => ?_
          refine wpo_mv (a := (eI v85)) rfl rfl rfl (o_mv tk rfl (Wk.refl _)) ?_
          refine wpo_nil ?_
          exact ⟨(v81, v85), inj_inl H84, tk83, (wkf_cons (.of_eq rfl) (wkf_cons (.of_eq rfl) (wkf_cons (.of_eq rfl) (wkf_cons (.of_eq rfl) (wkf_nil _))))), hH⟩
        · refine awp_loopO (body := fun s => octets_Put_b2 x1 v6 c8 v22 s.1 s.2) hs46 (fun (s : (List (BitVec 8)) × Int) fr τ => ∃ tk_5, WkF fr (fm [(5, (eT tk_5 1 (@eU .u8 8) s.1)), (7, (eI v22)), (8, (eI s.2)), (12, ((eL 1 eI) x1)), (13, (eI v6)), (14, (eI c8))]) ∧ Holds σ [] [tk_5] τ) ⟨tk_5, (wkf_cons (.of_eq rfl) (wkf_cons (.of_eq rfl) (wkf_cons (.of_eq rfl) (wkf_cons (.of_eq rfl) (wkf_cons (.of_eq rfl) (wkf_cons (.of_eq rfl) (wkf_nil _))))))), hH⟩ ?_
          rintro ⟨c43, c44⟩ fr τ y48 ⟨tk_5, hfr, hH⟩ hb50 hy51
          have H53 : octets_Put_b2 x1 v6 c8 v22 c43 c44 = some y48 := hb50
          unfold octets_Put_b2 at H53
          refine AWP.fm [(5, (eT tk_5 1 (@eU .u8 8) c43)), (7, (eI v22)), (8, (eI c44)), (12, ((eL 1 eI) x1)), (13, (eI v6)), (14, (eI c8))] hfr ?_
          have hH : Holds σ [] [tk_5] τ := hH
          refine awp_seq ?_
          refine awp_seq ?_
          refine awp_region rfl ?_
          refine wpo_mv (a := (eI c44)) rfl rfl rfl (o_mv tk rfl (Wk.refl _)) ?_
          refine wpo_lt H53 eB rfl rfl rfl (o_ar tk rfl rfl rfl) fun v55 H54 => ?_
          refine wpo_nil ?_
          refine awp_if H54 rfl (fun H56 => ?_) (fun H56 => ?_)
          · refine awp_skip ?_
            refine awp_seq ?_
            refine awp_block ?_
            refine awp_region rfl ?_
            refine wpo_mv (a := (eT tk_5 1 (@eU .u8 8) c43)) rfl rfl rfl (o_mv tk rfl (Wk.refl _)) ?_
            refine wpo_mv (a := (eI v22)) rfl rfl rfl (o_mv tk rfl (Wk.refl _)) ?_
            refine wpo_mv (a := (eI c44)) rfl rfl rfl (o_mv tk rfl (Wk.refl _)) ?_
            refine wpo_lt H56 eI rfl rfl rfl (o_ar tk rfl rfl rfl) fun v58 H57 => ?_
            refine wpo_bd H57 eI rfl rfl rfl (fun v60 hv => om_shr tk hv rfl rfl) fun v60 hv60 H59 => ?_
            refine wpo_lt H59 (@eU .u8 8) rfl rfl rfl (o_cv_iu tk td3 td5 rfl rfl) fun v62 H61 => ?_
            refine wpo_lt H61 (@eU .u8 8) rfl rfl rfl (o_or_u tk rfl rfl rfl) fun v64 H63 => ?_
            refine wpo_lt H63 (eF 1 (@eU .u8 8)) rfl rfl rfl (o_c tk false rfl (fun _ => rfl)) fun v66 H65 => ?_
            obtain ⟨v68, hv69, H67⟩ := Option.bind_eq_some_iff.1 H65
            refine wpo_a (av := fun t => eT t 1 (@eU .u8 8) v68) rfl rfl rfl (h_app tk hH 0 hv69 rfl td22 ty5 rfl (by decide) rfl (src_l td22 rfl)) fun tk70 τ hH => ?_
            refine wpo_mv (a := (eT tk70 1 (@eU .u8 8) v68)) rfl rfl rfl (o_as tk rfl (Wk.refl _)) ?_
            refine wpo_nil ?_
            refine awp_region rfl ?_
            refine wpo_mv (a := (eI c44)) rfl rfl rfl (o_mv tk rfl (Wk.refl _)) ?_
            refine wpo_lt H67 eI rfl rfl rfl (o_ar tk rfl rfl rfl) fun v72 H71 => ?_
            refine wpo_mv (a := (eI v72)) rfl rfl rfl (o_as tk rfl (Wk.refl _)) ?_
            refine wpo_nil ?_
            exact ⟨(v68, v72), inj_inl H71, tk70, (wkf_cons (.of_eq rfl) (wkf_cons (.of_eq rfl) (wkf_cons (.of_eq rfl) (wkf_cons (.of_eq rfl) (wkf_cons (.of_eq rfl) (wkf_cons (.of_eq rfl) (wkf_nil _))))))), hH⟩
          · refine awp_exit ?_
            have hz := hy51 _ (inj_inr H56)
            subst hz
            exact ⟨⟨_, inj_inr H56⟩, tk_5, (wkf_cons (.of_eq rfl) (wkf_cons (.of_eq rfl) (wkf_cons (.of_eq rfl) (wkf_cons (.of_eq rfl) (wkf_cons (.of_eq rfl) (wkf_nil _)))))), hH⟩
      · refine awp_loopO (body := fun s => octets_Put_b1 x1 v6 c7 c8 v22 s) hs25 (fun (s : Int) fr τ => ∃ tk_5, WkF fr (fm [(5, (eT tk_5 1 (@eU .u8 8) c7)), (7, (eI v22)), (8, (eI s)), (12, ((eL 1 eI) x1)), (13, (eI v6)), (14, (eI c8))]) ∧ Holds σ [] [tk_5] τ) ⟨tk_5, (wkf_cons (.of_eq rfl) (wkf_cons (.of_eq rfl) (wkf_cons (.of_eq rfl) (wkf_cons (.of_eq rfl) (wkf_cons (.of_eq rfl) (wkf_cons (.of_eq rfl) (wkf_nil _))))))), hH⟩ ?_
        rintro c23 fr τ y27 ⟨tk_5, hfr, hH⟩ hb29 hy30
        have H32 : octets_Put_b1 x1 v6 c7 c8 v22 c23 = some y27 := hb29
        unfold octets_Put_b1 at H32
        refine AWP.fm [(5, (eT tk_5 1 (@eU .u8 8) c7)), (7, (eI v22)), (8, (eI c23)), (12, ((eL 1 eI) x1)), (13, (eI v6)), (14, (eI c8))] hfr ?_
        have hH : Holds σ [] [tk_5] τ := hH
        refine awp_seq ?_
        refine awp_seq ?_
        refine awp_region rfl ?_
        refine wpo_mv (a := (eI v22)) rfl rfl rfl (o_mv tk rfl (Wk.refl _)) ?_
        refine wpo_mv (a := (eI c23)) rfl rfl rfl (o_mv tk rfl (Wk.refl _)) ?_
        refine wpo_lt H32 eI rfl rfl rfl (o_ar tk rfl rfl rfl) fun v34 H33 => ?_
        refine wpo_bd H33 eI rfl rfl rfl (fun v36 hv => om_shr tk hv rfl rfl) fun v36 hv36 H35 => ?_
        refine wpo_lt H35 eB rfl rfl rfl (o_ar tk rfl rfl rfl) fun v38 H37 => ?_
        refine wpo_nil ?_
        refine awp_if H37 rfl (fun H39 => ?_) (fun H39 => ?_)
        · refine awp_skip ?_
          refine awp_block ?_
          refine awp_region rfl ?_
          refine wpo_mv (a := (eI c23)) rfl rfl rfl (o_mv tk rfl (Wk.refl _)) ?_
          refine wpo_lt H39 eI rfl rfl rfl (o_ar tk rfl rfl rfl) fun v41 H40 => ?_
          refine wpo_mv (a := (eI v41)) rfl rfl rfl (o_as tk rfl (Wk.refl _)) ?_
          refine wpo_nil ?_
          exact ⟨v41, inj_inl H40, tk_5, (wkf_cons (.of_eq rfl) (wkf_cons (.of_eq rfl) (wkf_cons (.of_eq rfl) (wkf_cons (.of_eq rfl) (wkf_cons (.of_eq rfl) (wkf_cons (.of_eq rfl) (wkf_nil _))))))), hH⟩
        · refine awp_exit ?_
          have hz := hy30 _ (inj_inr H39)
          subst hz
          exact ⟨⟨_, inj_inr H39⟩, tk_5, (wkf_cons (.of_eq rfl) (wkf_cons (.of_eq rfl) (wkf_cons (.of_eq rfl) (wkf_cons (.of_eq rfl) (wkf_cons (.of_eq rfl) (wkf_cons (.of_eq rfl) (wkf_nil _))))))), hH⟩
    · refine awp_exit ?_
      have hz := hy15 _ (inj_inr H20)
      subst hz
      exact ⟨⟨_, inj_inr H20⟩, tk_5, (wkf_cons (.of_eq rfl) (wkf_nil _)), hH⟩
theorem octets_Put_ok {x0 : List (BitVec 8)} {x1 : List Int} {r : (List (BitVec 8))} (H : octets_Put x0 x1 = some r) (σ : St) : ACall Tryd.prog 60 [((eL 1 (@eU .u8 8)) x0), ((eL 1 eI) x1)] σ (fun a τ => a = (eL 1 (@eU .u8 8)) r ∧ τ = σ) := (octets_Put_app H σ).unapp (fun ρ κ => cutL_enc (enc_u td5 sz5).cut ρ κ r)
end Go.Proofs.YtkmlinaofbcbaaaDoor
namespace Go.Proofs.YtkmlinaofbcbaaaDoor
open Go Go.Va
set_option linter.unusedVariables false
set_option linter.unusedSimpArgs false
set_option maxRecDepth 20000
theorem trouble_New_ok {x0 : List (BitVec 8)} {x1 : Int} {x2 : Int} {r : Err} (H : trouble_New x0 x1 x2 = some r) (σ : St)  : ACall Tryd.prog 71 [(eS x0), (eI x1), (eI x2)] σ (fun a τ => a = eErr r ∧ τ = σ) := by
  unfold trouble_New at H
  refine ACall.pure (acall_start tk Tryd.func71 (by decide) rfl (Nat.le_of_ble_eq_true rfl) ?_)
  have hH := Holds.init σ
  refine awp_seq ?_
  refine awp_region rfl ?_
  refine wpo_mv (a := (eErr Err.nil)) rfl rfl rfl (o_as tk rfl (Wk.refl _)) ?_
  refine wpo_nil ?_
  refine awp_seq ?_
  refine awp_seq ?_
  refine awp_region rfl ?_
  refine wpo_mv (a := (eI x2)) rfl rfl rfl (o_mv tk rfl (Wk.refl _)) ?_
  refine wpo_lt H eB rfl rfl rfl (o_ar tk rfl rfl rfl) fun v2 H1 => ?_
  refine wpo_nil ?_
  refine awp_if H1 rfl (fun H3 => ?_) (fun H3 => ?_)
  · refine awp_seq ?_
    refine awp_region rfl ?_
    refine wpo_mv (a := (eErr Err.nil)) rfl rfl rfl (o_as tk rfl (Wk.refl _)) ?_
    refine wpo_nil ?_
    refine awp_ret ?_
    obtain rfl := Option.some.inj H3
    exact ⟨_, (eErr Err.nil), rfl, (.of_eq rfl), .of_eq (encErr.cut _ _ _), hH.noT⟩
  · refine awp_skip ?_
    refine awp_seq ?_
    refine awp_region rfl ?_
    refine wpo_mv (a := (eS x0)) rfl rfl rfl (o_mv tk rfl (Wk.refl _)) ?_
    refine wpo_mv (a := (eI x1)) rfl rfl rfl (o_mv tk rfl (Wk.refl _)) ?_
    refine wpo_mv (a := (eI x2)) rfl rfl rfl (o_mv tk rfl (Wk.refl _)) ?_
    refine wpo_lt H3 e_trouble_fault rfl rfl rfl (o_c tk false rfl (fun _ => rfl)) fun v5 H4 => ?_
    refine wpo_mv (a := (.fptr (c_trouble_fault v5) 0)) rfl rfl rfl (o_boxf tk rfl (.of_eq rfl) (b := (e_trouble_fault v5)) (enc113.flat _)) ?_
    refine wpo_mv (a := (eErr (Err.fault v5.op v5.at_ v5.code v5.under))) rfl rfl rfl (o_c tk false rfl (fun _ => rfl)) ?_
    refine wpo_mv (a := (eErr (Err.fault v5.op v5.at_ v5.code v5.under))) rfl rfl rfl (o_as tk rfl (Wk.refl _)) ?_
    refine wpo_nil ?_
    refine awp_ret ?_
    obtain rfl := Option.some.inj H4
    exact ⟨_, (eErr (Err.fault v5.op v5.at_ v5.code v5.under)), rfl, (.of_eq rfl), .of_eq (encErr.cut _ _ _), hH.noT⟩
end Go.Proofs.YtkmlinaofbcbaaaDoor
namespace Go.Proofs.YtkmlinaofbcbaaaDoor
open Go Go.Va
set_option linter.unusedVariables false
set_option linter.unusedSimpArgs false
set_option maxRecDepth 20000
theorem region_Check_ok {x0 : api_Foot} {r : Err} (H : region_Check x0 = some r) (σ : St)  : ACall Tryd.prog 93 [(e_api_Foot x0)] σ (fun a τ => a = eErr r ∧ τ = σ) := by
  unfold region_Check at H
  refine ACall.pure (acall_start tk Tryd.func93 (by decide) rfl (Nat.le_of_ble_eq_true rfl) ?_)
  have hH := Holds.init σ
  refine awp_seq ?_
  refine awp_region rfl ?_
  refine wpo_mv (a := (.fptr (c_api_Foot x0) 0)) rfl rfl rfl (o_boxf tk rfl (.of_eq rfl) (b := (e_api_Foot x0)) (enc53.flat _)) ?_
  refine wpo_mv (a := (eErr Err.nil)) rfl rfl rfl (o_as tk rfl (Wk.refl _)) ?_
  refine wpo_nil ?_
  refine awp_seq ?_
  refine awp_block ?_
  refine awp_seq ?_
  obtain ⟨s1, hs3, hj4⟩ := Option.bind_eq_some_iff.1 H
  refine awp_cutn (fun fr τ => WkF fr (fm [(1, (.fptr (c_api_Foot x0) 0)), (6, (eB s1))]) ∧ Holds σ [] [] τ) ?_ ?_
  · rintro fr τ ⟨hfr, hH⟩
    have H10 := hj4
    refine AWP.fm [(1, (.fptr (c_api_Foot x0) 0)), (6, (eB s1))] hfr ?_
    refine awp_if H10 rfl (fun H11 => ?_) (fun H11 => ?_)
    · refine awp_seq ?_
      refine awp_region rfl ?_
      refine wpo_mv (a := (.fptr (c_api_Foot x0) 0)) rfl rfl rfl (o_c tk false rfl (fun _ => rfl)) ?_
      refine wpo_mv (a := (eI x0.Seq)) rfl rfl rfl (o_ld tk rfl rfl) ?_
      refine wpo_bd H11 eErr rfl rfl rfl (fun v13 hv => OpP.of_call rfl rfl (.cons (.of_eq rfl) (.cons (.of_eq rfl) (.cons (.of_eq rfl) .nil))) (trouble_New_ok hv)) fun v13 hv13 H12 => ?_
      refine wpo_mv (a := (eErr v13)) rfl rfl rfl (o_as tk rfl (Wk.refl _)) ?_
      refine wpo_nil ?_
      refine awp_ret ?_
      obtain rfl := Option.some.inj H12
      exact ⟨_, (eErr v13), rfl, (.of_eq rfl), .of_eq (encErr.cut _ _ _), hH.noT⟩
    · refine awp_seq ?_
      obtain ⟨s14, hs16, hj17⟩ := Option.bind_eq_some_iff.1 H11
      refine awp_cutn (fun fr τ => WkF fr (fm [(1, (.fptr (c_api_Foot x0) 0)), (18, (eB s14))]) ∧ Holds σ [] [] τ) ?_ ?_
      · rintro fr τ ⟨hfr, hH⟩
        have H23 := hj17
        refine AWP.fm [(1, (.fptr (c_api_Foot x0) 0)), (18, (eB s14))] hfr ?_
        refine awp_if H23 rfl (fun H24 => ?_) (fun H24 => ?_)
        · refine awp_seq ?_
          refine awp_region rfl ?_
          refine wpo_mv (a := (.fptr (c_api_Foot x0) 1)) rfl rfl rfl (o_c tk false rfl (fun _ => rfl)) ?_
          refine wpo_mv (a := (eI x0.Bytes)) rfl rfl rfl (o_ld tk rfl rfl) ?_
          refine wpo_bd H24 eErr rfl rfl rfl (fun v26 hv => OpP.of_call rfl rfl (.cons (.of_eq rfl) (.cons (.of_eq rfl) (.cons (.of_eq rfl) .nil))) (trouble_New_ok hv)) fun v26 hv26 H25 => ?_
          refine wpo_mv (a := (eErr v26)) rfl rfl rfl (o_as tk rfl (Wk.refl _)) ?_
          refine wpo_nil ?_
          refine awp_ret ?_
          obtain rfl := Option.some.inj H25
          exact ⟨_, (eErr v26), rfl, (.of_eq rfl), .of_eq (encErr.cut _ _ _), hH.noT⟩
        · refine awp_seq ?_
          obtain ⟨s27, hs29, hj30⟩ := Option.bind_eq_some_iff.1 H24
          refine awp_cutn (fun fr τ => WkF fr (fm [(1, (.fptr (c_api_Foot x0) 0)), (30, (eB s27))]) ∧ Holds σ [] [] τ) ?_ ?_
          · rintro fr τ ⟨hfr, hH⟩
            have H36 := hj30
            refine AWP.fm [(1, (.fptr (c_api_Foot x0) 0)), (30, (eB s27))] hfr ?_
            refine awp_if H36 rfl (fun H37 => ?_) (fun H37 => ?_)
            · refine awp_seq ?_
              refine awp_region rfl ?_
              refine wpo_mv (a := (.fptr (c_api_Foot x0) 2)) rfl rfl rfl (o_c tk false rfl (fun _ => rfl)) ?_
              refine wpo_mv (a := (eI x0.Count)) rfl rfl rfl (o_ld tk rfl rfl) ?_
              refine wpo_bd H37 eErr rfl rfl rfl (fun v39 hv => OpP.of_call rfl rfl (.cons (.of_eq rfl) (.cons (.of_eq rfl) (.cons (.of_eq rfl) .nil))) (trouble_New_ok hv)) fun v39 hv39 H38 => ?_
              refine wpo_mv (a := (eErr v39)) rfl rfl rfl (o_as tk rfl (Wk.refl _)) ?_
              refine wpo_nil ?_
              refine awp_ret ?_
              obtain rfl := Option.some.inj H38
              exact ⟨_, (eErr v39), rfl, (.of_eq rfl), .of_eq (encErr.cut _ _ _), hH.noT⟩
            · refine awp_skip ?_
              refine awp_seq ?_
              refine awp_region rfl ?_
              refine wpo_mv (a := (eI (-1 : Int))) rfl rfl rfl (o_as tk rfl (Wk.refl _)) ?_
              refine wpo_nil ?_
              refine awp_seq ?_
              refine awp_seq ?_
              refine awp_region rfl ?_
              refine wpo_mv (a := (.fptr (c_api_Foot x0) 3)) rfl rfl rfl (o_c tk false rfl (fun _ => rfl)) ?_
              refine wpo_mv (a := ((eL 1 eI) x0.Dead)) rfl rfl rfl (o_ld tk rfl rfl) ?_
              refine wpo_lt H37 eI rfl rfl rfl (o_len tk td51 rfl) fun v41 H40 => ?_
              refine wpo_mv (a := (eI (0 : Int))) rfl rfl rfl (o_mv tk rfl (Wk.refl _)) ?_
              refine wpo_nil ?_
              refine awp_block ?_
              obtain ⟨o44, hs45, hj46⟩ := Option.bind_eq_some_iff.1 H40
              refine awp_cutx 1 (fun fr τ => ∃ s51 : Unit, o44 = .inl s51 ∧ WkF fr (fm []) ∧ Holds σ [] [] τ) ?_ ?_
              · rintro fr τ ⟨s51, rfl, hfr, hH⟩
                have H74 := hj46
                simp only [Sum.elim_inl] at H74
                refine AWP.fm [] hfr ?_
                refine awp_seq ?_
                refine awp_region rfl ?_
                refine wpo_mv (a := (eErr Err.nil)) rfl rfl rfl (o_as tk rfl (Wk.refl _)) ?_
                refine wpo_nil ?_
                refine awp_ret ?_
                obtain rfl := Option.some.inj H74
                exact ⟨_, (eErr Err.nil), rfl, (.of_eq rfl), .of_eq (encErr.cut _ _ _), hH.noT⟩
              · refine awp_loopO (body := fun s => region_Check_b0 x0 v41 s.1 s.2) hs45 (fun (s : Int × Int) fr τ => WkF fr (fm [(1, (.fptr (c_api_Foot x0) 0)), (3, (eI s.1)), (43, ((eL 1 eI) x0.Dead)), (44, (eI v41)), (45, (eI s.2))]) ∧ Holds σ [] [] τ) ⟨(wkf_cons (.of_eq rfl) (wkf_cons (.of_eq rfl) (wkf_cons (.of_eq rfl) (wkf_cons (.of_eq rfl) (wkf_cons (.of_eq rfl) (wkf_nil _)))))), hH⟩ ?_
                rintro ⟨c42, c43⟩ fr τ y47 ⟨hfr, hH⟩ hb49 hy50
                have H52 : region_Check_b0 x0 v41 c42 c43 = some y47 := hb49
                unfold region_Check_b0 at H52
                refine AWP.fm [(1, (.fptr (c_api_Foot x0) 0)), (3, (eI c42)), (43, ((eL 1 eI) x0.Dead)), (44, (eI v41)), (45, (eI c43))] hfr ?_
                have hH : Holds σ [] [] τ := hH
                refine awp_seq ?_
                refine awp_region rfl ?_
                refine wpo_lt H52 eB rfl rfl rfl (o_ar tk rfl rfl rfl) fun v54 H53 => ?_
                refine wpo_nil ?_
                refine awp_seq ?_
                refine awp_if H53 rfl (fun H55 => ?_) (fun H55 => ?_)
                · refine awp_skip ?_
                  refine awp_seq ?_
                  refine awp_block ?_
                  refine awp_seq ?_
                  refine awp_region rfl ?_
                  refine wpo_mv (a := (eI c43)) rfl rfl rfl (o_mv tk rfl (Wk.refl _)) ?_
                  refine wpo_bd H55 (fun y => .fptr (eI y).cells 0) rfl rfl rfl (fun v57 hv => o_ixa tk hv td51 (enc_i64 td3 sz3) rfl rfl) fun v57 hv57 H56 => ?_
                  refine wpo_mv (a := (eI v57)) rfl rfl rfl (o_ld_e tk (enc_i64 td3 sz3) rfl rfl) ?_
                  refine wpo_mv (a := (eI c43)) rfl rfl rfl (o_as tk rfl (Wk.refl _)) ?_
                  refine wpo_mv (a := (eI v57)) rfl rfl rfl (o_as tk rfl (Wk.refl _)) ?_
                  refine wpo_nil ?_
                  refine awp_seq ?_
                  refine awp_seq ?_
                  obtain ⟨s58, hs60, hj61⟩ := Option.bind_eq_some_iff.1 H56
                  refine awp_cutn (fun fr τ => WkF fr (fm [(1, (.fptr (c_api_Foot x0) 0)), (4, (eI c43)), (5, (eI v57)), (43, ((eL 1 eI) x0.Dead)), (44, (eI v41)), (45, (eI c43)), (58, (eB s58))]) ∧ Holds σ [] [] τ) ?_ ?_
                  · rintro fr τ ⟨hfr, hH⟩
                    have H67 := hj61
                    refine AWP.fm [(1, (.fptr (c_api_Foot x0) 0)), (4, (eI c43)), (5, (eI v57)), (43, ((eL 1 eI) x0.Dead)), (44, (eI v41)), (45, (eI c43)), (58, (eB s58))] hfr ?_
                    refine awp_if H67 rfl (fun H68 => ?_) (fun H68 => ?_)
                    · refine awp_seq ?_
                      refine awp_region rfl ?_
                      refine wpo_mv (a := (eI c43)) rfl rfl rfl (o_mv tk rfl (Wk.refl _)) ?_
                      refine wpo_bd H68 eErr rfl rfl rfl (fun v70 hv => OpP.of_call rfl rfl (.cons (.of_eq rfl) (.cons (.of_eq rfl) (.cons (.of_eq rfl) .nil))) (trouble_New_ok hv)) fun v70 hv70 H69 => ?_
                      refine wpo_mv (a := (eErr v70)) rfl rfl rfl (o_as tk rfl (Wk.refl _)) ?_
                      refine wpo_nil ?_
                      refine awp_ret ?_
                      have hz := hy50 _ (inj_inr H69)
                      refine ⟨⟨_, inj_inr H69⟩, ?_⟩
                      rw [← hz] at hj46
                      have H71 := (show some _ = some _ from hj46)
                      obtain rfl := Option.some.inj H71
                      exact ⟨_, (eErr v70), rfl, (.of_eq rfl), .of_eq (encErr.cut _ _ _), hH.noT⟩
                    · refine awp_skip ?_
                      refine awp_region rfl ?_
                      refine wpo_mv (a := (eI v57)) rfl rfl rfl (o_mv tk rfl (Wk.refl _)) ?_
                      refine wpo_mv (a := (eI v57)) rfl rfl rfl (o_as tk rfl (Wk.refl _)) ?_
                      refine wpo_nil ?_
                      refine awp_region rfl ?_
                      refine wpo_lt H68 eI rfl rfl rfl (o_ar tk rfl rfl rfl) fun v73 H72 => ?_
                      refine wpo_mv (a := (eI v73)) rfl rfl rfl (o_mv tk rfl (Wk.refl _)) ?_
                      refine wpo_nil ?_
                      exact ⟨(v57, v73), inj_inl H72, (wkf_cons (.of_eq rfl) (wkf_cons (.of_eq rfl) (wkf_cons (.of_eq rfl) (wkf_cons (.of_eq rfl) (wkf_cons (.of_eq rfl) (wkf_nil _)))))), hH⟩
                  · refine awp_region rfl ?_
                    refine wpo_mv (a := (eI v57)) rfl rfl rfl (o_mv tk rfl (Wk.refl _)) ?_
                    refine wpo_mv (a := (eI c42)) rfl rfl rfl (o_mv tk rfl (Wk.refl _)) ?_
                    refine wpo_lt hs60 eB rfl rfl rfl (o_ar tk rfl rfl rfl) fun v63 H62 => ?_
                    refine wpo_mv (a := (eB v63)) rfl rfl rfl (o_mv tk rfl (Wk.refl _)) ?_
                    refine if_split H62 (fun hb H64 => ?_) (fun hb H64 => ?_)
                    · subst hb
                      refine wpo_skip rfl rfl rfl ?_
                      refine wpo_skip rfl rfl rfl ?_
                      refine wpo_skip rfl rfl rfl ?_
                      refine wpo_skip rfl rfl rfl ?_
                      refine wpo_mv (a := (eB true)) rfl rfl rfl (o_pick_t tk rfl rfl (Wk.refl _)) ?_
                      refine wpo_nil ?_
                      have e := Option.some.inj H64
                      subst e
                      exact ⟨(wkf_cons (.of_eq rfl) (wkf_cons (.of_eq rfl) (wkf_cons (.of_eq rfl) (wkf_cons (.of_eq rfl) (wkf_cons (.of_eq rfl) (wkf_cons (.of_eq rfl) (wkf_cons (.of_eq rfl) (wkf_nil _)))))))), hH⟩
                    · subst hb
                      refine wpo_mv (a := (eI v57)) rfl rfl rfl (o_mv tk rfl (Wk.refl _)) ?_
                      refine wpo_mv (a := (.fptr (c_api_Foot x0) 2)) rfl rfl rfl (o_c tk false rfl (fun _ => rfl)) ?_
                      refine wpo_mv (a := (eI x0.Count)) rfl rfl rfl (o_ld tk rfl rfl) ?_
                      refine wpo_lt H64 eB rfl rfl rfl (o_ar tk rfl rfl rfl) fun v66 H65 => ?_
                      refine wpo_mv (a := (eB v66)) rfl rfl rfl (o_pick_f tk rfl rfl (Wk.refl _)) ?_
                      refine wpo_nil ?_
                      have e := Option.some.inj H65
                      subst e
                      exact ⟨(wkf_cons (.of_eq rfl) (wkf_cons (.of_eq rfl) (wkf_cons (.of_eq rfl) (wkf_cons (.of_eq rfl) (wkf_cons (.of_eq rfl) (wkf_cons (.of_eq rfl) (wkf_cons (.of_eq rfl) (wkf_nil _)))))))), hH⟩
                · refine awp_exit ?_
                  have hz := hy50 _ (inj_inr H55)
                  exact ⟨⟨_, inj_inr H55⟩, (), hz.symm, (wkf_nil _), hH⟩
          · refine awp_region rfl ?_
            refine wpo_mv (a := (.fptr (c_api_Foot x0) 2)) rfl rfl rfl (o_c tk false rfl (fun _ => rfl)) ?_
            refine wpo_mv (a := (eI x0.Count)) rfl rfl rfl (o_ld tk rfl rfl) ?_
            refine wpo_lt hs29 eB rfl rfl rfl (o_ar tk rfl rfl rfl) fun v32 H31 => ?_
            refine wpo_mv (a := (eB v32)) rfl rfl rfl (o_mv tk rfl (Wk.refl _)) ?_
            refine if_split H31 (fun hb H33 => ?_) (fun hb H33 => ?_)
            · subst hb
              refine wpo_skip rfl rfl rfl ?_
              refine wpo_skip rfl rfl rfl ?_
              refine wpo_skip rfl rfl rfl ?_
              refine wpo_mv (a := (eB true)) rfl rfl rfl (o_pick_t tk rfl rfl (Wk.refl _)) ?_
              refine wpo_mv (a := (eB true)) rfl rfl rfl (o_as tk rfl (Wk.refl _)) ?_
              refine wpo_nil ?_
              have e := Option.some.inj H33
              subst e
              exact ⟨(wkf_cons (.of_eq rfl) (wkf_cons (.of_eq rfl) (wkf_nil _))), hH⟩
            · subst hb
              refine wpo_mv (a := (.fptr (c_api_Foot x0) 2)) rfl rfl rfl (o_c tk false rfl (fun _ => rfl)) ?_
              refine wpo_mv (a := (eI x0.Count)) rfl rfl rfl (o_ld tk rfl rfl) ?_
              refine wpo_lt H33 eB rfl rfl rfl (o_ar tk rfl rfl rfl) fun v35 H34 => ?_
              refine wpo_mv (a := (eB v35)) rfl rfl rfl (o_pick_f tk rfl rfl (Wk.refl _)) ?_
              refine wpo_mv (a := (eB v35)) rfl rfl rfl (o_as tk rfl (Wk.refl _)) ?_
              refine wpo_nil ?_
              have e := Option.some.inj H34
              subst e
              exact ⟨(wkf_cons (.of_eq rfl) (wkf_cons (.of_eq rfl) (wkf_nil _))), hH⟩
      · refine awp_region rfl ?_
        refine wpo_mv (a := (.fptr (c_api_Foot x0) 1)) rfl rfl rfl (o_c tk false rfl (fun _ => rfl)) ?_
        refine wpo_mv (a := (eI x0.Bytes)) rfl rfl rfl (o_ld tk rfl rfl) ?_
        refine wpo_lt hs16 eB rfl rfl rfl (o_ar tk rfl rfl rfl) fun v19 H18 => ?_
        refine wpo_mv (a := (eB v19)) rfl rfl rfl (o_mv tk rfl (Wk.refl _)) ?_
        refine if_split H18 (fun hb H20 => ?_) (fun hb H20 => ?_)
        · subst hb
          refine wpo_skip rfl rfl rfl ?_
          refine wpo_skip rfl rfl rfl ?_
          refine wpo_skip rfl rfl rfl ?_
          refine wpo_mv (a := (eB true)) rfl rfl rfl (o_pick_t tk rfl rfl (Wk.refl _)) ?_
          refine wpo_mv (a := (eB true)) rfl rfl rfl (o_as tk rfl (Wk.refl _)) ?_
          refine wpo_nil ?_
          have e := Option.some.inj H20
          subst e
          exact ⟨(wkf_cons (.of_eq rfl) (wkf_cons (.of_eq rfl) (wkf_nil _))), hH⟩
        · subst hb
          refine wpo_mv (a := (.fptr (c_api_Foot x0) 1)) rfl rfl rfl (o_c tk false rfl (fun _ => rfl)) ?_
          refine wpo_mv (a := (eI x0.Bytes)) rfl rfl rfl (o_ld tk rfl rfl) ?_
          refine wpo_lt H20 eB rfl rfl rfl (o_ar tk rfl rfl rfl) fun v22 H21 => ?_
          refine wpo_mv (a := (eB v22)) rfl rfl rfl (o_pick_f tk rfl rfl (Wk.refl _)) ?_
          refine wpo_mv (a := (eB v22)) rfl rfl rfl (o_as tk rfl (Wk.refl _)) ?_
          refine wpo_nil ?_
          have e := Option.some.inj H21
          subst e
          exact ⟨(wkf_cons (.of_eq rfl) (wkf_cons (.of_eq rfl) (wkf_nil _))), hH⟩
  · refine awp_region rfl ?_
    refine wpo_mv (a := (.fptr (c_api_Foot x0) 0)) rfl rfl rfl (o_c tk false rfl (fun _ => rfl)) ?_
    refine wpo_mv (a := (eI x0.Seq)) rfl rfl rfl (o_ld tk rfl rfl) ?_
    refine wpo_lt hs3 eB rfl rfl rfl (o_ar tk rfl rfl rfl) fun v6 H5 => ?_
    refine wpo_mv (a := (eB v6)) rfl rfl rfl (o_mv tk rfl (Wk.refl _)) ?_
    refine if_split H5 (fun hb H7 => ?_) (fun hb H7 => ?_)
    · subst hb
      refine wpo_skip rfl rfl rfl ?_
      refine wpo_skip rfl rfl rfl ?_
      refine wpo_skip rfl rfl rfl ?_
      refine wpo_mv (a := (eB true)) rfl rfl rfl (o_pick_t tk rfl rfl (Wk.refl _)) ?_
      refine wpo_mv (a := (eB true)) rfl rfl rfl (o_as tk rfl (Wk.refl _)) ?_
      refine wpo_nil ?_
      have e := Option.some.inj H7
      subst e
      exact ⟨(wkf_cons (.of_eq rfl) (wkf_cons (.of_eq rfl) (wkf_nil _))), hH⟩
    · subst hb
      refine wpo_mv (a := (.fptr (c_api_Foot x0) 0)) rfl rfl rfl (o_c tk false rfl (fun _ => rfl)) ?_
      refine wpo_mv (a := (eI x0.Seq)) rfl rfl rfl (o_ld tk rfl rfl) ?_
      refine wpo_lt H7 eB rfl rfl rfl (o_ar tk rfl rfl rfl) fun v9 H8 => ?_
      refine wpo_mv (a := (eB v9)) rfl rfl rfl (o_pick_f tk rfl rfl (Wk.refl _)) ?_
      refine wpo_mv (a := (eB v9)) rfl rfl rfl (o_as tk rfl (Wk.refl _)) ?_
      refine wpo_nil ?_
      have e := Option.some.inj H8
      subst e
      exact ⟨(wkf_cons (.of_eq rfl) (wkf_cons (.of_eq rfl) (wkf_nil _))), hH⟩
end Go.Proofs.YtkmlinaofbcbaaaDoor
namespace Go.Proofs.YtkmlinaofbcbaaaDoor
open Go Go.Va
set_option linter.unusedVariables false
set_option linter.unusedSimpArgs false
set_option maxRecDepth 20000
theorem region_Put_ok {x0 : api_Foot} {r : (List (BitVec 8)) × Err} (H : region_Put x0 = some r) (σ : St)  : ACall Tryd.prog 27 [(e_api_Foot x0)] σ (fun a τ => a = .tup [(eL 1 (@eU .u8 8)) r.1, eErr r.2] ∧ τ = σ) := by
  unfold region_Put at H
  refine ACall.pure (acall_start tk Tryd.func27 (by decide) rfl (Nat.le_of_ble_eq_true rfl) ?_)
  have hH := Holds.init σ
  refine awp_seq ?_
  refine awp_region rfl ?_
  refine wpo_mv (a := (.fptr (c_api_Foot x0) 0)) rfl rfl rfl (o_boxf tk rfl (.of_eq rfl) (b := (e_api_Foot x0)) (enc53.flat _)) ?_
  refine wpo_mv (a := AV.nils) rfl rfl rfl (o_as tk rfl (Wk.refl _)) ?_
  refine wpo_mv (a := (eErr Err.nil)) rfl rfl rfl (o_as tk rfl (Wk.refl _)) ?_
  refine wpo_nil ?_
  refine awp_seq ?_
  refine awp_seq ?_
  refine awp_region rfl ?_
  refine wpo_mv (a := (e_api_Foot x0)) rfl rfl rfl (o_ld tk rfl rfl) ?_
  refine wpo_bd H eErr rfl rfl rfl (fun v2 hv => OpP.of_call rfl rfl (.cons (.of_eq rfl) .nil) (region_Check_ok hv)) fun v2 hv2 H1 => ?_
  refine wpo_mv (a := (eErr v2)) rfl rfl rfl (o_as tk rfl (Wk.refl _)) ?_
  refine wpo_nil ?_
  refine awp_seq ?_
  refine awp_region rfl ?_
  refine wpo_mv (a := (eErr v2)) rfl rfl rfl (o_mv tk rfl (Wk.refl _)) ?_
  refine wpo_lt H1 eB rfl rfl rfl (o_err_neq tk rfl rfl rfl) fun v4 H3 => ?_
  refine wpo_nil ?_
  refine awp_if H3 rfl (fun H5 => ?_) (fun H5 => ?_)
  · refine awp_seq ?_
    refine awp_region rfl ?_
    refine wpo_mv (a := (.fptr (c_api_Foot x0) 0)) rfl rfl rfl (o_c tk false rfl (fun _ => rfl)) ?_
    refine wpo_mv (a := (eI x0.Seq)) rfl rfl rfl (o_ld tk rfl rfl) ?_
    refine wpo_mv (a := (eErr v2)) rfl rfl rfl (o_mv tk rfl (Wk.refl _)) ?_
    refine wpo_bd H5 eErr rfl rfl rfl (fun v7 hv => OpP.of_call rfl rfl (.cons (.of_eq rfl) (.cons (.of_eq rfl) (.cons (.of_eq rfl) .nil))) (trouble_Wrap_ok hv)) fun v7 hv7 H6 => ?_
    refine wpo_mv (a := AV.nils) rfl rfl rfl (o_as tk rfl (Wk.refl _)) ?_
    refine wpo_mv (a := (eErr v7)) rfl rfl rfl (o_as tk rfl (Wk.refl _)) ?_
    refine wpo_nil ?_
    refine awp_ret ?_
    obtain rfl := Option.some.inj H6
    exact ⟨_, (.tup [((eL 1 (@eU .u8 8)) []), (eErr v7)]), rfl, (wk_tup (.cons (wk_nils _) (.cons (.of_eq rfl) .nil))), .of_eq (by simp only [cutAV, cutL, (enc_l td22 sz22 (enc_u td5 sz5).cut).cut _ _ _, encErr.cut _ _ _]), hH.noT⟩
  · refine awp_skip ?_
    refine awp_seq ?_
    refine awp_drawS mixed [] rfl (by decide +kernel) rfl rfl ?_
    refine wpdS_mv (a := (.fptr (c_api_Foot x0) 0)) rfl rfl rfl (o_c tk false rfl (fun _ => rfl)) ?_
    refine wpdS_mv (a := (eI x0.Seq)) rfl rfl rfl (o_ld tk rfl rfl) ?_
    refine wpdS_mv (a := (.fptr (c_api_Foot x0) 1)) rfl rfl rfl (o_c tk false rfl (fun _ => rfl)) ?_
    refine wpdS_mv (a := (eI x0.Bytes)) rfl rfl rfl (o_ld tk rfl rfl) ?_
    refine wpdS_mv (a := (.fptr (c_api_Foot x0) 2)) rfl rfl rfl (o_c tk false rfl (fun _ => rfl)) ?_
    refine wpdS_mv (a := (eI x0.Count)) rfl rfl rfl (o_ld tk rfl rfl) ?_
    refine wpdS_lt H5 (eF 1 eI) rfl rfl rfl (o_c tk false rfl (fun _ => rfl)) fun v9 H8 => ?_
    refine wpdS_bd H8 (eL 1 (@eU .u8 8)) rfl rfl rfl (fun v11 hv => OpP.of_call rfl rfl (.cons (wk_nils _) (.cons wk_no .nil)) (octets_Put_ok hv)) fun v11 hv11 H10 => ?_
    refine wpdS_mv (a := (.fptr (c_api_Foot x0) 3)) rfl rfl rfl (o_c tk false rfl (fun _ => rfl)) ?_
    refine wpdS_mv (a := ((eL 1 eI) x0.Dead)) rfl rfl rfl (o_ld tk rfl rfl) ?_
    refine wpdS_bd H10 (eL 1 (@eU .u8 8)) rfl rfl rfl (fun v13 hv => OpP.of_call rfl rfl (.cons (.of_eq rfl) (.cons (.of_eq rfl) .nil)) (octets_Put_ok hv)) fun v13 hv13 H12 => ?_
    refine wpdS_mv (a := ((eL 1 (@eU .u8 8)) v13)) rfl rfl rfl (o_as tk rfl (Wk.refl _)) ?_
    refine wpdS_mv (a := (eErr Err.nil)) rfl rfl rfl (o_as tk rfl (Wk.refl _)) ?_
    refine wpdS_nil ?_
    refine awp_ret ?_
    obtain rfl := Option.some.inj H12
    exact ⟨_, (.tup [((eL 1 (@eU .u8 8)) v13), (eErr Err.nil)]), rfl, (wk_tup (.cons (.of_eq rfl) (.cons (.of_eq rfl) .nil))), .of_eq (by simp only [cutAV, cutL, (enc_l td22 sz22 (enc_u td5 sz5).cut).cut _ _ _, encErr.cut _ _ _]), hH.noT⟩
end Go.Proofs.YtkmlinaofbcbaaaDoor
namespace Go.Proofs.YtkmlinaofbcbaaaDoor
open Go Go.Va
set_option linter.unusedVariables false
set_option linter.unusedSimpArgs false
set_option maxRecDepth 20000
theorem octets_Read_ok {x0 : List (BitVec 8)} {r : octets_Reader} (H : octets_Read x0 = some r) (σ : St)  : ACall Tryd.prog 80 [((eL 1 (@eU .u8 8)) x0)] σ (fun a τ => a = .ref σ.objs.length 0 ∧ τ = ⟨σ.objs ++ [(c_octets_Reader r)], σ.opn, σ.gl⟩) := by
  unfold octets_Read at H
  refine ACall.new (fun ρ κ => c_octets_Reader_cut ρ κ r) (acall_start tk Tryd.func80 (by decide) rfl (Nat.le_of_ble_eq_true rfl) ?_)
  have hH := Holds.init σ
  refine awp_seq ?_
  refine awp_region rfl ?_
  refine wpo_mv (a := .nilp) rfl rfl rfl (o_as tk rfl (Wk.refl _)) ?_
  refine wpo_nil ?_
  refine awp_seq ?_
  refine awp_region rfl ?_
  refine wpo_mv (a := (eF 1 (@eU .u8 8) ([] : List (BitVec 8)))) rfl rfl rfl (o_c tk false rfl (fun _ => rfl)) ?_
  refine wpo_mv (a := ((eL 1 (@eU .u8 8)) x0)) rfl rfl rfl (o_mv tk rfl (Wk.refl _)) ?_
  obtain ⟨v2, hv3, H1⟩ := Option.bind_eq_some_iff.1 H
  refine wpo_a (av := fun t => eT t 1 (@eU .u8 8) v2) rfl rfl rfl (h_app0 tk hH hv3 td22 ty5 rfl (by decide) (.inr rfl) (src_l td22 rfl)) fun tk4 τ hH => ?_
  refine wpo_lt H1 e_octets_Reader rfl rfl rfl (OpP.wk (wkf_up (t := 5) (a := ((eL 1 (@eU .u8 8)) v2)) wk_no) (o_c tk false rfl (fun _ => rfl))) fun v6 H5 => ?_
  refine wpo_a (av := fun id => .ref id 0) rfl rfl rfl (h_box tk hH rfl (.of_eq rfl) (b := (e_octets_Reader v6)) (enc170.flat _) (c_octets_Reader v6) rfl) fun id7 τ ⟨hH, n8⟩ => ?_
  refine wpo_mv (a := (.ref id7 0)) rfl rfl rfl (o_as tk rfl (Wk.refl _)) ?_
  refine wpo_nil ?_
  refine awp_ret ?_
  obtain rfl := Option.some.inj H5
  exact ⟨_, .ref id7 0, rfl, .of_eq rfl, id7, rfl, n8, hH.noT⟩
end Go.Proofs.YtkmlinaofbcbaaaDoor
namespace Go.Proofs.YtkmlinaofbcbaaaDoor
open Go Go.Va
set_option linter.unusedVariables false
set_option linter.unusedSimpArgs false
set_option maxRecDepth 20000
theorem octets_Reader_Fail_ok {x0 : octets_Reader} {x1 : Int} {r : octets_Reader} (H : octets_Reader_Fail x0 x1 = some r) (σ : St) {p0 : Nat} (h0 : σ.objs[p0]? = some (c_octets_Reader x0)) : ACall Tryd.prog 123 [(.ref p0 0), (eI x1)] σ (fun a τ => a = .tup [] ∧ τ = σ.puts [(p0, (c_octets_Reader r))]) := by
  unfold octets_Reader_Fail at H
  refine ACall.out [(p0, (c_octets_Reader r))] (by simp only [List.mem_cons, List.not_mem_nil, or_false]; rintro _ (rfl) ρ κ <;> exact c_octets_Reader_cut ρ κ _) (acall_start tk Tryd.func123 (by decide) rfl (Nat.le_of_ble_eq_true rfl) ?_)
  have hH := Holds.init σ
  have hH := hH.bring h0 (fun _ h => by cases h)
  refine awp_seq ?_
  refine awp_region rfl ?_
  refine wpo_mv (a := (.ref p0 0)) rfl rfl rfl (o_mv tk rfl (Wk.refl _)) ?_
  refine wpo_mv (a := (.ref p0 0)) rfl rfl rfl (o_c tk false rfl (fun _ => rfl)) ?_
  refine wpo_mv (a := (.ref p0 2)) rfl rfl rfl (o_c tk false rfl (fun _ => rfl)) ?_
  refine wpo_rd (a := (eI x0.code)) rfl rfl rfl (h_ld tk hH 0 rfl rfl rfl) ?_
  refine wpo_lt H eB rfl rfl rfl (o_ar tk rfl rfl rfl) fun v2 H1 => ?_
  refine wpo_nil ?_
  refine awp_if H1 rfl (fun H3 => ?_) (fun H3 => ?_)
  · refine awp_region rfl ?_
    refine wpo_mv (a := (.ref p0 0)) rfl rfl rfl (o_mv tk rfl (Wk.refl _)) ?_
    refine wpo_mv (a := (eI x1)) rfl rfl rfl (o_mv tk rfl (Wk.refl _)) ?_
    refine wpo_mv (a := (.ref p0 0)) rfl rfl rfl (o_c tk false rfl (fun _ => rfl)) ?_
    refine wpo_mv (a := (.ref p0 2)) rfl rfl rfl (o_c tk false rfl (fun _ => rfl)) ?_
    obtain ⟨c5, hc6, H4⟩ := lt_ex H3
    refine wpo_z rfl rfl (h_st tk hH 0 rfl ty33 (by simp) rfl rfl (.of_eq rfl) (b := (eI x1)) rfl rfl (Nat.le_of_ble_eq_true rfl) (c_octets_Reader c5) (by rw [← hc6]; rfl)) fun τ hH => ?_
    refine wpo_nil ?_
    obtain rfl := Option.some.inj H4
    exact ⟨_, (.tup []), rfl, (.of_eq rfl), .of_eq rfl, hH.noT⟩
  · refine awp_skip ?_
    obtain rfl := Option.some.inj H3
    exact ⟨_, (.tup []), rfl, (.of_eq rfl), .of_eq rfl, hH.noT⟩
end Go.Proofs.YtkmlinaofbcbaaaDoor
namespace Go.Proofs.YtkmlinaofbcbaaaDoor
open Go Go.Va
set_option linter.unusedVariables false
set_option linter.unusedSimpArgs false
set_option maxRecDepth 20000
theorem octets_Reader_Number_ok {x0 : octets_Reader} {x1 : Int} {r : Int × octets_Reader} (H : octets_Reader_Number x0 x1 = some r) (σ : St) {p0 : Nat} (h0 : σ.objs[p0]? = some (c_octets_Reader x0)) : ACall Tryd.prog 81 [(.ref p0 0), (eI x1)] σ (fun a τ => a = eI r.1 ∧ τ = σ.puts [(p0, (c_octets_Reader r.2))]) := by
  unfold octets_Reader_Number at H
  refine ACall.out [(p0, (c_octets_Reader r.2))] (by simp only [List.mem_cons, List.not_mem_nil, or_false]; rintro _ (rfl) ρ κ <;> exact c_octets_Reader_cut ρ κ _) (acall_start tk Tryd.func81 (by decide) rfl (Nat.le_of_ble_eq_true rfl) ?_)
  have hH := Holds.init σ
  have hH := hH.bring h0 (fun _ h => by cases h)
  refine awp_seq ?_
  refine awp_region rfl ?_
  refine wpo_mv (a := (eI (0 : Int))) rfl rfl rfl (o_as tk rfl (Wk.refl _)) ?_
  refine wpo_nil ?_
  refine awp_seq ?_
  refine awp_drawS mixed [] rfl (by decide +kernel) rfl rfl ?_
  refine wpdS_mv (a := (.ref p0 0)) rfl rfl rfl (o_mv tk rfl (Wk.refl _)) ?_
  refine wpdS_mv (a := (.ref p0 0)) rfl rfl rfl (o_c tk false rfl (fun _ => rfl)) ?_
  refine wpdS_mv (a := (.ref p0 1)) rfl rfl rfl (o_c tk false rfl (fun _ => rfl)) ?_
  refine wpdS_rd (a := (eI x0.at_)) rfl (by decide +kernel) rfl rfl (h_ld tk hH 0 rfl rfl rfl) ?_
  refine wpdS_mv (a := (eI (0 : Int))) rfl rfl rfl (o_as tk rfl (Wk.refl _)) ?_
  refine wpdS_mv (a := (eI x0.at_)) rfl rfl rfl (o_as tk rfl (Wk.refl _)) ?_
  refine wpdS_nil ?_
  refine awp_seq ?_
  refine awp_block ?_
  obtain ⟨o4, hs5, hj6⟩ := Option.bind_eq_some_iff.1 H
  refine awp_cutx 0 (fun fr τ => ∃ s11 : octets_Reader, o4 = .inl s11 ∧ WkF fr (fm []) ∧ Holds σ [(p0, (c_octets_Reader s11))] [] τ) ?_ ?_
  · rintro fr τ ⟨s11, rfl, hfr, hH⟩
    have H78 := hj6
    simp only [Sum.elim_inl] at H78
    refine AWP.fm [] hfr ?_
    refine awp_seq ?_
    refine awp_region rfl ?_
    refine wpo_mv (a := (eI (0 : Int))) rfl rfl rfl (o_as tk rfl (Wk.refl _)) ?_
    refine wpo_nil ?_
    refine awp_ret ?_
    obtain rfl := Option.some.inj H78
    exact ⟨_, (eI (0 : Int)), rfl, (.of_eq rfl), .of_eq ((enc_i64 td3 sz3).cut _ _ _), hH.noT⟩
  · refine awp_loopO (body := fun s => octets_Reader_Number_b0 x1 s.1 s.2.1 s.2.2) hs5 (fun (s : Int × Int × octets_Reader) fr τ => WkF fr (fm [(0, (.ref p0 0)), (1, (eI x1)), (5, (eI s.1)), (6, (eI s.2.1))]) ∧ Holds σ [(p0, (c_octets_Reader s.2.2))] [] τ) ⟨(wkf_cons (.of_eq rfl) (wkf_cons (.of_eq rfl) (wkf_cons (.of_eq rfl) (wkf_cons (.of_eq rfl) (wkf_nil _))))), hH⟩ ?_
    rintro ⟨c1, c2, c3⟩ fr τ y7 ⟨hfr, hH⟩ hb9 hy10
    have H12 : octets_Reader_Number_b0 x1 c1 c2 c3 = some y7 := hb9
    unfold octets_Reader_Number_b0 at H12
    refine AWP.fm [(0, (.ref p0 0)), (1, (eI x1)), (5, (eI c1)), (6, (eI c2))] hfr ?_
    have hH : Holds σ [(p0, (c_octets_Reader c3))] [] τ := hH
    refine awp_seq ?_
    refine awp_seq ?_
    refine awp_region rfl ?_
    refine wpo_mv (a := (.ref p0 0)) rfl rfl rfl (o_mv tk rfl (Wk.refl _)) ?_
    refine wpo_mv (a := (.ref p0 0)) rfl rfl rfl (o_c tk false rfl (fun _ => rfl)) ?_
    refine wpo_mv (a := (.ref p0 2)) rfl rfl rfl (o_c tk false rfl (fun _ => rfl)) ?_
    refine wpo_rd (a := (eI c3.code)) rfl rfl rfl (h_ld tk hH 0 rfl rfl rfl) ?_
    refine wpo_lt H12 eB rfl rfl rfl (o_ar tk rfl rfl rfl) fun v14 H13 => ?_
    refine wpo_nil ?_
    refine awp_if H13 rfl (fun H15 => ?_) (fun H15 => ?_)
    · refine awp_skip ?_
      refine awp_block ?_
      refine awp_seq ?_
      refine awp_seq ?_
      refine awp_region rfl ?_
      refine wpo_mv (a := (eI c2)) rfl rfl rfl (o_mv tk rfl (Wk.refl _)) ?_
      refine wpo_mv (a := (.ref p0 0)) rfl rfl rfl (o_mv tk rfl (Wk.refl _)) ?_
      refine wpo_mv (a := (.ref p0 0)) rfl rfl rfl (o_c tk false rfl (fun _ => rfl)) ?_
      refine wpo_mv (a := (.ref p0 0)) rfl rfl rfl (o_c tk false rfl (fun _ => rfl)) ?_
      refine wpo_rd (a := ((eL 1 (@eU .u8 8)) c3.b)) rfl rfl rfl (h_ld tk hH 0 rfl rfl rfl) ?_
      refine wpo_lt H15 eI rfl rfl rfl (o_len tk td22 rfl) fun v17 H16 => ?_
      refine wpo_lt H16 eB rfl rfl rfl (o_ar tk rfl rfl rfl) fun v19 H18 => ?_
      refine wpo_nil ?_
      refine awp_if H18 rfl (fun H20 => ?_) (fun H20 => ?_)
      · refine awp_seq ?_
        refine awp_region rfl ?_
        refine wpo_mv (a := (.ref p0 0)) rfl rfl rfl (o_mv tk rfl (Wk.refl _)) ?_
        refine wpo_cb H20 (fun x _ => .tup []) rfl rfl rfl (fun v22 hv => h_call1 hH [(0, (p0, (c_octets_Reader v22)))] ⟨⟨_, rfl⟩, trivial⟩ rfl rfl (.cons (.of_eq rfl) (.cons (.of_eq rfl) .nil)) (octets_Reader_Fail_ok hv _ (hH.at_ 0 rfl))) fun v22 _ τ hv22 H21 hH => ?_
        refine wpo_nil ?_
        refine awp_exit ?_
        have hz := hy10 _ (inj_inr H21)
        exact ⟨⟨_, inj_inr H21⟩, v22, hz.symm, (wkf_nil _), hH⟩
      · refine awp_skip ?_
        refine awp_seq ?_
        refine awp_region rfl ?_
        refine wpo_mv (a := (.ref p0 0)) rfl rfl rfl (o_mv tk rfl (Wk.refl _)) ?_
        refine wpo_mv (a := (.ref p0 0)) rfl rfl rfl (o_c tk false rfl (fun _ => rfl)) ?_
        refine wpo_mv (a := (.ref p0 0)) rfl rfl rfl (o_c tk false rfl (fun _ => rfl)) ?_
        refine wpo_rd (a := ((eL 1 (@eU .u8 8)) c3.b)) rfl rfl rfl (h_ld tk hH 0 rfl rfl rfl) ?_
        refine wpo_mv (a := (eI c2)) rfl rfl rfl (o_mv tk rfl (Wk.refl _)) ?_
        refine wpo_bd H20 (fun y => .fptr ((@eU .u8 8) y).cells 0) rfl rfl rfl (fun v24 hv => o_ixa tk hv td22 (enc_u td5 sz5) rfl rfl) fun v24 hv24 H23 => ?_
        refine wpo_mv (a := ((@eU .u8 8) v24)) rfl rfl rfl (o_ld_e tk (enc_u td5 sz5) rfl rfl) ?_
        refine wpo_mv (a := ((@eU .u8 8) v24)) rfl rfl rfl (o_as tk rfl (Wk.refl _)) ?_
        refine wpo_nil ?_
        refine awp_seq ?_
        refine awp_region rfl ?_
        refine wpo_mv (a := (eI c2)) rfl rfl rfl (o_mv tk rfl (Wk.refl _)) ?_
        refine wpo_lt H23 eI rfl rfl rfl (o_ar tk rfl rfl rfl) fun v26 H25 => ?_
        refine wpo_mv (a := (eI v26)) rfl rfl rfl (o_as tk rfl (Wk.refl _)) ?_
        refine wpo_nil ?_
        refine awp_block ?_
        refine awp_seq ?_
        obtain ⟨s27, hs29, hj30⟩ := Option.bind_eq_some_iff.1 H25
        refine awp_cutn (fun fr τ => WkF fr (fm [(0, (.ref p0 0)), (1, (eI x1)), (5, (eI c1)), (6, (eI v26)), (7, ((@eU .u8 8) v24)), (50, (eB s27))]) ∧ Holds σ [(p0, (c_octets_Reader c3))] [] τ) ?_ ?_
        · rintro fr τ ⟨hfr, hH⟩
          have H41 := hj30
          refine AWP.fm [(0, (.ref p0 0)), (1, (eI x1)), (5, (eI c1)), (6, (eI v26)), (7, ((@eU .u8 8) v24)), (50, (eB s27))] hfr ?_
          refine awp_if H41 rfl (fun H42 => ?_) (fun H42 => ?_)
          · refine awp_region rfl ?_
            refine wpo_mv (a := (.ref p0 0)) rfl rfl rfl (o_mv tk rfl (Wk.refl _)) ?_
            refine wpo_cb H42 (fun x _ => .tup []) rfl rfl rfl (fun v44 hv => h_call1 hH [(0, (p0, (c_octets_Reader v44)))] ⟨⟨_, rfl⟩, trivial⟩ rfl rfl (.cons (.of_eq rfl) (.cons (.of_eq rfl) .nil)) (octets_Reader_Fail_ok hv _ (hH.at_ 0 rfl))) fun v44 _ τ hv44 H43 hH => ?_
            refine wpo_nil ?_
            exact ⟨(c1, v26, v44), inj_inl H43, (wkf_cons (.of_eq rfl) (wkf_cons (.of_eq rfl) (wkf_cons (.of_eq rfl) (wkf_cons (.of_eq rfl) (wkf_nil _))))), hH⟩
          · refine awp_seq ?_
            refine awp_region rfl ?_
            refine wpo_mv (a := (eI c1)) rfl rfl rfl (o_mv tk rfl (Wk.refl _)) ?_
            refine wpo_mv (a := (eI x1)) rfl rfl rfl (o_mv tk rfl (Wk.refl _)) ?_
            refine wpo_lt H42 eI rfl rfl rfl (o_shr tk (y := (7 : Int)) rfl rfl rfl) fun v46 H45 => ?_
            refine wpo_lt H45 eB rfl rfl rfl (o_ar tk rfl rfl rfl) fun v48 H47 => ?_
            refine wpo_mv (a := (eB v48)) rfl rfl rfl (o_as tk rfl (Wk.refl _)) ?_
            refine wpo_nil ?_
            refine awp_if H47 rfl (fun H49 => ?_) (fun H49 => ?_)
            · refine awp_region rfl ?_
              refine wpo_mv (a := (.ref p0 0)) rfl rfl rfl (o_mv tk rfl (Wk.refl _)) ?_
              refine wpo_cb H49 (fun x _ => .tup []) rfl rfl rfl (fun v51 hv => h_call1 hH [(0, (p0, (c_octets_Reader v51)))] ⟨⟨_, rfl⟩, trivial⟩ rfl rfl (.cons (.of_eq rfl) (.cons (.of_eq rfl) .nil)) (octets_Reader_Fail_ok hv _ (hH.at_ 0 rfl))) fun v51 _ τ hv51 H50 hH => ?_
              refine wpo_nil ?_
              exact ⟨(c1, v26, v51), inj_inl H50, (wkf_cons (.of_eq rfl) (wkf_cons (.of_eq rfl) (wkf_cons (.of_eq rfl) (wkf_cons (.of_eq rfl) (wkf_nil _))))), hH⟩
            · refine awp_seq ?_
              refine awp_region rfl ?_
              refine wpo_mv (a := ((@eU .u8 8) v24)) rfl rfl rfl (o_mv tk rfl (Wk.refl _)) ?_
              refine wpo_lt H49 eB rfl rfl rfl (o_geq_u tk rfl rfl) fun v53 H52 => ?_
              refine wpo_mv (a := (eB v53)) rfl rfl rfl (o_as tk rfl (Wk.refl _)) ?_
              refine wpo_nil ?_
              refine awp_if H52 rfl (fun H54 => ?_) (fun H54 => ?_)
              · refine awp_seq ?_
                refine awp_region rfl ?_
                refine wpo_mv (a := (eI c1)) rfl rfl rfl (o_mv tk rfl (Wk.refl _)) ?_
                refine wpo_lt H54 eI rfl rfl rfl (o_shl tk (y := (7 : Int)) rfl rfl rfl) fun v56 H55 => ?_
                refine wpo_mv (a := ((@eU .u8 8) v24)) rfl rfl rfl (o_mv tk rfl (Wk.refl _)) ?_
                refine wpo_lt H55 (@eU .u8 8) rfl rfl rfl (o_and_u tk rfl rfl rfl) fun v58 H57 => ?_
                refine wpo_lt H57 eI rfl rfl rfl (o_cv_ui tk td5 td3 (by decide) rfl) fun v60 H59 => ?_
                refine wpo_lt H59 eI rfl rfl rfl (o_ar tk rfl rfl rfl) fun v62 H61 => ?_
                refine wpo_mv (a := (eI v62)) rfl rfl rfl (o_as tk rfl (Wk.refl _)) ?_
                refine wpo_nil ?_
                refine awp_exit ?_
                exact ⟨(v62, v26, c3), inj_inl H61, (wkf_cons (.of_eq rfl) (wkf_cons (.of_eq rfl) (wkf_cons (.of_eq rfl) (wkf_cons (.of_eq rfl) (wkf_nil _))))), hH⟩
              · refine awp_seq ?_
                refine awp_seq ?_
                refine awp_region rfl ?_
                refine wpo_mv (a := (eI c1)) rfl rfl rfl (o_mv tk rfl (Wk.refl _)) ?_
                refine wpo_lt H54 eI rfl rfl rfl (o_shl tk (y := (7 : Int)) rfl rfl rfl) fun v64 H63 => ?_
                refine wpo_mv (a := ((@eU .u8 8) v24)) rfl rfl rfl (o_mv tk rfl (Wk.refl _)) ?_
                refine wpo_lt H63 eI rfl rfl rfl (o_cv_ui tk td5 td3 (by decide) rfl) fun v66 H65 => ?_
                refine wpo_lt H65 eI rfl rfl rfl (o_ar tk rfl rfl rfl) fun v68 H67 => ?_
                refine wpo_mv (a := (eI v68)) rfl rfl rfl (o_as tk rfl (Wk.refl _)) ?_
                refine wpo_nil ?_
                refine awp_seq ?_
                refine awp_region rfl ?_
                refine wpo_mv (a := (eI v68)) rfl rfl rfl (o_mv tk rfl (Wk.refl _)) ?_
                refine wpo_mv (a := (eI x1)) rfl rfl rfl (o_mv tk rfl (Wk.refl _)) ?_
                refine wpo_lt H67 eB rfl rfl rfl (o_ar tk rfl rfl rfl) fun v70 H69 => ?_
                refine wpo_nil ?_
                refine awp_if H69 rfl (fun H71 => ?_) (fun H71 => ?_)
                · refine awp_seq ?_
                  refine awp_region rfl ?_
                  refine wpo_mv (a := (.ref p0 0)) rfl rfl rfl (o_mv tk rfl (Wk.refl _)) ?_
                  refine wpo_cb H71 (fun x _ => .tup []) rfl rfl rfl (fun v73 hv => h_call1 hH [(0, (p0, (c_octets_Reader v73)))] ⟨⟨_, rfl⟩, trivial⟩ rfl rfl (.cons (.of_eq rfl) (.cons (.of_eq rfl) .nil)) (octets_Reader_Fail_ok hv _ (hH.at_ 0 rfl))) fun v73 _ τ hv73 H72 hH => ?_
                  refine wpo_nil ?_
                  refine awp_exit ?_
                  exact ⟨(v68, v26, v73), inj_inl H72, (wkf_cons (.of_eq rfl) (wkf_cons (.of_eq rfl) (wkf_cons (.of_eq rfl) (wkf_cons (.of_eq rfl) (wkf_nil _))))), hH⟩
                · refine awp_skip ?_
                  refine awp_seq ?_
                  refine awp_region rfl ?_
                  refine wpo_mv (a := (.ref p0 0)) rfl rfl rfl (o_mv tk rfl (Wk.refl _)) ?_
                  refine wpo_mv (a := (eI v26)) rfl rfl rfl (o_mv tk rfl (Wk.refl _)) ?_
                  refine wpo_mv (a := (.ref p0 0)) rfl rfl rfl (o_c tk false rfl (fun _ => rfl)) ?_
                  refine wpo_mv (a := (.ref p0 1)) rfl rfl rfl (o_c tk false rfl (fun _ => rfl)) ?_
                  obtain ⟨c75, hc76, H74⟩ := lt_ex H71
                  refine wpo_z rfl rfl (h_st tk hH 0 rfl ty3 (by simp) rfl rfl (.of_eq rfl) (b := (eI v26)) rfl rfl (Nat.le_of_ble_eq_true rfl) (c_octets_Reader c75) (by rw [← hc76]; rfl)) fun τ hH => ?_
                  refine wpo_nil ?_
                  refine awp_seq ?_
                  refine awp_region rfl ?_
                  refine wpo_mv (a := (eI v68)) rfl rfl rfl (o_mv tk rfl (Wk.refl _)) ?_
                  refine wpo_mv (a := (eI v68)) rfl rfl rfl (o_as tk rfl (Wk.refl _)) ?_
                  refine wpo_nil ?_
                  refine awp_ret ?_
                  have hz := hy10 _ (inj_inr H74)
                  refine ⟨⟨_, inj_inr H74⟩, ?_⟩
                  rw [← hz] at hj6
                  have H77 := (show some _ = some _ from hj6)
                  obtain rfl := Option.some.inj H77
                  exact ⟨_, (eI v68), rfl, (.of_eq rfl), .of_eq ((enc_i64 td3 sz3).cut _ _ _), hH.noT⟩
        · refine awp_region rfl ?_
          refine wpo_mv (a := ((@eU .u8 8) v24)) rfl rfl rfl (o_mv tk rfl (Wk.refl _)) ?_
          refine wpo_lt hs29 eB rfl rfl rfl (o_eql_u tk rfl rfl) fun v32 H31 => ?_
          refine wpo_mv (a := (eB v32)) rfl rfl rfl (o_mv tk rfl (Wk.refl _)) ?_
          refine if_split H31 (fun hb H33 => ?_) (fun hb H33 => ?_)
          · subst hb
            refine wpo_mv (a := (eI c1)) rfl rfl rfl (o_mv tk rfl (Wk.refl _)) ?_
            refine wpo_lt H33 eB rfl rfl rfl (o_ar tk rfl rfl rfl) fun v35 H34 => ?_
            refine wpo_mv (a := (eB v35)) rfl rfl rfl (o_pick_t tk rfl rfl (Wk.refl _)) ?_
            refine wpo_mv (a := (eB v35)) rfl rfl rfl (o_mv tk rfl (Wk.refl _)) ?_
            refine if_split H34 (fun hb H36 => ?_) (fun hb H36 => ?_)
            · subst hb
              refine wpo_mv (a := (eI v26)) rfl rfl rfl (o_mv tk rfl (Wk.refl _)) ?_
              refine wpo_mv (a := (.ref p0 0)) rfl rfl rfl (o_mv tk rfl (Wk.refl _)) ?_
              refine wpo_mv (a := (.ref p0 0)) rfl rfl rfl (o_c tk false rfl (fun _ => rfl)) ?_
              refine wpo_mv (a := (.ref p0 1)) rfl rfl rfl (o_c tk false rfl (fun _ => rfl)) ?_
              refine wpo_rd (a := (eI c3.at_)) rfl rfl rfl (h_ld tk hH 0 rfl rfl rfl) ?_
              refine wpo_lt H36 eI rfl rfl rfl (o_ar tk rfl rfl rfl) fun v38 H37 => ?_
              refine wpo_lt H37 eB rfl rfl rfl (o_ar tk rfl rfl rfl) fun v40 H39 => ?_
              refine wpo_mv (a := (eB v40)) rfl rfl rfl (o_pick_t tk rfl rfl (Wk.refl _)) ?_
              refine wpo_mv (a := (eB v40)) rfl rfl rfl (o_as tk rfl (Wk.refl _)) ?_
              refine wpo_nil ?_
              have e := Option.some.inj H39
              subst e
              exact ⟨(wkf_cons (.of_eq rfl) (wkf_cons (.of_eq rfl) (wkf_cons (.of_eq rfl) (wkf_cons (.of_eq rfl) (wkf_cons (.of_eq rfl) (wkf_cons (.of_eq rfl) (wkf_nil _))))))), hH⟩
            · subst hb
              refine wpo_skip rfl rfl rfl ?_
              refine wpo_skip rfl rfl rfl ?_
              refine wpo_skip rfl rfl rfl ?_
              refine wpo_skip rfl rfl rfl ?_
              refine wpo_skip rfl rfl rfl ?_
              refine wpo_skip rfl rfl rfl ?_
              refine wpo_skip rfl rfl rfl ?_
              refine wpo_mv (a := (eB false)) rfl rfl rfl (o_pick_f tk rfl rfl (Wk.refl _)) ?_
              refine wpo_mv (a := (eB false)) rfl rfl rfl (o_as tk rfl (Wk.refl _)) ?_
              refine wpo_nil ?_
              have e := Option.some.inj H36
              subst e
              exact ⟨(wkf_cons (.of_eq rfl) (wkf_cons (.of_eq rfl) (wkf_cons (.of_eq rfl) (wkf_cons (.of_eq rfl) (wkf_cons (.of_eq rfl) (wkf_cons (.of_eq rfl) (wkf_nil _))))))), hH⟩
          · subst hb
            refine wpo_skip rfl rfl rfl ?_
            refine wpo_skip rfl rfl rfl ?_
            refine wpo_mv (a := (eB false)) rfl rfl rfl (o_pick_f tk rfl rfl (Wk.refl _)) ?_
            refine wpo_mv (a := (eB false)) rfl rfl rfl (o_mv tk rfl (Wk.refl _)) ?_
            refine wpo_skip rfl rfl rfl ?_
            refine wpo_skip rfl rfl rfl ?_
            refine wpo_skip rfl rfl rfl ?_
            refine wpo_skip rfl rfl rfl ?_
            refine wpo_skip rfl rfl rfl ?_
            refine wpo_skip rfl rfl rfl ?_
            refine wpo_skip rfl rfl rfl ?_
            refine wpo_mv (a := (eB false)) rfl rfl rfl (o_pick_f tk rfl rfl (Wk.refl _)) ?_
            refine wpo_mv (a := (eB false)) rfl rfl rfl (o_as tk rfl (Wk.refl _)) ?_
            refine wpo_nil ?_
            have e := Option.some.inj H33
            subst e
            exact ⟨(wkf_cons (.of_eq rfl) (wkf_cons (.of_eq rfl) (wkf_cons (.of_eq rfl) (wkf_cons (.of_eq rfl) (wkf_cons (.of_eq rfl) (wkf_cons (.of_eq rfl) (wkf_nil _))))))), hH⟩
    · refine awp_exit ?_
      have hz := hy10 _ (inj_inr H15)
      exact ⟨⟨_, inj_inr H15⟩, c3, hz.symm, (wkf_nil _), hH⟩
end Go.Proofs.YtkmlinaofbcbaaaDoor
namespace Go.Proofs.YtkmlinaofbcbaaaDoor
open Go Go.Va
set_option linter.unusedVariables false
set_option linter.unusedSimpArgs false
set_option maxRecDepth 20000
theorem octets_Reader_Code_ok {x0 : octets_Reader} {r : Int} (H : octets_Reader_Code x0 = some r) (σ : St) {p0 : Nat} (h0 : σ.objs[p0]? = some (c_octets_Reader x0)) : ACall Tryd.prog 82 [(.ref p0 0)] σ (fun a τ => a = eI r ∧ τ = σ) := by
  unfold octets_Reader_Code at H
  refine ACall.pure (acall_start tk Tryd.func82 (by decide) rfl (Nat.le_of_ble_eq_true rfl) ?_)
  have hH := Holds.init σ
  have hH := hH.bring h0 (fun _ h => by cases h)
  refine awp_seq ?_
  refine awp_region rfl ?_
  refine wpo_mv (a := (eI (0 : Int))) rfl rfl rfl (o_as tk rfl (Wk.refl _)) ?_
  refine wpo_nil ?_
  refine awp_seq ?_
  refine awp_region rfl ?_
  refine wpo_mv (a := (.ref p0 0)) rfl rfl rfl (o_mv tk rfl (Wk.refl _)) ?_
  refine wpo_mv (a := (.ref p0 0)) rfl rfl rfl (o_c tk false rfl (fun _ => rfl)) ?_
  refine wpo_mv (a := (.ref p0 2)) rfl rfl rfl (o_c tk false rfl (fun _ => rfl)) ?_
  refine wpo_rd (a := (eI x0.code)) rfl rfl rfl (h_ld tk hH 0 rfl rfl rfl) ?_
  refine wpo_mv (a := (eI x0.code)) rfl rfl rfl (o_as tk rfl (Wk.refl _)) ?_
  refine wpo_nil ?_
  refine awp_ret ?_
  obtain rfl := Option.some.inj H
  exact ⟨_, (eI x0.code), rfl, (.of_eq rfl), .of_eq ((enc_i64 td33 sz33).cut _ _ _), (hH.noT.unbring h0)⟩
end Go.Proofs.YtkmlinaofbcbaaaDoor
namespace Go.Proofs.YtkmlinaofbcbaaaDoor
open Go Go.Va
set_option linter.unusedVariables false
set_option linter.unusedSimpArgs false
set_option maxRecDepth 20000
theorem octets_Reader_At_ok {x0 : octets_Reader} {r : Int} (H : octets_Reader_At x0 = some r) (σ : St) {p0 : Nat} (h0 : σ.objs[p0]? = some (c_octets_Reader x0)) : ACall Tryd.prog 85 [(.ref p0 0)] σ (fun a τ => a = eI r ∧ τ = σ) := by
  unfold octets_Reader_At at H
  refine ACall.pure (acall_start tk Tryd.func85 (by decide) rfl (Nat.le_of_ble_eq_true rfl) ?_)
  have hH := Holds.init σ
  have hH := hH.bring h0 (fun _ h => by cases h)
  refine awp_seq ?_
  refine awp_region rfl ?_
  refine wpo_mv (a := (eI (0 : Int))) rfl rfl rfl (o_as tk rfl (Wk.refl _)) ?_
  refine wpo_nil ?_
  refine awp_seq ?_
  refine awp_region rfl ?_
  refine wpo_mv (a := (.ref p0 0)) rfl rfl rfl (o_mv tk rfl (Wk.refl _)) ?_
  refine wpo_mv (a := (.ref p0 0)) rfl rfl rfl (o_c tk false rfl (fun _ => rfl)) ?_
  refine wpo_mv (a := (.ref p0 1)) rfl rfl rfl (o_c tk false rfl (fun _ => rfl)) ?_
  refine wpo_rd (a := (eI x0.at_)) rfl rfl rfl (h_ld tk hH 0 rfl rfl rfl) ?_
  refine wpo_mv (a := (eI x0.at_)) rfl rfl rfl (o_as tk rfl (Wk.refl _)) ?_
  refine wpo_nil ?_
  refine awp_ret ?_
  obtain rfl := Option.some.inj H
  exact ⟨_, (eI x0.at_), rfl, (.of_eq rfl), .of_eq ((enc_i64 td3 sz3).cut _ _ _), (hH.noT.unbring h0)⟩
end Go.Proofs.YtkmlinaofbcbaaaDoor
namespace Go.Proofs.YtkmlinaofbcbaaaDoor
open Go Go.Va
set_option linter.unusedVariables false
set_option linter.unusedSimpArgs false
set_option maxRecDepth 20000
theorem octets_Reader_Left_ok {x0 : octets_Reader} {r : Int} (H : octets_Reader_Left x0 = some r) (σ : St) {p0 : Nat} (h0 : σ.objs[p0]? = some (c_octets_Reader x0)) : ACall Tryd.prog 94 [(.ref p0 0)] σ (fun a τ => a = eI r ∧ τ = σ) := by
  unfold octets_Reader_Left at H
  refine ACall.pure (acall_start tk Tryd.func94 (by decide) rfl (Nat.le_of_ble_eq_true rfl) ?_)
  have hH := Holds.init σ
  have hH := hH.bring h0 (fun _ h => by cases h)
  refine awp_seq ?_
  refine awp_region rfl ?_
  refine wpo_mv (a := (eI (0 : Int))) rfl rfl rfl (o_as tk rfl (Wk.refl _)) ?_
  refine wpo_nil ?_
  refine awp_seq ?_
  refine awp_drawS mixed [] rfl (by decide +kernel) rfl rfl ?_
  refine wpdS_mv (a := (.ref p0 0)) rfl rfl rfl (o_mv tk rfl (Wk.refl _)) ?_
  refine wpdS_mv (a := (.ref p0 0)) rfl rfl rfl (o_c tk false rfl (fun _ => rfl)) ?_
  refine wpdS_mv (a := (.ref p0 0)) rfl rfl rfl (o_c tk false rfl (fun _ => rfl)) ?_
  refine wpdS_rd (a := ((eL 1 (@eU .u8 8)) x0.b)) rfl (by decide +kernel) rfl rfl (h_ld tk hH 0 rfl rfl rfl) ?_
  refine wpdS_lt H eI rfl rfl rfl (o_len tk td22 rfl) fun v2 H1 => ?_
  refine wpdS_mv (a := (.ref p0 0)) rfl rfl rfl (o_mv tk rfl (Wk.refl _)) ?_
  refine wpdS_mv (a := (.ref p0 0)) rfl rfl rfl (o_c tk false rfl (fun _ => rfl)) ?_
  refine wpdS_mv (a := (.ref p0 1)) rfl rfl rfl (o_c tk false rfl (fun _ => rfl)) ?_
  refine wpdS_rd (a := (eI x0.at_)) rfl (by decide +kernel) rfl rfl (h_ld tk hH 0 rfl rfl rfl) ?_
  refine wpdS_lt H1 eI rfl rfl rfl (o_ar tk rfl rfl rfl) fun v4 H3 => ?_
  refine wpdS_mv (a := (eI v4)) rfl rfl rfl (o_as tk rfl (Wk.refl _)) ?_
  refine wpdS_nil ?_
  refine awp_ret ?_
  obtain rfl := Option.some.inj H3
  exact ⟨_, (eI v4), rfl, (.of_eq rfl), .of_eq ((enc_i64 td3 sz3).cut _ _ _), (hH.noT.unbring h0)⟩
end Go.Proofs.YtkmlinaofbcbaaaDoor
namespace Go.Proofs.YtkmlinaofbcbaaaDoor
open Go Go.Va
set_option linter.unusedVariables false
set_option linter.unusedSimpArgs false
set_option maxRecDepth 20000
theorem region_Get_ok {x0 : List (BitVec 8)} {r : api_Foot × Err} (H : region_Get x0 = some r) (σ : St)  : ACall Tryd.prog 28 [((eL 1 (@eU .u8 8)) x0)] σ (fun a τ => a = .tup [e_api_Foot r.1, eErr r.2] ∧ τ = σ) := by
  unfold region_Get at H
  refine ACall.pure (acall_start tk Tryd.func28 (by decide) rfl (Nat.le_of_ble_eq_true rfl) ?_)
  have hH := Holds.init σ
  refine awp_seq ?_
  refine awp_region rfl ?_
  refine wpo_a (av := fun id => .ref id 0) rfl rfl rfl (h_alloc tk hH ty53 [(eI z_api_Foot.Seq), (eI z_api_Foot.Bytes), (eI z_api_Foot.Count), AV.nils] rfl) fun id1 τ ⟨hH, n2⟩ => ?_
  refine wpo_mv (a := (eErr Err.nil)) rfl rfl rfl (o_as tk rfl (Wk.refl _)) ?_
  refine wpo_nil ?_
  refine awp_seq ?_
  refine awp_region rfl ?_
  refine wpo_mv (a := ((eL 1 (@eU .u8 8)) x0)) rfl rfl rfl (o_mv tk rfl (Wk.refl _)) ?_
  refine wpo_cb H (fun _ id => .ref id 0) rfl rfl rfl (fun v4 hv => h_calln hH (c_octets_Reader v4) rfl rfl (.cons (.of_eq rfl) .nil) (octets_Read_ok hv _)) fun v4 id5 τ hv4 H3 ⟨hH, n6⟩ => ?_
  refine wpo_mv (a := (.ref id5 0)) rfl rfl rfl (o_as tk rfl (Wk.refl _)) ?_
  refine wpo_nil ?_
  refine awp_seq ?_
  refine awp_region rfl ?_
  refine wpo_mv (a := (.ref id5 0)) rfl rfl rfl (o_mv tk rfl (Wk.refl _)) ?_
  refine wpo_cb H3 (fun x _ => eI x.1) rfl rfl rfl (fun v8 hv => h_call1 hH [(0, (id5, (c_octets_Reader v8.2)))] ⟨⟨_, rfl⟩, trivial⟩ rfl rfl (.cons (.of_eq rfl) (.cons (.of_eq rfl) .nil)) (octets_Reader_Number_ok hv _ (hH.at_ 0 rfl))) fun v8 _ τ hv8 H7 hH => ?_
  refine wpo_mv (a := (.ref id5 0)) rfl rfl rfl (o_mv tk rfl (Wk.refl _)) ?_
  refine wpo_cb H7 (fun x _ => eI x.1) rfl rfl rfl (fun v10 hv => h_call1 hH [(0, (id5, (c_octets_Reader v10.2)))] ⟨⟨_, rfl⟩, trivial⟩ rfl rfl (.cons (.of_eq rfl) (.cons (.of_eq rfl) .nil)) (octets_Reader_Number_ok hv _ (hH.at_ 0 rfl))) fun v10 _ τ hv10 H9 hH => ?_
  refine wpo_mv (a := (.ref id5 0)) rfl rfl rfl (o_mv tk rfl (Wk.refl _)) ?_
  refine wpo_cb H9 (fun x _ => eI x.1) rfl rfl rfl (fun v12 hv => h_call1 hH [(0, (id5, (c_octets_Reader v12.2)))] ⟨⟨_, rfl⟩, trivial⟩ rfl rfl (.cons (.of_eq rfl) (.cons (.of_eq rfl) .nil)) (octets_Reader_Number_ok hv _ (hH.at_ 0 rfl))) fun v12 _ τ hv12 H11 hH => ?_
  refine wpo_mv (a := (.agg [(eI (⟨v8.1, v10.1, v12.1, ([] : List Int)⟩ : api_Foot).Seq), (eI (⟨v8.1, v10.1, v12.1, ([] : List Int)⟩ : api_Foot).Bytes), (eI (⟨v8.1, v10.1, v12.1, ([] : List Int)⟩ : api_Foot).Count), AV.nils])) rfl rfl rfl (o_c tk false rfl (fun _ => rfl)) ?_
  refine wpo_a (av := fun id => .ref id 0) rfl rfl rfl (h_alloc tk hH ty53 [(eI z_api_Foot.Seq), (eI z_api_Foot.Bytes), (eI z_api_Foot.Count), AV.nils] rfl) fun id13 τ ⟨hH, n14⟩ => ?_
  refine wpo_z rfl rfl (h_st tk hH 0 rfl ty53 (by simp) rfl rfl (.of_eq rfl) (b := (.agg [(eI (⟨v8.1, v10.1, v12.1, ([] : List Int)⟩ : api_Foot).Seq), (eI (⟨v8.1, v10.1, v12.1, ([] : List Int)⟩ : api_Foot).Bytes), (eI (⟨v8.1, v10.1, v12.1, ([] : List Int)⟩ : api_Foot).Count), AV.nils])) rfl rfl (Nat.le_of_ble_eq_true rfl) [(eI ((⟨v8.1, v10.1, v12.1, ([] : List Int)⟩ : api_Foot) : api_Foot).Seq), (eI ((⟨v8.1, v10.1, v12.1, ([] : List Int)⟩ : api_Foot) : api_Foot).Bytes), (eI ((⟨v8.1, v10.1, v12.1, ([] : List Int)⟩ : api_Foot) : api_Foot).Count), AV.nils] rfl) fun τ hH => ?_
  refine wpo_nil ?_
  refine awp_seq ?_
  refine awp_block ?_
  refine AWP.tokO hH 0 rfl (c1 := fun tk18 => [(eI ((⟨v8.1, v10.1, v12.1, ([] : List Int)⟩ : api_Foot) : api_Foot).Seq), (eI ((⟨v8.1, v10.1, v12.1, ([] : List Int)⟩ : api_Foot) : api_Foot).Bytes), (eI ((⟨v8.1, v10.1, v12.1, ([] : List Int)⟩ : api_Foot) : api_Foot).Count), (eT tk18 1 eI ((⟨v8.1, v10.1, v12.1, ([] : List Int)⟩ : api_Foot) : api_Foot).Dead)]) (fun _ => (.same (.same (.same (.tok .nil))))) fun tk18 τ (hH : Holds σ [(id13, [(eI ((⟨v8.1, v10.1, v12.1, ([] : List Int)⟩ : api_Foot) : api_Foot).Seq), (eI ((⟨v8.1, v10.1, v12.1, ([] : List Int)⟩ : api_Foot) : api_Foot).Bytes), (eI ((⟨v8.1, v10.1, v12.1, ([] : List Int)⟩ : api_Foot) : api_Foot).Count), (eT tk18 1 eI ((⟨v8.1, v10.1, v12.1, ([] : List Int)⟩ : api_Foot) : api_Foot).Dead)]), (id5, (c_octets_Reader v12.2)), (id1, [(eI z_api_Foot.Seq), (eI z_api_Foot.Bytes), (eI z_api_Foot.Count), AV.nils])] [tk18] τ) => ?_
  obtain ⟨s26, hs20, hj21⟩ := Option.bind_eq_some_iff.1 H11
  refine awp_cutx 0 (fun fr τ => ∃ tk_id13_Dead, WkF fr (fm [(0, ((eL 1 (@eU .u8 8)) x0)), (2, (.ref id1 0)), (4, (.ref id5 0)), (5, (.ref id13 0))]) ∧ Holds σ [(id13, [(eI s26.1.Seq), (eI s26.1.Bytes), (eI s26.1.Count), (eT tk_id13_Dead 1 eI s26.1.Dead)]), (id5, (c_octets_Reader s26.2)), (id1, [(eI z_api_Foot.Seq), (eI z_api_Foot.Bytes), (eI z_api_Foot.Count), AV.nils])] [tk_id13_Dead] τ) ?_ ?_
  · rintro fr τ ⟨tk_id13_Dead, hfr, hH⟩
    have H52 := hj21
    refine AWP.fm [(0, ((eL 1 (@eU .u8 8)) x0)), (2, (.ref id1 0)), (4, (.ref id5 0)), (5, (.ref id13 0))] hfr ?_
    refine awp_seq ?_
    refine awp_seq ?_
    refine awp_region rfl ?_
    refine wpo_mv (a := (.ref id5 0)) rfl rfl rfl (o_mv tk rfl (Wk.refl _)) ?_
    refine wpo_bdr H52 eI rfl rfl rfl (fun v54 hv => h_callr rfl rfl (.cons (.of_eq rfl) .nil) (octets_Reader_Code_ok hv _ (hH.at_ 1 rfl))) fun v54 hv54 H53 => ?_
    refine wpo_mv (a := (eI v54)) rfl rfl rfl (o_as tk rfl (Wk.refl _)) ?_
    refine wpo_nil ?_
    refine awp_seq ?_
    refine awp_region rfl ?_
    refine wpo_mv (a := (eI v54)) rfl rfl rfl (o_mv tk rfl (Wk.refl _)) ?_
    refine wpo_lt H53 eB rfl rfl rfl (o_ar tk rfl rfl rfl) fun v56 H55 => ?_
    refine wpo_nil ?_
    refine awp_if H55 rfl (fun H57 => ?_) (fun H57 => ?_)
    · refine awp_seq ?_
      refine awp_region rfl ?_
      refine wpo_mv (a := (.agg [(eI (⟨(0 : Int), (0 : Int), (0 : Int), ([] : List Int)⟩ : api_Foot).Seq), (eI (⟨(0 : Int), (0 : Int), (0 : Int), ([] : List Int)⟩ : api_Foot).Bytes), (eI (⟨(0 : Int), (0 : Int), (0 : Int), ([] : List Int)⟩ : api_Foot).Count), AV.nils])) rfl rfl rfl (o_c tk false rfl (fun _ => rfl)) ?_
      refine wpo_mv (a := (.ref id5 0)) rfl rfl rfl (o_mv tk rfl (Wk.refl _)) ?_
      refine wpo_bdr H57 eI rfl rfl rfl (fun v59 hv => h_callr rfl rfl (.cons (.of_eq rfl) .nil) (octets_Reader_At_ok hv _ (hH.at_ 1 rfl))) fun v59 hv59 H58 => ?_
      refine wpo_mv (a := (eI v54)) rfl rfl rfl (o_mv tk rfl (Wk.refl _)) ?_
      refine wpo_bd H58 eErr rfl rfl rfl (fun v61 hv => OpP.of_call rfl rfl (.cons (.of_eq rfl) (.cons (.of_eq rfl) (.cons (.of_eq rfl) .nil))) (trouble_New_ok hv)) fun v61 hv61 H60 => ?_
      refine wpo_z rfl rfl (h_st tk hH 2 rfl ty53 (by simp) rfl rfl (.of_eq rfl) (b := (.agg [(eI (⟨(0 : Int), (0 : Int), (0 : Int), ([] : List Int)⟩ : api_Foot).Seq), (eI (⟨(0 : Int), (0 : Int), (0 : Int), ([] : List Int)⟩ : api_Foot).Bytes), (eI (⟨(0 : Int), (0 : Int), (0 : Int), ([] : List Int)⟩ : api_Foot).Count), AV.nils])) rfl rfl (Nat.le_of_ble_eq_true rfl) [(eI ((⟨(0 : Int), (0 : Int), (0 : Int), ([] : List Int)⟩ : api_Foot) : api_Foot).Seq), (eI ((⟨(0 : Int), (0 : Int), (0 : Int), ([] : List Int)⟩ : api_Foot) : api_Foot).Bytes), (eI ((⟨(0 : Int), (0 : Int), (0 : Int), ([] : List Int)⟩ : api_Foot) : api_Foot).Count), AV.nils] rfl) fun τ hH => ?_
      refine wpo_mv (a := (eErr v61)) rfl rfl rfl (o_as tk rfl (Wk.refl _)) ?_
      refine wpo_nil ?_
      refine awp_ret ?_
      obtain rfl := Option.some.inj H60
      exact ⟨_, (.tup [(e_api_Foot ((⟨(0 : Int), (0 : Int), (0 : Int), ([] : List Int)⟩ : api_Foot) : api_Foot)), (eErr v61)]), (ares_2 (ares_cell hH 2 rfl rfl rfl) rfl), (wk_tup (.cons (wk_agg (.cons (.of_eq rfl) (.cons (.of_eq rfl) (.cons (.of_eq rfl) (.cons (wk_nils _) .nil))))) (.cons (.of_eq rfl) .nil))), .of_eq (by simp only [cutAV, cutL, enc53.cut _ _ _, encErr.cut _ _ _]), (((hH.noT.drop n14).drop n6).drop n2)⟩
    · refine awp_skip ?_
      refine awp_seq ?_
      refine awp_seq ?_
      refine awp_region rfl ?_
      refine wpo_rd (a := (.agg [(eI s26.1.Seq), (eI s26.1.Bytes), (eI s26.1.Count), (eT tk_id13_Dead 1 eI s26.1.Dead)])) rfl rfl rfl (h_ld tk hH 0 rfl rfl rfl) ?_
      refine wpo_bd H57 eErr rfl rfl rfl (fun v64 hv => OpP.of_call rfl rfl (.cons (wk_agg (.cons (.of_eq rfl) (.cons (.of_eq rfl) (.cons (.of_eq rfl) (.cons wk_no .nil))))) .nil) (region_Check_ok hv)) fun v64 hv64 H63 => ?_
      refine wpo_mv (a := (eErr v64)) rfl rfl rfl (o_as tk rfl (Wk.refl _)) ?_
      refine wpo_nil ?_
      refine awp_seq ?_
      refine awp_region rfl ?_
      refine wpo_mv (a := (eErr v64)) rfl rfl rfl (o_mv tk rfl (Wk.refl _)) ?_
      refine wpo_lt H63 eB rfl rfl rfl (o_err_neq tk rfl rfl rfl) fun v66 H65 => ?_
      refine wpo_nil ?_
      refine awp_if H65 rfl (fun H67 => ?_) (fun H67 => ?_)
      · refine awp_seq ?_
        refine awp_region rfl ?_
        refine wpo_mv (a := (.agg [(eI (⟨(0 : Int), (0 : Int), (0 : Int), ([] : List Int)⟩ : api_Foot).Seq), (eI (⟨(0 : Int), (0 : Int), (0 : Int), ([] : List Int)⟩ : api_Foot).Bytes), (eI (⟨(0 : Int), (0 : Int), (0 : Int), ([] : List Int)⟩ : api_Foot).Count), AV.nils])) rfl rfl rfl (o_c tk false rfl (fun _ => rfl)) ?_
        refine wpo_mv (a := ((eL 1 (@eU .u8 8)) x0)) rfl rfl rfl (o_mv tk rfl (Wk.refl _)) ?_
        refine wpo_lt H67 eI rfl rfl rfl (o_len tk td22 rfl) fun v69 H68 => ?_
        refine wpo_mv (a := (eErr v64)) rfl rfl rfl (o_mv tk rfl (Wk.refl _)) ?_
        refine wpo_bd H68 eErr rfl rfl rfl (fun v71 hv => OpP.of_call rfl rfl (.cons (.of_eq rfl) (.cons (.of_eq rfl) (.cons (.of_eq rfl) .nil))) (trouble_Wrap_ok hv)) fun v71 hv71 H70 => ?_
        refine wpo_z rfl rfl (h_st tk hH 2 rfl ty53 (by simp) rfl rfl (.of_eq rfl) (b := (.agg [(eI (⟨(0 : Int), (0 : Int), (0 : Int), ([] : List Int)⟩ : api_Foot).Seq), (eI (⟨(0 : Int), (0 : Int), (0 : Int), ([] : List Int)⟩ : api_Foot).Bytes), (eI (⟨(0 : Int), (0 : Int), (0 : Int), ([] : List Int)⟩ : api_Foot).Count), AV.nils])) rfl rfl (Nat.le_of_ble_eq_true rfl) [(eI ((⟨(0 : Int), (0 : Int), (0 : Int), ([] : List Int)⟩ : api_Foot) : api_Foot).Seq), (eI ((⟨(0 : Int), (0 : Int), (0 : Int), ([] : List Int)⟩ : api_Foot) : api_Foot).Bytes), (eI ((⟨(0 : Int), (0 : Int), (0 : Int), ([] : List Int)⟩ : api_Foot) : api_Foot).Count), AV.nils] rfl) fun τ hH => ?_
        refine wpo_mv (a := (eErr v71)) rfl rfl rfl (o_as tk rfl (Wk.refl _)) ?_
        refine wpo_nil ?_
        refine awp_ret ?_
        obtain rfl := Option.some.inj H70
        exact ⟨_, (.tup [(e_api_Foot ((⟨(0 : Int), (0 : Int), (0 : Int), ([] : List Int)⟩ : api_Foot) : api_Foot)), (eErr v71)]), (ares_2 (ares_cell hH 2 rfl rfl rfl) rfl), (wk_tup (.cons (wk_agg (.cons (.of_eq rfl) (.cons (.of_eq rfl) (.cons (.of_eq rfl) (.cons (wk_nils _) .nil))))) (.cons (.of_eq rfl) .nil))), .of_eq (by simp only [cutAV, cutL, enc53.cut _ _ _, encErr.cut _ _ _]), (((hH.noT.drop n14).drop n6).drop n2)⟩
      · refine awp_skip ?_
        refine awp_seq ?_
        refine awp_region rfl ?_
        refine wpo_rd (a := (.agg [(eI s26.1.Seq), (eI s26.1.Bytes), (eI s26.1.Count), (eT tk_id13_Dead 1 eI s26.1.Dead)])) rfl rfl rfl (h_ld tk hH 0 rfl rfl rfl) ?_
        refine wpo_z rfl rfl (h_st tk hH 2 rfl ty53 (by simp) rfl rfl (.of_eq rfl) (b := (.agg [(eI s26.1.Seq), (eI s26.1.Bytes), (eI s26.1.Count), (eT tk_id13_Dead 1 eI s26.1.Dead)])) rfl rfl (Nat.le_of_ble_eq_true rfl) [(eI (s26.1 : api_Foot).Seq), (eI (s26.1 : api_Foot).Bytes), (eI (s26.1 : api_Foot).Count), (eT tk_id13_Dead 1 eI (s26.1 : api_Foot).Dead)] rfl) fun τ hH => ?_
        refine wpo_mv (a := (eErr Err.nil)) rfl rfl rfl (o_as tk rfl (Wk.refl _)) ?_
        refine wpo_nil ?_
        refine awp_ret ?_
        obtain rfl := Option.some.inj H67
        exact ⟨_, (.tup [(e_api_Foot (s26.1 : api_Foot)), (eErr Err.nil)]), (ares_2 (ares_cell hH 2 rfl rfl rfl) rfl), (wk_tup (.cons (wk_agg (.cons (.of_eq rfl) (.cons (.of_eq rfl) (.cons (.of_eq rfl) (.cons wk_no .nil))))) (.cons (.of_eq rfl) .nil))), .of_eq (by simp only [cutAV, cutL, enc53.cut _ _ _, encErr.cut _ _ _]), (((hH.noT.drop n14).drop n6).drop n2)⟩
  · refine awp_loopO (body := fun s => region_Get_b0 x0 s.1 s.2) hs20 (fun (s : api_Foot × octets_Reader) fr τ => ∃ tk_id13_Dead, WkF fr (fm [(0, ((eL 1 (@eU .u8 8)) x0)), (2, (.ref id1 0)), (4, (.ref id5 0)), (5, (.ref id13 0))]) ∧ Holds σ [(id13, [(eI s.1.Seq), (eI s.1.Bytes), (eI s.1.Count), (eT tk_id13_Dead 1 eI s.1.Dead)]), (id5, (c_octets_Reader s.2)), (id1, [(eI z_api_Foot.Seq), (eI z_api_Foot.Bytes), (eI z_api_Foot.Count), AV.nils])] [tk_id13_Dead] τ) ⟨tk18, (wkf_cons (.of_eq rfl) (wkf_cons (.of_eq rfl) (wkf_cons (.of_eq rfl) (wkf_cons (.of_eq rfl) (wkf_nil _))))), hH⟩ ?_
    rintro ⟨c16, c17⟩ fr τ y22 ⟨tk_id13_Dead, hfr, hH⟩ hb24 hy25
    have H27 : region_Get_b0 x0 c16 c17 = some y22 := hb24
    unfold region_Get_b0 at H27
    refine AWP.fm [(0, ((eL 1 (@eU .u8 8)) x0)), (2, (.ref id1 0)), (4, (.ref id5 0)), (5, (.ref id13 0))] hfr ?_
    have hH : Holds σ [(id13, [(eI c16.Seq), (eI c16.Bytes), (eI c16.Count), (eT tk_id13_Dead 1 eI c16.Dead)]), (id5, (c_octets_Reader c17)), (id1, [(eI z_api_Foot.Seq), (eI z_api_Foot.Bytes), (eI z_api_Foot.Count), AV.nils])] [tk_id13_Dead] τ := hH
    refine awp_seq ?_
    refine awp_seq ?_
    obtain ⟨s28, hs30, hj31⟩ := Option.bind_eq_some_iff.1 H27
    refine awp_cutn (fun fr τ => ∃ tk_id13_Dead, WkF fr (fm [(0, ((eL 1 (@eU .u8 8)) x0)), (2, (.ref id1 0)), (4, (.ref id5 0)), (5, (.ref id13 0)), (24, (eB s28))]) ∧ Holds σ [(id13, [(eI c16.Seq), (eI c16.Bytes), (eI c16.Count), (eT tk_id13_Dead 1 eI c16.Dead)]), (id5, (c_octets_Reader c17)), (id1, [(eI z_api_Foot.Seq), (eI z_api_Foot.Bytes), (eI z_api_Foot.Count), AV.nils])] [tk_id13_Dead] τ) ?_ ?_
    · rintro fr τ ⟨tk_id13_Dead, hfr, hH⟩
      have H41 := hj31
      refine AWP.fm [(0, ((eL 1 (@eU .u8 8)) x0)), (2, (.ref id1 0)), (4, (.ref id5 0)), (5, (.ref id13 0)), (24, (eB s28))] hfr ?_
      refine awp_if H41 rfl (fun H42 => ?_) (fun H42 => ?_)
      · refine awp_skip ?_
        refine awp_block ?_
        refine awp_drawR mixed [3, 5, 7] rfl (by decide +kernel) rfl rfl (fun σ => σ.objs[id13]? = some [(eI c16.Seq), (eI c16.Bytes), (eI c16.Count), (eT tk_id13_Dead 1 eI c16.Dead)]) 1 (hH.at_ 0 rfl) ?_
        refine wpdR_mv (a := (.ref id13 3)) rfl rfl rfl (o_c tk false rfl (fun _ => rfl)) ?_
        refine wpdR_rdp (a := (eT tk_id13_Dead 1 eI c16.Dead)) rfl (by decide +kernel) rfl rfl (fun σ hF => (h_ld tk (Holds.one hF) 0 rfl rfl rfl)) ?_
        refine wpdR_mv (a := (.ref id5 0)) rfl rfl rfl (o_mv tk rfl (Wk.refl _)) ?_
        refine wpdR_cb H42 (fun x _ => eI x.1) rfl rfl rfl (fun v44 hv => h_call1 hH [(1, (id5, (c_octets_Reader v44.2)))] ⟨⟨_, rfl⟩, trivial⟩ rfl rfl (.cons (.of_eq rfl) (.cons (.of_eq rfl) .nil)) (octets_Reader_Number_ok hv _ (hH.at_ 1 rfl))) fun v44 _ τ hv44 H43 hH => ⟨fun _ => (hH.at_ 0 rfl), ?_⟩
        refine wpdR_lt H43 (eF 1 eI) rfl rfl rfl (o_c tk false rfl (fun _ => rfl)) fun v46 H45 => ?_
        obtain ⟨v48, hv49, H47⟩ := Option.bind_eq_some_iff.1 H45
        refine wpdR_a (av := fun t => eT t 1 eI v48) rfl rfl rfl (h_app tk hH 0 hv49 rfl td51 ty3 rfl (by decide) rfl (src_l td51 rfl)) fun tk50 τ hH => ⟨fun h => absurd h (by decide +kernel), ?_⟩
        refine wpdR_mv (a := (.ref id13 3)) rfl rfl rfl (o_c tk false rfl (fun _ => rfl)) ?_
        refine wpdR_z rfl rfl rfl (h_st (y := (eT tk50 1 eI v48)) tk hH 0 rfl ty51 (by simp) rfl rfl (.of_eq rfl) (b := (eT tk50 1 eI v48)) rfl rfl (Nat.le_of_ble_eq_true rfl) [(eI ({ c16 with Dead := v48 } : api_Foot).Seq), (eI ({ c16 with Dead := v48 } : api_Foot).Bytes), (eI ({ c16 with Dead := v48 } : api_Foot).Count), (eT tk50 1 eI ({ c16 with Dead := v48 } : api_Foot).Dead)] rfl) fun τ hH => ⟨fun h => absurd h (by decide +kernel), ?_⟩
        refine wpdR_nil ?_
        exact ⟨(({ c16 with Dead := v48 } : api_Foot), v44.2), inj_inl H47, tk50, (wkf_cons (.of_eq rfl) (wkf_cons (.of_eq rfl) (wkf_cons (.of_eq rfl) (wkf_cons (.of_eq rfl) (wkf_nil _))))), hH⟩
      · refine awp_exit ?_
        have hz := hy25 _ (inj_inr H42)
        subst hz
        exact ⟨⟨_, inj_inr H42⟩, tk_id13_Dead, (wkf_cons (.of_eq rfl) (wkf_cons (.of_eq rfl) (wkf_cons (.of_eq rfl) (wkf_cons (.of_eq rfl) (wkf_nil _))))), hH⟩
    · refine awp_region rfl ?_
      refine wpo_mv (a := (.ref id5 0)) rfl rfl rfl (o_mv tk rfl (Wk.refl _)) ?_
      refine wpo_bdr hs30 eI rfl rfl rfl (fun v33 hv => h_callr rfl rfl (.cons (.of_eq rfl) .nil) (octets_Reader_Code_ok hv _ (hH.at_ 1 rfl))) fun v33 hv33 H32 => ?_
      refine wpo_lt H32 eB rfl rfl rfl (o_ar tk rfl rfl rfl) fun v35 H34 => ?_
      refine wpo_mv (a := (eB v35)) rfl rfl rfl (o_mv tk rfl (Wk.refl _)) ?_
      refine if_split H34 (fun hb H36 => ?_) (fun hb H36 => ?_)
      · subst hb
        refine wpo_mv (a := (.ref id5 0)) rfl rfl rfl (o_mv tk rfl (Wk.refl _)) ?_
        refine wpo_bdr H36 eI rfl rfl rfl (fun v38 hv => h_callr rfl rfl (.cons (.of_eq rfl) .nil) (octets_Reader_Left_ok hv _ (hH.at_ 1 rfl))) fun v38 hv38 H37 => ?_
        refine wpo_lt H37 eB rfl rfl rfl (o_ar tk rfl rfl rfl) fun v40 H39 => ?_
        refine wpo_mv (a := (eB v40)) rfl rfl rfl (o_pick_t tk rfl rfl (Wk.refl _)) ?_
        refine wpo_nil ?_
        have e := Option.some.inj H39
        subst e
        exact ⟨tk_id13_Dead, (wkf_cons (.of_eq rfl) (wkf_cons (.of_eq rfl) (wkf_cons (.of_eq rfl) (wkf_cons (.of_eq rfl) (wkf_cons (.of_eq rfl) (wkf_nil _)))))), hH⟩
      · subst hb
        refine wpo_skip rfl rfl rfl ?_
        refine wpo_skip rfl rfl rfl ?_
        refine wpo_skip rfl rfl rfl ?_
        refine wpo_mv (a := (eB false)) rfl rfl rfl (o_pick_f tk rfl rfl (Wk.refl _)) ?_
        refine wpo_nil ?_
        have e := Option.some.inj H36
        subst e
        exact ⟨tk_id13_Dead, (wkf_cons (.of_eq rfl) (wkf_cons (.of_eq rfl) (wkf_cons (.of_eq rfl) (wkf_cons (.of_eq rfl) (wkf_cons (.of_eq rfl) (wkf_nil _)))))), hH⟩
end Go.Proofs.YtkmlinaofbcbaaaDoor
namespace Go.Proofs.YtkmlinaofbcbaaaDoor
open Go Go.Va
set_option linter.unusedVariables false
set_option linter.unusedSimpArgs false
set_option maxRecDepth 20000
theorem butteryref02_Ints_ok {x0 : List Int} {x1 : List Int} {r : Bool} (H : butteryref02_Ints x0 x1 = some r) (σ : St)  : ACall Tryd.prog 95 [((eL 1 eI) x0), ((eL 1 eI) x1)] σ (fun a τ => a = eB r ∧ τ = σ) := by
  unfold butteryref02_Ints at H
  refine ACall.pure (acall_start tk Tryd.func95 (by decide) rfl (Nat.le_of_ble_eq_true rfl) ?_)
  have hH := Holds.init σ
  refine awp_seq ?_
  refine awp_region rfl ?_
  refine wpo_mv (a := (eB false)) rfl rfl rfl (o_as tk rfl (Wk.refl _)) ?_
  refine wpo_nil ?_
  refine awp_seq ?_
  refine awp_seq ?_
  refine awp_region rfl ?_
  refine wpo_mv (a := ((eL 1 eI) x0)) rfl rfl rfl (o_mv tk rfl (Wk.refl _)) ?_
  refine wpo_lt H eI rfl rfl rfl (o_len tk td51 rfl) fun v2 H1 => ?_
  refine wpo_mv (a := ((eL 1 eI) x1)) rfl rfl rfl (o_mv tk rfl (Wk.refl _)) ?_
  refine wpo_lt H1 eI rfl rfl rfl (o_len tk td51 rfl) fun v4 H3 => ?_
  refine wpo_lt H3 eB rfl rfl rfl (o_ar tk rfl rfl rfl) fun v6 H5 => ?_
  refine wpo_nil ?_
  refine awp_if H5 rfl (fun H7 => ?_) (fun H7 => ?_)
  · refine awp_seq ?_
    refine awp_region rfl ?_
    refine wpo_mv (a := (eB false)) rfl rfl rfl (o_as tk rfl (Wk.refl _)) ?_
    refine wpo_nil ?_
    refine awp_ret ?_
    obtain rfl := Option.some.inj H7
    exact ⟨_, (eB false), rfl, (.of_eq rfl), .of_eq ((enc_b td4 sz4).cut _ _ _), hH.noT⟩
  · refine awp_skip ?_
    refine awp_seq ?_
    refine awp_seq ?_
    refine awp_region rfl ?_
    refine wpo_mv (a := (eI (0 : Int))) rfl rfl rfl (o_as tk rfl (Wk.refl _)) ?_
    refine wpo_nil ?_
    refine awp_block ?_
    obtain ⟨o9, hs10, hj11⟩ := Option.bind_eq_some_iff.1 H7
    refine awp_cutx 0 (fun fr τ => ∃ s16 : Unit, o9 = .inl s16 ∧ WkF fr (fm []) ∧ Holds σ [] [] τ) ?_ ?_
    · rintro fr τ ⟨s16, rfl, hfr, hH⟩
      have H33 := hj11
      simp only [Sum.elim_inl] at H33
      refine AWP.fm [] hfr ?_
      refine awp_seq ?_
      refine awp_region rfl ?_
      refine wpo_mv (a := (eB true)) rfl rfl rfl (o_as tk rfl (Wk.refl _)) ?_
      refine wpo_nil ?_
      refine awp_ret ?_
      obtain rfl := Option.some.inj H33
      exact ⟨_, (eB true), rfl, (.of_eq rfl), .of_eq ((enc_b td4 sz4).cut _ _ _), hH.noT⟩
    · refine awp_loopO (body := fun s => butteryref02_Ints_b0 x0 x1 s) hs10 (fun (s : Int) fr τ => WkF fr (fm [(0, ((eL 1 eI) x0)), (1, ((eL 1 eI) x1)), (5, (eI s))]) ∧ Holds σ [] [] τ) ⟨(wkf_cons (.of_eq rfl) (wkf_cons (.of_eq rfl) (wkf_cons (.of_eq rfl) (wkf_nil _)))), hH⟩ ?_
      rintro c8 fr τ y12 ⟨hfr, hH⟩ hb14 hy15
      have H17 : butteryref02_Ints_b0 x0 x1 c8 = some y12 := hb14
      unfold butteryref02_Ints_b0 at H17
      refine AWP.fm [(0, ((eL 1 eI) x0)), (1, ((eL 1 eI) x1)), (5, (eI c8))] hfr ?_
      have hH : Holds σ [] [] τ := hH
      refine awp_seq ?_
      refine awp_seq ?_
      refine awp_region rfl ?_
      refine wpo_mv (a := (eI c8)) rfl rfl rfl (o_mv tk rfl (Wk.refl _)) ?_
      refine wpo_mv (a := ((eL 1 eI) x0)) rfl rfl rfl (o_mv tk rfl (Wk.refl _)) ?_
      refine wpo_lt H17 eI rfl rfl rfl (o_len tk td51 rfl) fun v19 H18 => ?_
      refine wpo_lt H18 eB rfl rfl rfl (o_ar tk rfl rfl rfl) fun v21 H20 => ?_
      refine wpo_nil ?_
      refine awp_if H20 rfl (fun H22 => ?_) (fun H22 => ?_)
      · refine awp_skip ?_
        refine awp_seq ?_
        refine awp_block ?_
        refine awp_seq ?_
        refine awp_drawS mixed [] rfl (by decide +kernel) rfl rfl ?_
        refine wpdS_mv (a := ((eL 1 eI) x0)) rfl rfl rfl (o_mv tk rfl (Wk.refl _)) ?_
        refine wpdS_mv (a := (eI c8)) rfl rfl rfl (o_mv tk rfl (Wk.refl _)) ?_
        refine wpdS_bd H22 (fun y => .fptr (eI y).cells 0) rfl rfl rfl (fun v24 hv => o_ixa tk hv td51 (enc_i64 td3 sz3) rfl rfl) fun v24 hv24 H23 => ?_
        refine wpdS_mv (a := (eI v24)) rfl rfl rfl (o_ld_e tk (enc_i64 td3 sz3) rfl rfl) ?_
        refine wpdS_mv (a := ((eL 1 eI) x1)) rfl rfl rfl (o_mv tk rfl (Wk.refl _)) ?_
        refine wpdS_mv (a := (eI c8)) rfl rfl rfl (o_mv tk rfl (Wk.refl _)) ?_
        refine wpdS_bd H23 (fun y => .fptr (eI y).cells 0) rfl rfl rfl (fun v26 hv => o_ixa tk hv td51 (enc_i64 td3 sz3) rfl rfl) fun v26 hv26 H25 => ?_
        refine wpdS_mv (a := (eI v26)) rfl rfl rfl (o_ld_e tk (enc_i64 td3 sz3) rfl rfl) ?_
        refine wpdS_lt H25 eB rfl rfl rfl (o_ar tk rfl rfl rfl) fun v28 H27 => ?_
        refine wpdS_nil ?_
        refine awp_if H27 rfl (fun H29 => ?_) (fun H29 => ?_)
        · refine awp_seq ?_
          refine awp_region rfl ?_
          refine wpo_mv (a := (eB false)) rfl rfl rfl (o_as tk rfl (Wk.refl _)) ?_
          refine wpo_nil ?_
          refine awp_ret ?_
          have hz := hy15 _ (inj_inr H29)
          refine ⟨⟨_, inj_inr H29⟩, ?_⟩
          rw [← hz] at hj11
          have H30 := (show some _ = some _ from hj11)
          obtain rfl := Option.some.inj H30
          exact ⟨_, (eB false), rfl, (.of_eq rfl), .of_eq ((enc_b td4 sz4).cut _ _ _), hH.noT⟩
        · refine awp_skip ?_
          refine awp_region rfl ?_
          refine wpo_mv (a := (eI c8)) rfl rfl rfl (o_mv tk rfl (Wk.refl _)) ?_
          refine wpo_lt H29 eI rfl rfl rfl (o_ar tk rfl rfl rfl) fun v32 H31 => ?_
          refine wpo_mv (a := (eI v32)) rfl rfl rfl (o_as tk rfl (Wk.refl _)) ?_
          refine wpo_nil ?_
          exact ⟨v32, inj_inl H31, (wkf_cons (.of_eq rfl) (wkf_cons (.of_eq rfl) (wkf_cons (.of_eq rfl) (wkf_nil _)))), hH⟩
      · refine awp_exit ?_
        have hz := hy15 _ (inj_inr H22)
        exact ⟨⟨_, inj_inr H22⟩, (), hz.symm, (wkf_nil _), hH⟩
end Go.Proofs.YtkmlinaofbcbaaaDoor
namespace Go.Proofs.YtkmlinaofbcbaaaDoor
open Go Go.Va
set_option linter.unusedVariables false
set_option linter.unusedSimpArgs false
set_option maxRecDepth 20000
theorem butteryref14_Same_ok {x0 : api_Foot} {x1 : api_Foot} {r : Bool} (H : butteryref14_Same x0 x1 = some r) (σ : St)  : ACall Tryd.prog 29 [(e_api_Foot x0), (e_api_Foot x1)] σ (fun a τ => a = eB r ∧ τ = σ) := by
  unfold butteryref14_Same at H
  refine ACall.pure (acall_start tk Tryd.func29 (by decide) rfl (Nat.le_of_ble_eq_true rfl) ?_)
  have hH := Holds.init σ
  refine awp_seq ?_
  refine awp_region rfl ?_
  refine wpo_mv (a := (.fptr (c_api_Foot x0) 0)) rfl rfl rfl (o_boxf tk rfl (.of_eq rfl) (b := (e_api_Foot x0)) (enc53.flat _)) ?_
  refine wpo_mv (a := (.fptr (c_api_Foot x1) 0)) rfl rfl rfl (o_boxf tk rfl (.of_eq rfl) (b := (e_api_Foot x1)) (enc53.flat _)) ?_
  refine wpo_mv (a := (eB false)) rfl rfl rfl (o_as tk rfl (Wk.refl _)) ?_
  refine wpo_nil ?_
  refine awp_seq ?_
  refine awp_region rfl ?_
  refine wpo_mv (a := (.fptr (c_api_Foot x0) 0)) rfl rfl rfl (o_c tk false rfl (fun _ => rfl)) ?_
  refine wpo_mv (a := (eI x0.Seq)) rfl rfl rfl (o_ld tk rfl rfl) ?_
  refine wpo_mv (a := (.fptr (c_api_Foot x1) 0)) rfl rfl rfl (o_c tk false rfl (fun _ => rfl)) ?_
  refine wpo_mv (a := (eI x1.Seq)) rfl rfl rfl (o_ld tk rfl rfl) ?_
  refine wpo_lt H eB rfl rfl rfl (o_ar tk rfl rfl rfl) fun v2 H1 => ?_
  refine wpo_mv (a := (eB v2)) rfl rfl rfl (o_mv tk rfl (Wk.refl _)) ?_
  refine if_split H1 (fun hb H3 => ?_) (fun hb H3 => ?_)
  · subst hb
    refine wpo_mv (a := (.fptr (c_api_Foot x0) 1)) rfl rfl rfl (o_c tk false rfl (fun _ => rfl)) ?_
    refine wpo_mv (a := (eI x0.Bytes)) rfl rfl rfl (o_ld tk rfl rfl) ?_
    refine wpo_mv (a := (.fptr (c_api_Foot x1) 1)) rfl rfl rfl (o_c tk false rfl (fun _ => rfl)) ?_
    refine wpo_mv (a := (eI x1.Bytes)) rfl rfl rfl (o_ld tk rfl rfl) ?_
    refine wpo_lt H3 eB rfl rfl rfl (o_ar tk rfl rfl rfl) fun v5 H4 => ?_
    refine wpo_mv (a := (eB v5)) rfl rfl rfl (o_pick_t tk rfl rfl (Wk.refl _)) ?_
    refine wpo_mv (a := (eB v5)) rfl rfl rfl (o_mv tk rfl (Wk.refl _)) ?_
    refine if_split H4 (fun hb H6 => ?_) (fun hb H6 => ?_)
    · subst hb
      refine wpo_mv (a := (.fptr (c_api_Foot x0) 2)) rfl rfl rfl (o_c tk false rfl (fun _ => rfl)) ?_
      refine wpo_mv (a := (eI x0.Count)) rfl rfl rfl (o_ld tk rfl rfl) ?_
      refine wpo_mv (a := (.fptr (c_api_Foot x1) 2)) rfl rfl rfl (o_c tk false rfl (fun _ => rfl)) ?_
      refine wpo_mv (a := (eI x1.Count)) rfl rfl rfl (o_ld tk rfl rfl) ?_
      refine wpo_lt H6 eB rfl rfl rfl (o_ar tk rfl rfl rfl) fun v8 H7 => ?_
      refine wpo_mv (a := (eB v8)) rfl rfl rfl (o_pick_t tk rfl rfl (Wk.refl _)) ?_
      refine wpo_mv (a := (eB v8)) rfl rfl rfl (o_mv tk rfl (Wk.refl _)) ?_
      refine if_split H7 (fun hb H9 => ?_) (fun hb H9 => ?_)
      · subst hb
        refine wpo_mv (a := (.fptr (c_api_Foot x0) 3)) rfl rfl rfl (o_c tk false rfl (fun _ => rfl)) ?_
        refine wpo_mv (a := ((eL 1 eI) x0.Dead)) rfl rfl rfl (o_ld tk rfl rfl) ?_
        refine wpo_mv (a := (.fptr (c_api_Foot x1) 3)) rfl rfl rfl (o_c tk false rfl (fun _ => rfl)) ?_
        refine wpo_mv (a := ((eL 1 eI) x1.Dead)) rfl rfl rfl (o_ld tk rfl rfl) ?_
        refine wpo_bd H9 eB rfl rfl rfl (fun v11 hv => OpP.of_call rfl rfl (.cons (.of_eq rfl) (.cons (.of_eq rfl) .nil)) (butteryref02_Ints_ok hv)) fun v11 hv11 H10 => ?_
        refine wpo_mv (a := (eB v11)) rfl rfl rfl (o_pick_t tk rfl rfl (Wk.refl _)) ?_
        refine wpo_mv (a := (eB v11)) rfl rfl rfl (o_as tk rfl (Wk.refl _)) ?_
        refine wpo_nil ?_
        refine awp_ret ?_
        obtain rfl := Option.some.inj H10
        exact ⟨_, (eB v11), rfl, (.of_eq rfl), .of_eq ((enc_b td4 sz4).cut _ _ _), hH.noT⟩
      · subst hb
        refine wpo_skip rfl rfl rfl ?_
        refine wpo_skip rfl rfl rfl ?_
        refine wpo_skip rfl rfl rfl ?_
        refine wpo_skip rfl rfl rfl ?_
        refine wpo_skip rfl rfl rfl ?_
        refine wpo_mv (a := (eB false)) rfl rfl rfl (o_pick_f tk rfl rfl (Wk.refl _)) ?_
        refine wpo_mv (a := (eB false)) rfl rfl rfl (o_as tk rfl (Wk.refl _)) ?_
        refine wpo_nil ?_
        refine awp_ret ?_
        obtain rfl := Option.some.inj H9
        exact ⟨_, (eB false), rfl, (.of_eq rfl), .of_eq ((enc_b td4 sz4).cut _ _ _), hH.noT⟩
    · subst hb
      refine wpo_skip rfl rfl rfl ?_
      refine wpo_skip rfl rfl rfl ?_
      refine wpo_skip rfl rfl rfl ?_
      refine wpo_skip rfl rfl rfl ?_
      refine wpo_skip rfl rfl rfl ?_
      refine wpo_mv (a := (eB false)) rfl rfl rfl (o_pick_f tk rfl rfl (Wk.refl _)) ?_
      refine wpo_mv (a := (eB false)) rfl rfl rfl (o_mv tk rfl (Wk.refl _)) ?_
      refine wpo_skip rfl rfl rfl ?_
      refine wpo_skip rfl rfl rfl ?_
      refine wpo_skip rfl rfl rfl ?_
      refine wpo_skip rfl rfl rfl ?_
      refine wpo_skip rfl rfl rfl ?_
      refine wpo_mv (a := (eB false)) rfl rfl rfl (o_pick_f tk rfl rfl (Wk.refl _)) ?_
      refine wpo_mv (a := (eB false)) rfl rfl rfl (o_as tk rfl (Wk.refl _)) ?_
      refine wpo_nil ?_
      refine awp_ret ?_
      obtain rfl := Option.some.inj H6
      exact ⟨_, (eB false), rfl, (.of_eq rfl), .of_eq ((enc_b td4 sz4).cut _ _ _), hH.noT⟩
  · subst hb
    refine wpo_skip rfl rfl rfl ?_
    refine wpo_skip rfl rfl rfl ?_
    refine wpo_skip rfl rfl rfl ?_
    refine wpo_skip rfl rfl rfl ?_
    refine wpo_skip rfl rfl rfl ?_
    refine wpo_mv (a := (eB false)) rfl rfl rfl (o_pick_f tk rfl rfl (Wk.refl _)) ?_
    refine wpo_mv (a := (eB false)) rfl rfl rfl (o_mv tk rfl (Wk.refl _)) ?_
    refine wpo_skip rfl rfl rfl ?_
    refine wpo_skip rfl rfl rfl ?_
    refine wpo_skip rfl rfl rfl ?_
    refine wpo_skip rfl rfl rfl ?_
    refine wpo_skip rfl rfl rfl ?_
    refine wpo_mv (a := (eB false)) rfl rfl rfl (o_pick_f tk rfl rfl (Wk.refl _)) ?_
    refine wpo_mv (a := (eB false)) rfl rfl rfl (o_mv tk rfl (Wk.refl _)) ?_
    refine wpo_skip rfl rfl rfl ?_
    refine wpo_skip rfl rfl rfl ?_
    refine wpo_skip rfl rfl rfl ?_
    refine wpo_skip rfl rfl rfl ?_
    refine wpo_skip rfl rfl rfl ?_
    refine wpo_mv (a := (eB false)) rfl rfl rfl (o_pick_f tk rfl rfl (Wk.refl _)) ?_
    refine wpo_mv (a := (eB false)) rfl rfl rfl (o_as tk rfl (Wk.refl _)) ?_
    refine wpo_nil ?_
    refine awp_ret ?_
    obtain rfl := Option.some.inj H3
    exact ⟨_, (eB false), rfl, (.of_eq rfl), .of_eq ((enc_b td4 sz4).cut _ _ _), hH.noT⟩
end Go.Proofs.YtkmlinaofbcbaaaDoor
namespace Go.Proofs.YtkmlinaofbcbaaaDoor
open Go Go.Va
set_option linter.unusedVariables false
set_option linter.unusedSimpArgs false
set_option maxRecDepth 20000
theorem region_Split_app {x0 : List (BitVec 8)} {r : (List (List (BitVec 8)))} (H : region_Split x0 = some r) (σ : St)  : ACall Tryd.prog 31 [((eL 1 (@eU .u8 8)) x0)] σ (fun a τ => a = .sl (.own σ.opn.length) 1 (r.map (eL 1 (@eU .u8 8))) ∧ τ = σ.more) := by
  unfold region_Split at H
  refine ACall.app (fun ρ κ => cutL_enc (enc_l td22 sz22 (enc_u td5 sz5).cut).cut ρ κ r) (acall_start tk Tryd.func31 (by decide) rfl (Nat.le_of_ble_eq_true rfl) ?_)
  have hH := Holds.init σ
  refine awp_seq ?_
  refine awp_region rfl ?_
  refine wpo_mv (a := AV.nils) rfl rfl rfl (o_as tk rfl (Wk.refl _)) ?_
  refine wpo_nil ?_
  refine awp_seq ?_
  refine awp_region rfl ?_
  refine wpo_mv (a := AV.nils) rfl rfl rfl (o_as tk rfl (Wk.refl _)) ?_
  refine wpo_nil ?_
  refine awp_seq ?_
  refine awp_seq ?_
  refine awp_region rfl ?_
  refine wpo_mv (a := (eI (0 : Int))) rfl rfl rfl (o_as tk rfl (Wk.refl _)) ?_
  refine wpo_nil ?_
  refine awp_block ?_
  refine AWP.tokN hH 3 1 rfl fun tk3 τ hH => ?_
  obtain ⟨s11, hs5, hj6⟩ := Option.bind_eq_some_iff.1 H
  refine awp_cutx 0 (fun fr τ => ∃ tk_3, WkF fr (fm [(3, (eT tk_3 1 (eL 1 (@eU .u8 8)) s11))]) ∧ Holds σ [] [tk_3] τ) ?_ ?_
  · rintro fr τ ⟨tk_3, hfr, hH⟩
    have H34 := hj6
    refine AWP.fm [(3, (eT tk_3 1 (eL 1 (@eU .u8 8)) s11))] hfr ?_
    refine awp_seq ?_
    refine awp_region rfl ?_
    refine wpo_mv (a := (eT tk_3 1 (eL 1 (@eU .u8 8)) s11)) rfl rfl rfl (o_mv tk rfl (Wk.refl _)) ?_
    refine wpo_mv (a := (eT tk_3 1 (eL 1 (@eU .u8 8)) s11)) rfl rfl rfl (o_as tk rfl (Wk.refl _)) ?_
    refine wpo_nil ?_
    refine awp_ret ?_
    obtain rfl := Option.some.inj H34
    exact ⟨_, (eT tk_3 1 (eL 1 (@eU .u8 8)) s11), rfl, .of_eq rfl, tk_3, rfl, hH⟩
  · refine awp_loopO (body := fun s => region_Split_b0 x0 s.1 s.2) hs5 (fun (s : (List (List (BitVec 8))) × Int) fr τ => ∃ tk_3, WkF fr (fm [(0, ((eL 1 (@eU .u8 8)) x0)), (3, (eT tk_3 1 (eL 1 (@eU .u8 8)) s.1)), (4, (eI s.2))]) ∧ Holds σ [] [tk_3] τ) ⟨tk3, (wkf_cons (.of_eq rfl) (wkf_cons (.of_eq rfl) (wkf_cons (.of_eq rfl) (wkf_nil _)))), hH⟩ ?_
    rintro ⟨c1, c2⟩ fr τ y7 ⟨tk_3, hfr, hH⟩ hb9 hy10
    have H12 : region_Split_b0 x0 c1 c2 = some y7 := hb9
    unfold region_Split_b0 at H12
    refine AWP.fm [(0, ((eL 1 (@eU .u8 8)) x0)), (3, (eT tk_3 1 (eL 1 (@eU .u8 8)) c1)), (4, (eI c2))] hfr ?_
    have hH : Holds σ [] [tk_3] τ := hH
    refine awp_seq ?_
    refine awp_seq ?_
    refine awp_region rfl ?_
    refine wpo_mv (a := (eI c2)) rfl rfl rfl (o_mv tk rfl (Wk.refl _)) ?_
    refine wpo_mv (a := ((eL 1 (@eU .u8 8)) x0)) rfl rfl rfl (o_mv tk rfl (Wk.refl _)) ?_
    refine wpo_lt H12 eI rfl rfl rfl (o_len tk td22 rfl) fun v14 H13 => ?_
    refine wpo_lt H13 eB rfl rfl rfl (o_ar tk rfl rfl rfl) fun v16 H15 => ?_
    refine wpo_nil ?_
    refine awp_if H15 rfl (fun H17 => ?_) (fun H17 => ?_)
    · refine awp_skip ?_
      refine awp_seq ?_
      refine awp_block ?_
      refine awp_seq ?_
      refine awp_region rfl ?_
      refine wpo_mv (a := (eI c2)) rfl rfl rfl (o_mv tk rfl (Wk.refl _)) ?_
      refine wpo_lt H17 eI rfl rfl rfl (o_ar tk rfl rfl rfl) fun v19 H18 => ?_
      refine wpo_mv (a := ((eL 1 (@eU .u8 8)) x0)) rfl rfl rfl (o_mv tk rfl (Wk.refl _)) ?_
      refine wpo_lt H18 eI rfl rfl rfl (o_len tk td22 rfl) fun v21 H20 => ?_
      refine wpo_lt H20 eI rfl rfl rfl (o_min tk rfl rfl) fun v23 H22 => ?_
      refine wpo_mv (a := (eI v23)) rfl rfl rfl (o_as tk rfl (Wk.refl _)) ?_
      refine wpo_nil ?_
      refine awp_region rfl ?_
      refine wpo_mv (a := (eT tk_3 1 (eL 1 (@eU .u8 8)) c1)) rfl rfl rfl (o_mv tk rfl (Wk.refl _)) ?_
      refine wpo_mv (a := ((eL 1 (@eU .u8 8)) x0)) rfl rfl rfl (o_mv tk rfl (Wk.refl _)) ?_
      refine wpo_mv (a := (eI c2)) rfl rfl rfl (o_mv tk rfl (Wk.refl _)) ?_
      refine wpo_mv (a := (eI v23)) rfl rfl rfl (o_mv tk rfl (Wk.refl _)) ?_
      refine wpo_mv (a := (eI v23)) rfl rfl rfl (o_mv tk rfl (Wk.refl _)) ?_
      refine wpo_bd H22 (eL 1 (@eU .u8 8)) rfl rfl rfl (fun v25 hv => o_cut3 tk hv td22 (enc_u td5 sz5) rfl rfl rfl rfl) fun v25 hv25 H24 => ?_
      refine wpo_lt H24 (eF 1 (eL 1 (@eU .u8 8))) rfl rfl rfl (o_c tk false rfl (fun _ => rfl)) fun v27 H26 => ?_
      obtain ⟨v29, hv30, H28⟩ := Option.bind_eq_some_iff.1 H26
      refine wpo_a (av := fun t => eT t 1 (eL 1 (@eU .u8 8)) v29) rfl rfl rfl (h_app tk hH 0 hv30 rfl td62 ty22 rfl (by decide) rfl (src_l td62 rfl)) fun tk31 τ hH => ?_
      refine wpo_mv (a := (eT tk31 1 (eL 1 (@eU .u8 8)) v29)) rfl rfl rfl (o_as tk rfl (Wk.refl _)) ?_
      refine wpo_nil ?_
      refine awp_region rfl ?_
      refine wpo_mv (a := (eI c2)) rfl rfl rfl (o_mv tk rfl (Wk.refl _)) ?_
      refine wpo_lt H28 eI rfl rfl rfl (o_ar tk rfl rfl rfl) fun v33 H32 => ?_
      refine wpo_mv (a := (eI v33)) rfl rfl rfl (o_as tk rfl (Wk.refl _)) ?_
      refine wpo_nil ?_
      exact ⟨(v29, v33), inj_inl H32, tk31, (wkf_cons (.of_eq rfl) (wkf_cons (.of_eq rfl) (wkf_cons (.of_eq rfl) (wkf_nil _)))), hH⟩
    · refine awp_exit ?_
      have hz := hy10 _ (inj_inr H17)
      subst hz
      exact ⟨⟨_, inj_inr H17⟩, tk_3, (wkf_cons (.of_eq rfl) (wkf_nil _)), hH⟩
theorem region_Split_ok {x0 : List (BitVec 8)} {r : (List (List (BitVec 8)))} (H : region_Split x0 = some r) (σ : St) : ACall Tryd.prog 31 [((eL 1 (@eU .u8 8)) x0)] σ (fun a τ => a = (eL 1 (eL 1 (@eU .u8 8))) r ∧ τ = σ) := (region_Split_app H σ).unapp (fun ρ κ => cutL_enc (enc_l td22 sz22 (enc_u td5 sz5).cut).cut ρ κ r)
end Go.Proofs.YtkmlinaofbcbaaaDoor
namespace Go.Proofs.YtkmlinaofbcbaaaDoor
open Go Go.Va
set_option linter.unusedVariables false
set_option linter.unusedSimpArgs false
set_option maxRecDepth 20000
theorem item_Check_1_c_ok {x0 : List (BitVec 8)} {x1 : Int} {x2 : Int} {x3 : Err} {r : Err} (H : item_Check_1_c x0 x1 x2 x3 = some r) (σ : St) {p3 : Nat} (h3 : σ.objs[p3]? = some [eErr x3]) : ACall Tryd.prog 122 [(eS x0), (eI x1), (eI x2), (.ref p3 0)] σ (fun a τ => a = .tup [] ∧ τ = σ.puts [(p3, [eErr r])]) := by
  unfold item_Check_1_c at H
  refine ACall.out [(p3, [eErr r])] (by simp only [List.mem_cons, List.not_mem_nil, or_false]; rintro _ (rfl) ρ κ <;> exact (by simp only [cutL, encErr.cut ρ κ])) (acall_start tk Tryd.func122 (by decide) rfl (Nat.le_of_ble_eq_true rfl) ?_)
  have hH := Holds.init σ
  have hH := hH.bring h3 (fun _ h => by cases h)
  refine awp_seq ?_
  obtain ⟨s1, hs3, hj4⟩ := Option.bind_eq_some_iff.1 H
  refine awp_cutn (fun fr τ => WkF fr (fm [(0, (eS x0)), (1, (eI x1)), (3, (.ref p3 0)), (17, (eB s1))]) ∧ Holds σ [(p3, [eErr x3])] [] τ) ?_ ?_
  · rintro fr τ ⟨hfr, hH⟩
    have H13 := hj4
    refine AWP.fm [(0, (eS x0)), (1, (eI x1)), (3, (.ref p3 0)), (17, (eB s1))] hfr ?_
    refine awp_if H13 rfl (fun H14 => ?_) (fun H14 => ?_)
    · refine awp_region rfl ?_
      refine wpo_mv (a := (eS x0)) rfl rfl rfl (o_mv tk rfl (Wk.refl _)) ?_
      refine wpo_mv (a := (eI x1)) rfl rfl rfl (o_mv tk rfl (Wk.refl _)) ?_
      refine wpo_bd H14 eErr rfl rfl rfl (fun v16 hv => OpP.of_call rfl rfl (.cons (.of_eq rfl) (.cons (.of_eq rfl) (.cons (.of_eq rfl) .nil))) (trouble_New_ok hv)) fun v16 hv16 H15 => ?_
      obtain ⟨c18, hc19, H17⟩ := lt_ex H15
      refine wpo_z rfl rfl (h_st tk hH 0 rfl ty30 (by simp) rfl rfl (.of_eq rfl) (b := (eErr v16)) (encErr.flat _) (by rw [show (eErr _).cells = [eErr _] from encErr.one rfl _]; rfl) (Nat.le_of_ble_eq_true rfl) [eErr c18] (by rw [← hc19, show (eErr _).cells = [eErr _] from encErr.one rfl _]; rfl)) fun τ hH => ?_
      refine wpo_nil ?_
      obtain rfl := Option.some.inj H17
      exact ⟨_, (.tup []), rfl, (.of_eq rfl), .of_eq rfl, hH.noT⟩
    · refine awp_skip ?_
      obtain rfl := Option.some.inj H14
      exact ⟨_, (.tup []), rfl, (.of_eq rfl), .of_eq rfl, hH.noT⟩
  · refine awp_region rfl ?_
    refine wpo_rd (a := (eErr x3)) rfl rfl rfl (h_ld tk hH 0 rfl rfl rfl) ?_
    refine wpo_lt hs3 eB rfl rfl rfl (o_err_eql tk rfl rfl rfl) fun v6 H5 => ?_
    refine wpo_mv (a := (eB v6)) rfl rfl rfl (o_mv tk rfl (Wk.refl _)) ?_
    refine if_split H5 (fun hb H7 => ?_) (fun hb H7 => ?_)
    · subst hb
      refine wpo_mv (a := (eI x1)) rfl rfl rfl (o_mv tk rfl (Wk.refl _)) ?_
      refine wpo_mv (a := (eI x2)) rfl rfl rfl (o_mv tk rfl (Wk.refl _)) ?_
      refine wpo_lt H7 eB rfl rfl rfl (o_ar tk rfl rfl rfl) fun v9 H8 => ?_
      refine wpo_mv (a := (eB v9)) rfl rfl rfl (o_mv tk rfl (Wk.refl _)) ?_
      refine if_split H8 (fun hb H10 => ?_) (fun hb H10 => ?_)
      · subst hb
        refine wpo_skip rfl rfl rfl ?_
        refine wpo_skip rfl rfl rfl ?_
        refine wpo_mv (a := (eB true)) rfl rfl rfl (o_pick_t tk rfl rfl (Wk.refl _)) ?_
        refine wpo_mv (a := (eB true)) rfl rfl rfl (o_pick_t tk rfl rfl (Wk.refl _)) ?_
        refine wpo_nil ?_
        have e := Option.some.inj H10
        subst e
        exact ⟨(wkf_cons (.of_eq rfl) (wkf_cons (.of_eq rfl) (wkf_cons (.of_eq rfl) (wkf_cons (.of_eq rfl) (wkf_nil _))))), hH⟩
      · subst hb
        refine wpo_mv (a := (eI x1)) rfl rfl rfl (o_mv tk rfl (Wk.refl _)) ?_
        refine wpo_lt H10 eB rfl rfl rfl (o_ar tk rfl rfl rfl) fun v12 H11 => ?_
        refine wpo_mv (a := (eB v12)) rfl rfl rfl (o_pick_f tk rfl rfl (Wk.refl _)) ?_
        refine wpo_mv (a := (eB v12)) rfl rfl rfl (o_pick_t tk rfl rfl (Wk.refl _)) ?_
        refine wpo_nil ?_
        have e := Option.some.inj H11
        subst e
        exact ⟨(wkf_cons (.of_eq rfl) (wkf_cons (.of_eq rfl) (wkf_cons (.of_eq rfl) (wkf_cons (.of_eq rfl) (wkf_nil _))))), hH⟩
    · subst hb
      refine wpo_skip rfl rfl rfl ?_
      refine wpo_skip rfl rfl rfl ?_
      refine wpo_skip rfl rfl rfl ?_
      refine wpo_skip rfl rfl rfl ?_
      refine wpo_skip rfl rfl rfl ?_
      refine wpo_skip rfl rfl rfl ?_
      refine wpo_skip rfl rfl rfl ?_
      refine wpo_mv (a := (eB false)) rfl rfl rfl (o_pick_f tk rfl rfl (Wk.refl _)) ?_
      refine wpo_nil ?_
      have e := Option.some.inj H7
      subst e
      exact ⟨(wkf_cons (.of_eq rfl) (wkf_cons (.of_eq rfl) (wkf_cons (.of_eq rfl) (wkf_cons (.of_eq rfl) (wkf_nil _))))), hH⟩
end Go.Proofs.YtkmlinaofbcbaaaDoor
namespace Go.Proofs.YtkmlinaofbcbaaaDoor
open Go Go.Va
set_option linter.unusedVariables false
set_option linter.unusedSimpArgs false
set_option maxRecDepth 20000
theorem octets_Key_ok {x0 : List (BitVec 8)} {r : Int} (H : octets_Key x0 = some r) (σ : St)  : ACall Tryd.prog 73 [(eS x0)] σ (fun a τ => a = eI r ∧ τ = σ) := by
  unfold octets_Key at H
  refine ACall.pure (acall_start tk Tryd.func73 (by decide) rfl (Nat.le_of_ble_eq_true rfl) ?_)
  have hH := Holds.init σ
  refine awp_seq ?_
  refine awp_region rfl ?_
  refine wpo_mv (a := (eI (0 : Int))) rfl rfl rfl (o_as tk rfl (Wk.refl _)) ?_
  refine wpo_nil ?_
  refine awp_seq ?_
  refine awp_seq ?_
  refine awp_region rfl ?_
  refine wpo_mv (a := (eS x0)) rfl rfl rfl (o_mv tk rfl (Wk.refl _)) ?_
  refine wpo_lt H eI rfl rfl rfl (o_len_s tk td9 rfl) fun v2 H1 => ?_
  refine wpo_mv (a := (eI v2)) rfl rfl rfl (o_as tk rfl (Wk.refl _)) ?_
  refine wpo_nil ?_
  refine awp_block ?_
  refine awp_seq ?_
  refine awp_region rfl ?_
  refine wpo_mv (a := (eI v2)) rfl rfl rfl (o_mv tk rfl (Wk.refl _)) ?_
  refine wpo_lt H1 eB rfl rfl rfl (o_ar tk rfl rfl rfl) fun v4 H3 => ?_
  refine wpo_mv (a := (eB v4)) rfl rfl rfl (o_as tk rfl (Wk.refl _)) ?_
  refine wpo_nil ?_
  refine awp_if H3 rfl (fun H5 => ?_) (fun H5 => ?_)
  · refine awp_seq ?_
    refine awp_region rfl ?_
    refine wpo_mv (a := (eI (1 : Int))) rfl rfl rfl (o_as tk rfl (Wk.refl _)) ?_
    refine wpo_nil ?_
    refine awp_ret ?_
    obtain rfl := Option.some.inj H5
    exact ⟨_, (eI (1 : Int)), rfl, (.of_eq rfl), .of_eq ((enc_i64 td33 sz33).cut _ _ _), hH.noT⟩
  · refine awp_seq ?_
    refine awp_region rfl ?_
    refine wpo_mv (a := (eI v2)) rfl rfl rfl (o_mv tk rfl (Wk.refl _)) ?_
    refine wpo_lt H5 eB rfl rfl rfl (o_ar tk rfl rfl rfl) fun v7 H6 => ?_
    refine wpo_mv (a := (eB v7)) rfl rfl rfl (o_as tk rfl (Wk.refl _)) ?_
    refine wpo_nil ?_
    refine awp_if H6 rfl (fun H8 => ?_) (fun H8 => ?_)
    · refine awp_seq ?_
      refine awp_region rfl ?_
      refine wpo_mv (a := (eI (3 : Int))) rfl rfl rfl (o_as tk rfl (Wk.refl _)) ?_
      refine wpo_nil ?_
      refine awp_ret ?_
      obtain rfl := Option.some.inj H8
      exact ⟨_, (eI (3 : Int)), rfl, (.of_eq rfl), .of_eq ((enc_i64 td33 sz33).cut _ _ _), hH.noT⟩
    · refine awp_skip ?_
      refine awp_seq ?_
      refine awp_region rfl ?_
      refine wpo_mv (a := (eI (0 : Int))) rfl rfl rfl (o_as tk rfl (Wk.refl _)) ?_
      refine wpo_nil ?_
      refine awp_ret ?_
      obtain rfl := Option.some.inj H8
      exact ⟨_, (eI (0 : Int)), rfl, (.of_eq rfl), .of_eq ((enc_i64 td33 sz33).cut _ _ _), hH.noT⟩
end Go.Proofs.YtkmlinaofbcbaaaDoor
namespace Go.Proofs.YtkmlinaofbcbaaaDoor
open Go Go.Va
set_option linter.unusedVariables false
set_option linter.unusedSimpArgs false
set_option maxRecDepth 20000
theorem item_Check_ok {x0 : api_Entry} {r : Err} (H : item_Check x0 = some r) (σ : St)  : ACall Tryd.prog 74 [(e_api_Entry x0)] σ (fun a τ => a = eErr r ∧ τ = σ) := by
  unfold item_Check at H
  refine ACall.pure (acall_start tk Tryd.func74 (by decide) rfl (Nat.le_of_ble_eq_true rfl) ?_)
  have hH := Holds.init σ
  refine awp_seq ?_
  refine awp_region rfl ?_
  refine wpo_mv (a := (.fptr (c_api_Entry x0) 0)) rfl rfl rfl (o_boxf tk rfl (.of_eq rfl) (b := (e_api_Entry x0)) (enc24.flat _)) ?_
  refine wpo_mv (a := (eErr Err.nil)) rfl rfl rfl (o_as tk rfl (Wk.refl _)) ?_
  refine wpo_nil ?_
  refine awp_seq ?_
  refine awp_seq ?_
  refine awp_region rfl ?_
  refine wpo_mv (a := (.fptr (c_api_Entry x0) 0)) rfl rfl rfl (o_c tk false rfl (fun _ => rfl)) ?_
  refine wpo_mv (a := (eS x0.Key)) rfl rfl rfl (o_ld tk rfl rfl) ?_
  refine wpo_bd H eI rfl rfl rfl (fun v2 hv => OpP.of_call rfl rfl (.cons (.of_eq rfl) .nil) (octets_Key_ok hv)) fun v2 hv2 H1 => ?_
  refine wpo_mv (a := (eI v2)) rfl rfl rfl (o_as tk rfl (Wk.refl _)) ?_
  refine wpo_nil ?_
  refine awp_seq ?_
  refine awp_region rfl ?_
  refine wpo_mv (a := (eI v2)) rfl rfl rfl (o_mv tk rfl (Wk.refl _)) ?_
  refine wpo_lt H1 eB rfl rfl rfl (o_ar tk rfl rfl rfl) fun v4 H3 => ?_
  refine wpo_nil ?_
  refine awp_if H3 rfl (fun H5 => ?_) (fun H5 => ?_)
  · refine awp_seq ?_
    refine awp_region rfl ?_
    refine wpo_mv (a := (.fptr (c_api_Entry x0) 0)) rfl rfl rfl (o_c tk false rfl (fun _ => rfl)) ?_
    refine wpo_mv (a := (eS x0.Key)) rfl rfl rfl (o_ld tk rfl rfl) ?_
    refine wpo_lt H5 eI rfl rfl rfl (o_len_s tk td9 rfl) fun v7 H6 => ?_
    refine wpo_mv (a := (eI v2)) rfl rfl rfl (o_mv tk rfl (Wk.refl _)) ?_
    refine wpo_bd H6 eErr rfl rfl rfl (fun v9 hv => OpP.of_call rfl rfl (.cons (.of_eq rfl) (.cons (.of_eq rfl) (.cons (.of_eq rfl) .nil))) (trouble_New_ok hv)) fun v9 hv9 H8 => ?_
    refine wpo_mv (a := (eErr v9)) rfl rfl rfl (o_as tk rfl (Wk.refl _)) ?_
    refine wpo_nil ?_
    refine awp_ret ?_
    obtain rfl := Option.some.inj H8
    exact ⟨_, (eErr v9), rfl, (.of_eq rfl), .of_eq (encErr.cut _ _ _), hH.noT⟩
  · refine awp_skip ?_
    refine awp_seq ?_
    refine awp_region rfl ?_
    refine wpo_a (av := fun id => .ref id 0) rfl rfl rfl (h_alloc tk hH ty30 [eErr Err.nil] rfl) fun id10 τ ⟨hH, n11⟩ => ?_
    refine wpo_nil ?_
    refine awp_seq ?_
    refine awp_region rfl ?_
    refine wpo_mv (a := (.fn (.func 122) [] [(.ref id10 0)])) rfl rfl rfl (o_c tk false rfl (fun _ => rfl)) ?_
    refine wpo_mv (a := (.fn (.func 122) [] [(.ref id10 0)])) rfl rfl rfl (o_as tk rfl (Wk.refl _)) ?_
    refine wpo_nil ?_
    refine awp_seq ?_
    refine awp_region rfl ?_
    refine wpo_mv (a := (.fn (.func 122) [] [(.ref id10 0)])) rfl rfl rfl (o_mv tk rfl (Wk.refl _)) ?_
    refine wpo_mv (a := (.fptr (c_api_Entry x0) 1)) rfl rfl rfl (o_c tk false rfl (fun _ => rfl)) ?_
    refine wpo_mv (a := (eI x0.Version)) rfl rfl rfl (o_ld tk rfl rfl) ?_
    refine wpo_cb H5 (fun x _ => .tup []) rfl rfl rfl (fun v13 hv => h_call1 hH [(0, (id10, [eErr v13]))] ⟨⟨_, rfl⟩, trivial⟩ rfl rfl (.cons (.of_eq rfl) (.cons (.of_eq rfl) (.cons (.of_eq rfl) (.cons (.of_eq rfl) .nil)))) (item_Check_1_c_ok hv _ (hH.at_ 0 rfl))) fun v13 _ τ hv13 H12 hH => ?_
    refine wpo_nil ?_
    refine awp_seq ?_
    refine awp_region rfl ?_
    refine wpo_mv (a := (.fn (.func 122) [] [(.ref id10 0)])) rfl rfl rfl (o_mv tk rfl (Wk.refl _)) ?_
    refine wpo_mv (a := (.fptr (c_api_Entry x0) 2)) rfl rfl rfl (o_c tk false rfl (fun _ => rfl)) ?_
    refine wpo_mv (a := (eI x0.AsOf)) rfl rfl rfl (o_ld tk rfl rfl) ?_
    refine wpo_mv (a := (.fptr (c_api_Entry x0) 1)) rfl rfl rfl (o_c tk false rfl (fun _ => rfl)) ?_
    refine wpo_mv (a := (eI x0.Version)) rfl rfl rfl (o_ld tk rfl rfl) ?_
    refine wpo_cb H12 (fun x _ => .tup []) rfl rfl rfl (fun v15 hv => h_call1 hH [(0, (id10, [eErr v15]))] ⟨⟨_, rfl⟩, trivial⟩ rfl rfl (.cons (.of_eq rfl) (.cons (.of_eq rfl) (.cons (.of_eq rfl) (.cons (.of_eq rfl) .nil)))) (item_Check_1_c_ok hv _ (hH.at_ 0 rfl))) fun v15 _ τ hv15 H14 hH => ?_
    refine wpo_nil ?_
    refine awp_seq ?_
    refine awp_region rfl ?_
    refine wpo_mv (a := (.fn (.func 122) [] [(.ref id10 0)])) rfl rfl rfl (o_mv tk rfl (Wk.refl _)) ?_
    refine wpo_mv (a := (.fptr (c_api_Entry x0) 3)) rfl rfl rfl (o_c tk false rfl (fun _ => rfl)) ?_
    refine wpo_mv (a := (eI x0.Ends)) rfl rfl rfl (o_ld tk rfl rfl) ?_
    refine wpo_cb H14 (fun x _ => .tup []) rfl rfl rfl (fun v17 hv => h_call1 hH [(0, (id10, [eErr v17]))] ⟨⟨_, rfl⟩, trivial⟩ rfl rfl (.cons (.of_eq rfl) (.cons (.of_eq rfl) (.cons (.of_eq rfl) (.cons (.of_eq rfl) .nil)))) (item_Check_1_c_ok hv _ (hH.at_ 0 rfl))) fun v17 _ τ hv17 H16 hH => ?_
    refine wpo_nil ?_
    refine awp_seq ?_
    refine awp_seq ?_
    obtain ⟨s18, hs20, hj21⟩ := Option.bind_eq_some_iff.1 H16
    refine awp_cutn (fun fr τ => WkF fr (fm [(1, (.fptr (c_api_Entry x0) 0)), (4, (.ref id10 0)), (38, (eB s18))]) ∧ Holds σ [(id10, [eErr v17])] [] τ) ?_ ?_
    · rintro fr τ ⟨hfr, hH⟩
      have H29 := hj21
      refine AWP.fm [(1, (.fptr (c_api_Entry x0) 0)), (4, (.ref id10 0)), (38, (eB s18))] hfr ?_
      refine awp_if H29 rfl (fun H30 => ?_) (fun H30 => ?_)
      · refine awp_region rfl ?_
        refine wpo_mv (a := (.fptr (c_api_Entry x0) 4)) rfl rfl rfl (o_c tk false rfl (fun _ => rfl)) ?_
        refine wpo_mv (a := ((eL 1 (@eU .u8 8)) x0.Value)) rfl rfl rfl (o_ld tk rfl rfl) ?_
        refine wpo_lt H30 eI rfl rfl rfl (o_len tk td22 rfl) fun v32 H31 => ?_
        refine wpo_bd H31 eErr rfl rfl rfl (fun v34 hv => OpP.of_call rfl rfl (.cons (.of_eq rfl) (.cons (.of_eq rfl) (.cons (.of_eq rfl) .nil))) (trouble_New_ok hv)) fun v34 hv34 H33 => ?_
        obtain ⟨c36, hc37, H35⟩ := lt_ex H33
        refine wpo_z rfl rfl (h_st tk hH 0 rfl ty30 (by simp) rfl rfl (.of_eq rfl) (b := (eErr v34)) (encErr.flat _) (by rw [show (eErr _).cells = [eErr _] from encErr.one rfl _]; rfl) (Nat.le_of_ble_eq_true rfl) [eErr c36] (by rw [← hc37, show (eErr _).cells = [eErr _] from encErr.one rfl _]; rfl)) fun τ hH => ?_
        refine wpo_nil ?_
        refine awp_seq ?_
        refine awp_region rfl ?_
        refine wpo_rd (a := (eErr c36)) rfl rfl rfl (h_ld tk hH 0 rfl rfl rfl) ?_
        refine wpo_mv (a := (eErr c36)) rfl rfl rfl (o_as tk rfl (Wk.refl _)) ?_
        refine wpo_nil ?_
        refine awp_ret ?_
        obtain rfl := Option.some.inj H35
        exact ⟨_, (eErr c36), rfl, (.of_eq rfl), .of_eq (encErr.cut _ _ _), (hH.noT.drop n11)⟩
      · refine awp_skip ?_
        refine awp_seq ?_
        refine awp_region rfl ?_
        refine wpo_rd (a := (eErr v17)) rfl rfl rfl (h_ld tk hH 0 rfl rfl rfl) ?_
        refine wpo_mv (a := (eErr v17)) rfl rfl rfl (o_as tk rfl (Wk.refl _)) ?_
        refine wpo_nil ?_
        refine awp_ret ?_
        obtain rfl := Option.some.inj H30
        exact ⟨_, (eErr v17), rfl, (.of_eq rfl), .of_eq (encErr.cut _ _ _), (hH.noT.drop n11)⟩
    · refine awp_region rfl ?_
      refine wpo_rd (a := (eErr v17)) rfl rfl rfl (h_ld tk hH 0 rfl rfl rfl) ?_
      refine wpo_lt hs20 eB rfl rfl rfl (o_err_eql tk rfl rfl rfl) fun v23 H22 => ?_
      refine wpo_mv (a := (eB v23)) rfl rfl rfl (o_mv tk rfl (Wk.refl _)) ?_
      refine if_split H22 (fun hb H24 => ?_) (fun hb H24 => ?_)
      · subst hb
        refine wpo_mv (a := (.fptr (c_api_Entry x0) 4)) rfl rfl rfl (o_c tk false rfl (fun _ => rfl)) ?_
        refine wpo_mv (a := ((eL 1 (@eU .u8 8)) x0.Value)) rfl rfl rfl (o_ld tk rfl rfl) ?_
        refine wpo_lt H24 eI rfl rfl rfl (o_len tk td22 rfl) fun v26 H25 => ?_
        refine wpo_lt H25 eB rfl rfl rfl (o_ar tk rfl rfl rfl) fun v28 H27 => ?_
        refine wpo_mv (a := (eB v28)) rfl rfl rfl (o_pick_t tk rfl rfl (Wk.refl _)) ?_
        refine wpo_nil ?_
        have e := Option.some.inj H27
        subst e
        exact ⟨(wkf_cons (.of_eq rfl) (wkf_cons (.of_eq rfl) (wkf_cons (.of_eq rfl) (wkf_nil _)))), hH⟩
      · subst hb
        refine wpo_skip rfl rfl rfl ?_
        refine wpo_skip rfl rfl rfl ?_
        refine wpo_skip rfl rfl rfl ?_
        refine wpo_skip rfl rfl rfl ?_
        refine wpo_mv (a := (eB false)) rfl rfl rfl (o_pick_f tk rfl rfl (Wk.refl _)) ?_
        refine wpo_nil ?_
        have e := Option.some.inj H24
        subst e
        exact ⟨(wkf_cons (.of_eq rfl) (wkf_cons (.of_eq rfl) (wkf_cons (.of_eq rfl) (wkf_nil _)))), hH⟩
end Go.Proofs.YtkmlinaofbcbaaaDoor
namespace Go.Proofs.YtkmlinaofbcbaaaDoor
open Go Go.Va
set_option linter.unusedVariables false
set_option linter.unusedSimpArgs false
set_option maxRecDepth 20000
theorem octets_Reader_Bytes_ok {x0 : octets_Reader} {x1 : Int} {r : (List (BitVec 8)) × octets_Reader} (H : octets_Reader_Bytes x0 x1 = some r) (σ : St) {p0 : Nat} (h0 : σ.objs[p0]? = some (c_octets_Reader x0)) : ACall Tryd.prog 83 [(.ref p0 0), (eI x1)] σ (fun a τ => a = (eL 1 (@eU .u8 8)) r.1 ∧ τ = σ.puts [(p0, (c_octets_Reader r.2))]) := by
  unfold octets_Reader_Bytes at H
  refine ACall.out [(p0, (c_octets_Reader r.2))] (by simp only [List.mem_cons, List.not_mem_nil, or_false]; rintro _ (rfl) ρ κ <;> exact c_octets_Reader_cut ρ κ _) (acall_start tk Tryd.func83 (by decide) rfl (Nat.le_of_ble_eq_true rfl) ?_)
  have hH := Holds.init σ
  have hH := hH.bring h0 (fun _ h => by cases h)
  refine awp_seq ?_
  refine awp_region rfl ?_
  refine wpo_mv (a := AV.nils) rfl rfl rfl (o_as tk rfl (Wk.refl _)) ?_
  refine wpo_nil ?_
  refine awp_seq ?_
  refine awp_region rfl ?_
  refine wpo_mv (a := (.ref p0 0)) rfl rfl rfl (o_mv tk rfl (Wk.refl _)) ?_
  refine wpo_mv (a := (.ref p0 0)) rfl rfl rfl (o_c tk false rfl (fun _ => rfl)) ?_
  refine wpo_mv (a := (.ref p0 1)) rfl rfl rfl (o_c tk false rfl (fun _ => rfl)) ?_
  refine wpo_rd (a := (eI x0.at_)) rfl rfl rfl (h_ld tk hH 0 rfl rfl rfl) ?_
  refine wpo_mv (a := (eI x0.at_)) rfl rfl rfl (o_as tk rfl (Wk.refl _)) ?_
  refine wpo_nil ?_
  refine awp_seq ?_
  refine awp_region rfl ?_
  refine wpo_mv (a := (.ref p0 0)) rfl rfl rfl (o_mv tk rfl (Wk.refl _)) ?_
  refine wpo_mv (a := (eI x1)) rfl rfl rfl (o_mv tk rfl (Wk.refl _)) ?_
  refine wpo_cb H (fun x _ => eI x.1) rfl rfl rfl (fun v2 hv => h_call1 hH [(0, (p0, (c_octets_Reader v2.2)))] ⟨⟨_, rfl⟩, trivial⟩ rfl rfl (.cons (.of_eq rfl) (.cons (.of_eq rfl) .nil)) (octets_Reader_Number_ok hv _ (hH.at_ 0 rfl))) fun v2 _ τ hv2 H1 hH => ?_
  refine wpo_mv (a := (eI v2.1)) rfl rfl rfl (o_as tk rfl (Wk.refl _)) ?_
  refine wpo_nil ?_
  refine awp_seq ?_
  refine awp_seq ?_
  refine awp_region rfl ?_
  refine wpo_mv (a := (.ref p0 0)) rfl rfl rfl (o_mv tk rfl (Wk.refl _)) ?_
  refine wpo_mv (a := (.ref p0 0)) rfl rfl rfl (o_c tk false rfl (fun _ => rfl)) ?_
  refine wpo_mv (a := (.ref p0 2)) rfl rfl rfl (o_c tk false rfl (fun _ => rfl)) ?_
  refine wpo_rd (a := (eI v2.2.code)) rfl rfl rfl (h_ld tk hH 0 rfl rfl rfl) ?_
  refine wpo_lt H1 eB rfl rfl rfl (o_ar tk rfl rfl rfl) fun v4 H3 => ?_
  refine wpo_nil ?_
  refine awp_if H3 rfl (fun H5 => ?_) (fun H5 => ?_)
  · refine awp_seq ?_
    refine awp_region rfl ?_
    refine wpo_mv (a := AV.nils) rfl rfl rfl (o_as tk rfl (Wk.refl _)) ?_
    refine wpo_nil ?_
    refine awp_ret ?_
    obtain rfl := Option.some.inj H5
    exact ⟨_, ((eL 1 (@eU .u8 8)) []), rfl, (wk_nils _), .of_eq ((enc_l td22 sz22 (enc_u td5 sz5).cut).cut _ _ _), hH.noT⟩
  · refine awp_skip ?_
    refine awp_seq ?_
    refine awp_seq ?_
    refine awp_region rfl ?_
    refine wpo_mv (a := (eI v2.1)) rfl rfl rfl (o_mv tk rfl (Wk.refl _)) ?_
    refine wpo_mv (a := (.ref p0 0)) rfl rfl rfl (o_mv tk rfl (Wk.refl _)) ?_
    refine wpo_bdr H5 eI rfl rfl rfl (fun v7 hv => h_callr rfl rfl (.cons (.of_eq rfl) .nil) (octets_Reader_Left_ok hv _ (hH.at_ 0 rfl))) fun v7 hv7 H6 => ?_
    refine wpo_lt H6 eB rfl rfl rfl (o_ar tk rfl rfl rfl) fun v9 H8 => ?_
    refine wpo_nil ?_
    refine awp_if H8 rfl (fun H10 => ?_) (fun H10 => ?_)
    · refine awp_seq ?_
      refine awp_region rfl ?_
      refine wpo_mv (a := (.ref p0 0)) rfl rfl rfl (o_mv tk rfl (Wk.refl _)) ?_
      refine wpo_mv (a := (eI x0.at_)) rfl rfl rfl (o_mv tk rfl (Wk.refl _)) ?_
      refine wpo_mv (a := (.ref p0 0)) rfl rfl rfl (o_c tk false rfl (fun _ => rfl)) ?_
      refine wpo_mv (a := (.ref p0 1)) rfl rfl rfl (o_c tk false rfl (fun _ => rfl)) ?_
      obtain ⟨c12, hc13, H11⟩ := lt_ex H10
      refine wpo_z rfl rfl (h_st tk hH 0 rfl ty3 (by simp) rfl rfl (.of_eq rfl) (b := (eI x0.at_)) rfl rfl (Nat.le_of_ble_eq_true rfl) (c_octets_Reader c12) (by rw [← hc13]; rfl)) fun τ hH => ?_
      refine wpo_nil ?_
      refine awp_seq ?_
      refine awp_region rfl ?_
      refine wpo_mv (a := (.ref p0 0)) rfl rfl rfl (o_mv tk rfl (Wk.refl _)) ?_
      refine wpo_cb H11 (fun x _ => .tup []) rfl rfl rfl (fun v15 hv => h_call1 hH [(0, (p0, (c_octets_Reader v15)))] ⟨⟨_, rfl⟩, trivial⟩ rfl rfl (.cons (.of_eq rfl) (.cons (.of_eq rfl) .nil)) (octets_Reader_Fail_ok hv _ (hH.at_ 0 rfl))) fun v15 _ τ hv15 H14 hH => ?_
      refine wpo_nil ?_
      refine awp_seq ?_
      refine awp_region rfl ?_
      refine wpo_mv (a := AV.nils) rfl rfl rfl (o_as tk rfl (Wk.refl _)) ?_
      refine wpo_nil ?_
      refine awp_ret ?_
      obtain rfl := Option.some.inj H14
      exact ⟨_, ((eL 1 (@eU .u8 8)) []), rfl, (wk_nils _), .of_eq ((enc_l td22 sz22 (enc_u td5 sz5).cut).cut _ _ _), hH.noT⟩
    · refine awp_skip ?_
      refine awp_seq ?_
      refine awp_drawS mixed [16] rfl (by decide +kernel) rfl rfl ?_
      refine wpdS_mv (a := (eF 1 (@eU .u8 8) ([] : List (BitVec 8)))) rfl rfl rfl (o_c tk false rfl (fun _ => rfl)) ?_
      refine wpdS_mv (a := (.ref p0 0)) rfl rfl rfl (o_mv tk rfl (Wk.refl _)) ?_
      refine wpdS_mv (a := (.ref p0 0)) rfl rfl rfl (o_c tk false rfl (fun _ => rfl)) ?_
      refine wpdS_mv (a := (.ref p0 0)) rfl rfl rfl (o_c tk false rfl (fun _ => rfl)) ?_
      refine wpdS_rd (a := ((eL 1 (@eU .u8 8)) v2.2.b)) rfl (by decide +kernel) rfl rfl (h_ld tk hH 0 rfl rfl rfl) ?_
      refine wpdS_mv (a := (.ref p0 0)) rfl rfl rfl (o_mv tk rfl (Wk.refl _)) ?_
      refine wpdS_mv (a := (.ref p0 0)) rfl rfl rfl (o_c tk false rfl (fun _ => rfl)) ?_
      refine wpdS_mv (a := (.ref p0 1)) rfl rfl rfl (o_c tk false rfl (fun _ => rfl)) ?_
      refine wpdS_rd (a := (eI v2.2.at_)) rfl (by decide +kernel) rfl rfl (h_ld tk hH 0 rfl rfl rfl) ?_
      refine wpdS_mv (a := (.ref p0 0)) rfl rfl rfl (o_mv tk rfl (Wk.refl _)) ?_
      refine wpdS_mv (a := (.ref p0 0)) rfl rfl rfl (o_c tk false rfl (fun _ => rfl)) ?_
      refine wpdS_mv (a := (.ref p0 1)) rfl rfl rfl (o_c tk false rfl (fun _ => rfl)) ?_
      refine wpdS_rd (a := (eI v2.2.at_)) rfl (by decide +kernel) rfl rfl (h_ld tk hH 0 rfl rfl rfl) ?_
      refine wpdS_mv (a := (eI v2.1)) rfl rfl rfl (o_mv tk rfl (Wk.refl _)) ?_
      refine wpdS_lt H10 eI rfl rfl rfl (o_ar tk rfl rfl rfl) fun v17 H16 => ?_
      refine wpdS_bd H16 (eL 1 (@eU .u8 8)) rfl rfl rfl (fun v19 hv => o_cut tk hv td22 (enc_u td5 sz5) rfl rfl rfl) fun v19 hv19 H18 => ?_
      obtain ⟨v21, hv22, H20⟩ := Option.bind_eq_some_iff.1 H18
      refine wpdS_a (av := fun t => eT t 1 (@eU .u8 8) v21) rfl rfl rfl (h_app0 tk hH hv22 td22 ty5 rfl (by decide) (.inr rfl) (src_l td22 rfl)) fun tk23 τ hH => ?_
      refine wpdS_mv (a := (eT tk23 1 (@eU .u8 8) v21)) rfl rfl rfl (o_as tk rfl (Wk.refl _)) ?_
      refine wpdS_nil ?_
      refine awp_seq ?_
      refine awp_region rfl ?_
      refine wpo_mv (a := (.ref p0 0)) rfl rfl rfl (o_mv tk rfl (Wk.refl _)) ?_
      refine wpo_mv (a := (.ref p0 0)) rfl rfl rfl (o_c tk false rfl (fun _ => rfl)) ?_
      refine wpo_mv (a := (.ref p0 1)) rfl rfl rfl (o_c tk false rfl (fun _ => rfl)) ?_
      refine wpo_rd (a := (eI v2.2.at_)) rfl rfl rfl (h_ld tk hH 0 rfl rfl rfl) ?_
      refine wpo_mv (a := (eI v2.1)) rfl rfl rfl (o_mv tk rfl (Wk.refl _)) ?_
      refine wpo_lt H20 eI rfl rfl rfl (o_ar tk rfl rfl rfl) fun v25 H24 => ?_
      refine wpo_mv (a := (.ref p0 0)) rfl rfl rfl (o_c tk false rfl (fun _ => rfl)) ?_
      refine wpo_mv (a := (.ref p0 1)) rfl rfl rfl (o_c tk false rfl (fun _ => rfl)) ?_
      obtain ⟨c27, hc28, H26⟩ := lt_ex H24
      refine wpo_z rfl rfl (h_st tk hH 0 rfl ty3 (by simp) rfl rfl (.of_eq rfl) (b := (eI v25)) rfl rfl (Nat.le_of_ble_eq_true rfl) (c_octets_Reader c27) (by rw [← hc28]; rfl)) fun τ hH => ?_
      refine wpo_nil ?_
      refine awp_seq ?_
      refine awp_region rfl ?_
      refine wpo_mv (a := (eT tk23 1 (@eU .u8 8) v21)) rfl rfl rfl (o_mv tk rfl (Wk.refl _)) ?_
      refine wpo_mv (a := (eT tk23 1 (@eU .u8 8) v21)) rfl rfl rfl (o_as tk rfl (Wk.refl _)) ?_
      refine wpo_nil ?_
      refine awp_ret ?_
      obtain rfl := Option.some.inj H26
      exact ⟨_, ((eL 1 (@eU .u8 8)) v21), rfl, wk_no, .of_eq ((enc_l td22 sz22 (enc_u td5 sz5).cut).cut _ _ _), hH.noT⟩
end Go.Proofs.YtkmlinaofbcbaaaDoor
namespace Go.Proofs.YtkmlinaofbcbaaaDoor
open Go Go.Va
set_option linter.unusedVariables false
set_option linter.unusedSimpArgs false
set_option maxRecDepth 20000
theorem item_From_ok {x0 : octets_Reader} {r : api_Entry × octets_Reader} (H : item_From x0 = some r) (σ : St) {p0 : Nat} (h0 : σ.objs[p0]? = some (c_octets_Reader x0)) (hg : σ.gl = gls) : ACall Tryd.prog 126 [(.ref p0 0)] σ (fun a τ => a = e_api_Entry r.1 ∧ τ = σ.puts [(p0, (c_octets_Reader r.2))]) := by
  unfold item_From at H
  refine ACall.out [(p0, (c_octets_Reader r.2))] (by simp only [List.mem_cons, List.not_mem_nil, or_false]; rintro _ (rfl) ρ κ <;> exact c_octets_Reader_cut ρ κ _) (acall_start tk Tryd.func126 (by decide) rfl (Nat.le_of_ble_eq_true rfl) ?_)
  have hH := Holds.init σ
  have hH := hH.bring h0 (fun _ h => by cases h)
  refine awp_seq ?_
  refine awp_region rfl ?_
  refine wpo_a (av := fun id => .ref id 0) rfl rfl rfl (h_alloc tk hH ty24 [(eS z_api_Entry.Key), (eI z_api_Entry.Version), (eI z_api_Entry.AsOf), (eI z_api_Entry.Ends), AV.nils] rfl) fun id1 τ ⟨hH, n2⟩ => ?_
  refine wpo_nil ?_
  refine awp_seq ?_
  refine awp_region rfl ?_
  refine wpo_mv (a := (.ref p0 0)) rfl rfl rfl (o_mv tk rfl (Wk.refl _)) ?_
  refine wpo_cb H (fun x _ => (eL 1 (@eU .u8 8)) x.1) rfl rfl rfl (fun v4 hv => h_call1 hH [(1, (p0, (c_octets_Reader v4.2)))] ⟨⟨_, rfl⟩, trivial⟩ rfl rfl (.cons (.of_eq rfl) (.cons (.of_eq rfl) .nil)) (octets_Reader_Bytes_ok hv _ (hH.at_ 1 rfl))) fun v4 _ τ hv4 H3 hH => ?_
  refine wpo_mv (a := (eS v4.1)) rfl rfl rfl (o_b2s tk td22 td9 td5 rfl) ?_
  refine wpo_mv (a := (.agg [(eS (⟨v4.1, (0 : Int), (0 : Int), (0 : Int), ([] : List (BitVec 8))⟩ : api_Entry).Key), (eI (⟨v4.1, (0 : Int), (0 : Int), (0 : Int), ([] : List (BitVec 8))⟩ : api_Entry).Version), (eI (⟨v4.1, (0 : Int), (0 : Int), (0 : Int), ([] : List (BitVec 8))⟩ : api_Entry).AsOf), (eI (⟨v4.1, (0 : Int), (0 : Int), (0 : Int), ([] : List (BitVec 8))⟩ : api_Entry).Ends), AV.nils])) rfl rfl rfl (o_c tk false rfl (fun _ => rfl)) ?_
  refine wpo_a (av := fun id => .ref id 0) rfl rfl rfl (h_alloc tk hH ty24 [(eS z_api_Entry.Key), (eI z_api_Entry.Version), (eI z_api_Entry.AsOf), (eI z_api_Entry.Ends), AV.nils] rfl) fun id5 τ ⟨hH, n6⟩ => ?_
  refine wpo_z rfl rfl (h_st tk hH 0 rfl ty24 (by simp) rfl rfl (.of_eq rfl) (b := (.agg [(eS (⟨v4.1, (0 : Int), (0 : Int), (0 : Int), ([] : List (BitVec 8))⟩ : api_Entry).Key), (eI (⟨v4.1, (0 : Int), (0 : Int), (0 : Int), ([] : List (BitVec 8))⟩ : api_Entry).Version), (eI (⟨v4.1, (0 : Int), (0 : Int), (0 : Int), ([] : List (BitVec 8))⟩ : api_Entry).AsOf), (eI (⟨v4.1, (0 : Int), (0 : Int), (0 : Int), ([] : List (BitVec 8))⟩ : api_Entry).Ends), AV.nils])) rfl rfl (Nat.le_of_ble_eq_true rfl) [(eS ((⟨v4.1, (0 : Int), (0 : Int), (0 : Int), ([] : List (BitVec 8))⟩ : api_Entry) : api_Entry).Key), (eI ((⟨v4.1, (0 : Int), (0 : Int), (0 : Int), ([] : List (BitVec 8))⟩ : api_Entry) : api_Entry).Version), (eI ((⟨v4.1, (0 : Int), (0 : Int), (0 : Int), ([] : List (BitVec 8))⟩ : api_Entry) : api_Entry).AsOf), (eI ((⟨v4.1, (0 : Int), (0 : Int), (0 : Int), ([] : List (BitVec 8))⟩ : api_Entry) : api_Entry).Ends), AV.nils] rfl) fun τ hH => ?_
  refine wpo_nil ?_
  refine awp_seq ?_
  refine awp_region rfl ?_
  refine wpo_mv (a := (.ref p0 0)) rfl rfl rfl (o_mv tk rfl (Wk.refl _)) ?_
  refine wpo_cb H3 (fun x _ => eI x.1) rfl rfl rfl (fun v9 hv => h_call1 hH [(2, (p0, (c_octets_Reader v9.2)))] ⟨⟨_, rfl⟩, trivial⟩ rfl rfl (.cons (.of_eq rfl) (.cons (.of_eq rfl) .nil)) (octets_Reader_Number_ok hv _ (hH.at_ 2 rfl))) fun v9 _ τ hv9 H8 hH => ?_
  refine wpo_mv (a := (.ref id5 1)) rfl rfl rfl (o_c tk false rfl (fun _ => rfl)) ?_
  refine wpo_z rfl rfl (h_st tk hH 0 rfl ty3 (by simp) rfl rfl (.of_eq rfl) (b := (eI v9.1)) rfl rfl (Nat.le_of_ble_eq_true rfl) [(eS ({ ((⟨v4.1, (0 : Int), (0 : Int), (0 : Int), ([] : List (BitVec 8))⟩ : api_Entry) : api_Entry) with Version := v9.1 } : api_Entry).Key), (eI ({ ((⟨v4.1, (0 : Int), (0 : Int), (0 : Int), ([] : List (BitVec 8))⟩ : api_Entry) : api_Entry) with Version := v9.1 } : api_Entry).Version), (eI ({ ((⟨v4.1, (0 : Int), (0 : Int), (0 : Int), ([] : List (BitVec 8))⟩ : api_Entry) : api_Entry) with Version := v9.1 } : api_Entry).AsOf), (eI ({ ((⟨v4.1, (0 : Int), (0 : Int), (0 : Int), ([] : List (BitVec 8))⟩ : api_Entry) : api_Entry) with Version := v9.1 } : api_Entry).Ends), AV.nils] rfl) fun τ hH => ?_
  refine wpo_nil ?_
  refine awp_seq ?_
  refine awp_region rfl ?_
  refine wpo_mv (a := (.ref p0 0)) rfl rfl rfl (o_mv tk rfl (Wk.refl _)) ?_
  refine wpo_cb H8 (fun x _ => eI x.1) rfl rfl rfl (fun v12 hv => h_call1 hH [(2, (p0, (c_octets_Reader v12.2)))] ⟨⟨_, rfl⟩, trivial⟩ rfl rfl (.cons (.of_eq rfl) (.cons (.of_eq rfl) .nil)) (octets_Reader_Number_ok hv _ (hH.at_ 2 rfl))) fun v12 _ τ hv12 H11 hH => ?_
  refine wpo_mv (a := (.ref id5 2)) rfl rfl rfl (o_c tk false rfl (fun _ => rfl)) ?_
  refine wpo_z rfl rfl (h_st tk hH 0 rfl ty3 (by simp) rfl rfl (.of_eq rfl) (b := (eI v12.1)) rfl rfl (Nat.le_of_ble_eq_true rfl) [(eS ({ ({ ((⟨v4.1, (0 : Int), (0 : Int), (0 : Int), ([] : List (BitVec 8))⟩ : api_Entry) : api_Entry) with Version := v9.1 } : api_Entry) with AsOf := v12.1 } : api_Entry).Key), (eI ({ ({ ((⟨v4.1, (0 : Int), (0 : Int), (0 : Int), ([] : List (BitVec 8))⟩ : api_Entry) : api_Entry) with Version := v9.1 } : api_Entry) with AsOf := v12.1 } : api_Entry).Version), (eI ({ ({ ((⟨v4.1, (0 : Int), (0 : Int), (0 : Int), ([] : List (BitVec 8))⟩ : api_Entry) : api_Entry) with Version := v9.1 } : api_Entry) with AsOf := v12.1 } : api_Entry).AsOf), (eI ({ ({ ((⟨v4.1, (0 : Int), (0 : Int), (0 : Int), ([] : List (BitVec 8))⟩ : api_Entry) : api_Entry) with Version := v9.1 } : api_Entry) with AsOf := v12.1 } : api_Entry).Ends), AV.nils] rfl) fun τ hH => ?_
  refine wpo_nil ?_
  refine awp_seq ?_
  refine awp_region rfl ?_
  refine wpo_mv (a := (.ref p0 0)) rfl rfl rfl (o_mv tk rfl (Wk.refl _)) ?_
  refine wpo_cb H11 (fun x _ => eI x.1) rfl rfl rfl (fun v15 hv => h_call1 hH [(2, (p0, (c_octets_Reader v15.2)))] ⟨⟨_, rfl⟩, trivial⟩ rfl rfl (.cons (.of_eq rfl) (.cons (.of_eq rfl) .nil)) (octets_Reader_Number_ok hv _ (hH.at_ 2 rfl))) fun v15 _ τ hv15 H14 hH => ?_
  refine wpo_mv (a := (.ref id5 3)) rfl rfl rfl (o_c tk false rfl (fun _ => rfl)) ?_
  refine wpo_z rfl rfl (h_st tk hH 0 rfl ty3 (by simp) rfl rfl (.of_eq rfl) (b := (eI v15.1)) rfl rfl (Nat.le_of_ble_eq_true rfl) [(eS ({ ({ ({ ((⟨v4.1, (0 : Int), (0 : Int), (0 : Int), ([] : List (BitVec 8))⟩ : api_Entry) : api_Entry) with Version := v9.1 } : api_Entry) with AsOf := v12.1 } : api_Entry) with Ends := v15.1 } : api_Entry).Key), (eI ({ ({ ({ ((⟨v4.1, (0 : Int), (0 : Int), (0 : Int), ([] : List (BitVec 8))⟩ : api_Entry) : api_Entry) with Version := v9.1 } : api_Entry) with AsOf := v12.1 } : api_Entry) with Ends := v15.1 } : api_Entry).Version), (eI ({ ({ ({ ((⟨v4.1, (0 : Int), (0 : Int), (0 : Int), ([] : List (BitVec 8))⟩ : api_Entry) : api_Entry) with Version := v9.1 } : api_Entry) with AsOf := v12.1 } : api_Entry) with Ends := v15.1 } : api_Entry).AsOf), (eI ({ ({ ({ ((⟨v4.1, (0 : Int), (0 : Int), (0 : Int), ([] : List (BitVec 8))⟩ : api_Entry) : api_Entry) with Version := v9.1 } : api_Entry) with AsOf := v12.1 } : api_Entry) with Ends := v15.1 } : api_Entry).Ends), AV.nils] rfl) fun τ hH => ?_
  refine wpo_nil ?_
  refine awp_seq ?_
  refine awp_region rfl ?_
  refine wpo_mv (a := (.ref p0 0)) rfl rfl rfl (o_mv tk rfl (Wk.refl _)) ?_
  refine wpo_cb H14 (fun x _ => (eL 1 (@eU .u8 8)) x.1) rfl rfl rfl (fun v18 hv => h_call1 hH [(2, (p0, (c_octets_Reader v18.2)))] ⟨⟨_, rfl⟩, trivial⟩ rfl rfl (.cons (.of_eq rfl) (.cons (.of_eq rfl) .nil)) (octets_Reader_Bytes_ok hv _ (hH.at_ 2 rfl))) fun v18 _ τ hv18 H17 hH => ?_
  refine wpo_mv (a := (.ref id5 4)) rfl rfl rfl (o_c tk false rfl (fun _ => rfl)) ?_
  refine wpo_z rfl rfl (h_st tk hH 0 rfl ty22 (by simp) rfl rfl (.of_eq rfl) (b := ((eL 1 (@eU .u8 8)) v18.1)) rfl rfl (Nat.le_of_ble_eq_true rfl) (c_api_Entry ({ ({ ({ ({ ((⟨v4.1, (0 : Int), (0 : Int), (0 : Int), ([] : List (BitVec 8))⟩ : api_Entry) : api_Entry) with Version := v9.1 } : api_Entry) with AsOf := v12.1 } : api_Entry) with Ends := v15.1 } : api_Entry) with Value := v18.1 } : api_Entry)) rfl) fun τ hH => ?_
  refine wpo_nil ?_
  refine awp_seq ?_
  refine awp_seq ?_
  refine awp_region rfl ?_
  refine wpo_mv (a := (.ref p0 0)) rfl rfl rfl (o_mv tk rfl (Wk.refl _)) ?_
  refine wpo_bdr H17 eI rfl rfl rfl (fun v21 hv => h_callr rfl rfl (.cons (.of_eq rfl) .nil) (octets_Reader_Code_ok hv _ (hH.at_ 2 rfl))) fun v21 hv21 H20 => ?_
  refine wpo_lt H20 eB rfl rfl rfl (o_ar tk rfl rfl rfl) fun v23 H22 => ?_
  refine wpo_nil ?_
  obtain ⟨s24, hs26, hj27⟩ := Option.bind_eq_some_iff.1 H22
  refine awp_cutn (fun fr τ => WkF fr (fm [(0, (.ref p0 0)), (2, (.ref id1 0)), (3, (.ref id5 0))]) ∧ Holds σ [(id5, (c_api_Entry ({ ({ ({ ({ ((⟨v4.1, (0 : Int), (0 : Int), (0 : Int), ([] : List (BitVec 8))⟩ : api_Entry) : api_Entry) with Version := v9.1 } : api_Entry) with AsOf := v12.1 } : api_Entry) with Ends := v15.1 } : api_Entry) with Value := v18.1 } : api_Entry))), (id1, [(eS z_api_Entry.Key), (eI z_api_Entry.Version), (eI z_api_Entry.AsOf), (eI z_api_Entry.Ends), AV.nils]), (p0, (c_octets_Reader s24))] [] τ) ?_ ?_
  · rintro fr τ ⟨hfr, hH⟩
    have H38 := hj27
    refine AWP.fm [(0, (.ref p0 0)), (2, (.ref id1 0)), (3, (.ref id5 0))] hfr ?_
    refine awp_seq ?_
    refine awp_seq ?_
    refine awp_region rfl ?_
    refine wpo_mv (a := (.ref p0 0)) rfl rfl rfl (o_mv tk rfl (Wk.refl _)) ?_
    refine wpo_bdr H38 eI rfl rfl rfl (fun v40 hv => h_callr rfl rfl (.cons (.of_eq rfl) .nil) (octets_Reader_Code_ok hv _ (hH.at_ 2 rfl))) fun v40 hv40 H39 => ?_
    refine wpo_lt H39 eB rfl rfl rfl (o_ar tk rfl rfl rfl) fun v42 H41 => ?_
    refine wpo_nil ?_
    refine awp_if H41 rfl (fun H43 => ?_) (fun H43 => ?_)
    · refine awp_seq ?_
      refine awp_region rfl ?_
      refine wpo_mv (a := (.agg [(eS (⟨([] : List (BitVec 8)), (0 : Int), (0 : Int), (0 : Int), ([] : List (BitVec 8))⟩ : api_Entry).Key), (eI (⟨([] : List (BitVec 8)), (0 : Int), (0 : Int), (0 : Int), ([] : List (BitVec 8))⟩ : api_Entry).Version), (eI (⟨([] : List (BitVec 8)), (0 : Int), (0 : Int), (0 : Int), ([] : List (BitVec 8))⟩ : api_Entry).AsOf), (eI (⟨([] : List (BitVec 8)), (0 : Int), (0 : Int), (0 : Int), ([] : List (BitVec 8))⟩ : api_Entry).Ends), AV.nils])) rfl rfl rfl (o_c tk false rfl (fun _ => rfl)) ?_
      refine wpo_z rfl rfl (h_st tk hH 1 rfl ty24 (by simp) rfl rfl (.of_eq rfl) (b := (.agg [(eS (⟨([] : List (BitVec 8)), (0 : Int), (0 : Int), (0 : Int), ([] : List (BitVec 8))⟩ : api_Entry).Key), (eI (⟨([] : List (BitVec 8)), (0 : Int), (0 : Int), (0 : Int), ([] : List (BitVec 8))⟩ : api_Entry).Version), (eI (⟨([] : List (BitVec 8)), (0 : Int), (0 : Int), (0 : Int), ([] : List (BitVec 8))⟩ : api_Entry).AsOf), (eI (⟨([] : List (BitVec 8)), (0 : Int), (0 : Int), (0 : Int), ([] : List (BitVec 8))⟩ : api_Entry).Ends), AV.nils])) rfl rfl (Nat.le_of_ble_eq_true rfl) [(eS ((⟨([] : List (BitVec 8)), (0 : Int), (0 : Int), (0 : Int), ([] : List (BitVec 8))⟩ : api_Entry) : api_Entry).Key), (eI ((⟨([] : List (BitVec 8)), (0 : Int), (0 : Int), (0 : Int), ([] : List (BitVec 8))⟩ : api_Entry) : api_Entry).Version), (eI ((⟨([] : List (BitVec 8)), (0 : Int), (0 : Int), (0 : Int), ([] : List (BitVec 8))⟩ : api_Entry) : api_Entry).AsOf), (eI ((⟨([] : List (BitVec 8)), (0 : Int), (0 : Int), (0 : Int), ([] : List (BitVec 8))⟩ : api_Entry) : api_Entry).Ends), AV.nils] rfl) fun τ hH => ?_
      refine wpo_nil ?_
      refine awp_ret ?_
      obtain rfl := Option.some.inj H43
      exact ⟨_, (e_api_Entry ((⟨([] : List (BitVec 8)), (0 : Int), (0 : Int), (0 : Int), ([] : List (BitVec 8))⟩ : api_Entry) : api_Entry)), (ares_1 (ares_cell hH 1 rfl rfl rfl)), (wk_agg (.cons (.of_eq rfl) (.cons (.of_eq rfl) (.cons (.of_eq rfl) (.cons (.of_eq rfl) (.cons (wk_nils _) .nil)))))), .of_eq (enc24.cut _ _ _), ((hH.noT.drop n6).drop n2)⟩
    · refine awp_skip ?_
      refine awp_seq ?_
      refine awp_region rfl ?_
      refine wpo_rd (a := (e_api_Entry ({ ({ ({ ({ ((⟨v4.1, (0 : Int), (0 : Int), (0 : Int), ([] : List (BitVec 8))⟩ : api_Entry) : api_Entry) with Version := v9.1 } : api_Entry) with AsOf := v12.1 } : api_Entry) with Ends := v15.1 } : api_Entry) with Value := v18.1 } : api_Entry))) rfl rfl rfl (h_ld tk hH 0 rfl rfl rfl) ?_
      refine wpo_z rfl rfl (h_st tk hH 1 rfl ty24 (by simp) rfl rfl (.of_eq rfl) (b := (e_api_Entry ({ ({ ({ ({ ((⟨v4.1, (0 : Int), (0 : Int), (0 : Int), ([] : List (BitVec 8))⟩ : api_Entry) : api_Entry) with Version := v9.1 } : api_Entry) with AsOf := v12.1 } : api_Entry) with Ends := v15.1 } : api_Entry) with Value := v18.1 } : api_Entry))) (enc24.flat _) rfl (Nat.le_of_ble_eq_true rfl) (c_api_Entry (({ ({ ({ ({ ((⟨v4.1, (0 : Int), (0 : Int), (0 : Int), ([] : List (BitVec 8))⟩ : api_Entry) : api_Entry) with Version := v9.1 } : api_Entry) with AsOf := v12.1 } : api_Entry) with Ends := v15.1 } : api_Entry) with Value := v18.1 } : api_Entry) : api_Entry)) rfl) fun τ hH => ?_
      refine wpo_nil ?_
      refine awp_ret ?_
      obtain rfl := Option.some.inj H43
      exact ⟨_, (e_api_Entry (({ ({ ({ ({ ((⟨v4.1, (0 : Int), (0 : Int), (0 : Int), ([] : List (BitVec 8))⟩ : api_Entry) : api_Entry) with Version := v9.1 } : api_Entry) with AsOf := v12.1 } : api_Entry) with Ends := v15.1 } : api_Entry) with Value := v18.1 } : api_Entry) : api_Entry)), (ares_1 (ares_cell hH 1 rfl rfl rfl)), (.of_eq rfl), .of_eq (enc24.cut _ _ _), ((hH.noT.drop n6).drop n2)⟩
  · refine awp_if hs26 rfl (fun H28 => ?_) (fun H28 => ?_)
    · refine awp_seq ?_
      refine awp_region rfl ?_
      refine wpo_rd (a := (e_api_Entry ({ ({ ({ ({ ((⟨v4.1, (0 : Int), (0 : Int), (0 : Int), ([] : List (BitVec 8))⟩ : api_Entry) : api_Entry) with Version := v9.1 } : api_Entry) with AsOf := v12.1 } : api_Entry) with Ends := v15.1 } : api_Entry) with Value := v18.1 } : api_Entry))) rfl rfl rfl (h_ld tk hH 0 rfl rfl rfl) ?_
      refine wpo_bd H28 eErr rfl rfl rfl (fun v30 hv => OpP.of_call rfl rfl (.cons (.of_eq rfl) .nil) (item_Check_ok hv)) fun v30 hv30 H29 => ?_
      refine wpo_mv (a := (eErr v30)) rfl rfl rfl (o_as tk rfl (Wk.refl _)) ?_
      refine wpo_nil ?_
      refine awp_seq ?_
      refine awp_region rfl ?_
      refine wpo_mv (a := (eErr v30)) rfl rfl rfl (o_mv tk rfl (Wk.refl _)) ?_
      refine wpo_lt H29 eB rfl rfl rfl (o_err_neq tk rfl rfl rfl) fun v32 H31 => ?_
      refine wpo_nil ?_
      refine awp_if H31 rfl (fun H33 => ?_) (fun H33 => ?_)
      · refine awp_region rfl ?_
        refine wpo_mv (a := (.ref p0 0)) rfl rfl rfl (o_mv tk rfl (Wk.refl _)) ?_
        refine wpo_mv (a := (eErr v30)) rfl rfl rfl (o_mv tk rfl (Wk.refl _)) ?_
        refine wpo_bdr H33 eI rfl rfl rfl (fun v35 hv => h_callr rfl rfl (.cons (.of_eq rfl) .nil) (trouble_Of_ok hv _ (hH.gl.trans hg))) fun v35 hv35 H34 => ?_
        refine wpo_cb H34 (fun x _ => .tup []) rfl rfl rfl (fun v37 hv => h_call1 hH [(2, (p0, (c_octets_Reader v37)))] ⟨⟨_, rfl⟩, trivial⟩ rfl rfl (.cons (.of_eq rfl) (.cons (.of_eq rfl) .nil)) (octets_Reader_Fail_ok hv _ (hH.at_ 2 rfl))) fun v37 _ τ hv37 H36 hH => ?_
        refine wpo_nil ?_
        have e := Option.some.inj H36
        subst e
        exact ⟨(wkf_cons (.of_eq rfl) (wkf_cons (.of_eq rfl) (wkf_cons (.of_eq rfl) (wkf_nil _)))), hH⟩
      · refine awp_skip ?_
        have e := Option.some.inj H33
        subst e
        exact ⟨(wkf_cons (.of_eq rfl) (wkf_cons (.of_eq rfl) (wkf_cons (.of_eq rfl) (wkf_nil _)))), hH⟩
    · refine awp_skip ?_
      have e := Option.some.inj H28
      subst e
      exact ⟨(wkf_cons (.of_eq rfl) (wkf_cons (.of_eq rfl) (wkf_cons (.of_eq rfl) (wkf_nil _)))), hH⟩
end Go.Proofs.YtkmlinaofbcbaaaDoor

/- NOTHING COMES THAT WAS NOT SENT: whatever befalls messages, each that comes was sent; and what comes, is lost, and is on its way, is as many as were sent and doubled. (part 4 of 7) -/
import Derived.Test.YtedcgeghgbgonaaDoorKLinesHonest3
import Derived.LaidEql
import Derived.RowKitTokens
import Derived.Stop.Asserts
import Derived.Test.YtedcgeghgbgonaaDoorProg
import Derived.WalkKit
namespace Go.Proofs.YtedcgeghgbgonaaDoor
open Go Go.Va
set_option linter.unusedVariables false
set_option linter.unusedSimpArgs false
set_option maxRecDepth 20000
noncomputable def checksum_Fits (x0 : List (BitVec 8)) : Option (Bool) :=
 lt (((x0).length : Int)) fun v2 =>
 lt (w64 (v2 - (4 : Int))) fun v4 =>
 lt (decide (v4 < (0 : Int))) fun v6 =>
 if v6 = true then
  some false
 else
  (cutTo x0 v4).bind fun v9 =>
  (checksum_Sum v9).bind fun v11 =>
  (checksum_Four v11).bind fun v13 =>
  (cutFrom x0 v4).bind fun v15 =>
  (cutTo v15 4).bind fun v17 =>
  (whole 4 v17).bind fun v19 =>
  (eqA 4 v13 v19).bind fun v21 =>
  some v21
noncomputable def octets_Read (x0 : List (BitVec 8)) : Option (octets_Reader) :=
 (app 1 ([] : List (BitVec 8)) x0).bind fun v2 =>
 lt ((⟨v2, (0 : Int), (0 : Int)⟩ : octets_Reader)) fun v6 =>
 some v6
noncomputable def octets_Reader_Fail (x0 : octets_Reader) (x1 : Int) : Option (octets_Reader) :=
 lt (x0.code == (0 : Int)) fun v2 =>
 if v2 = true then
  lt (({ x0 with code := x1 } : octets_Reader)) fun c5 =>
  some c5
 else
  some x0
noncomputable def octets_Reader_Number_b0 (x1 : Int) (c1 : Int) (c2 : Int) (c3 : octets_Reader) : Option ((Int × Int × octets_Reader) ⊕ (octets_Reader ⊕ (Int × octets_Reader))) :=
 lt (c3.code == (0 : Int)) fun v14 =>
 if v14 = true then
  lt (((c3.b).length : Int)) fun v17 =>
  lt (decide (c2 ≥ v17)) fun v19 =>
  if v19 = true then
   (octets_Reader_Fail c3 (6 : Int)).bind fun v22 =>
   some (.inr (.inl v22))
  else
   (ix c3.b c2).bind fun v24 =>
   lt (w64 (c2 + (1 : Int))) fun v26 =>
   (
    lt (v24 == 128#8) fun v32 =>
    if v32 = true then
     lt (c1 == (0 : Int)) fun v35 =>
     if v35 = true then
      lt (w64 (c3.at_ + (1 : Int))) fun v38 =>
      lt (v26 == v38) fun v40 =>
      some v40
     else
      some false
    else
     some false
   : Option (Bool)).bind fun s27 =>
    if s27 = true then
     (octets_Reader_Fail c3 (5 : Int)).bind fun v44 =>
     some (.inl (c1, v26, v44))
    else
     lt (shr64 x1 7) fun v46 =>
     lt (decide (c1 > v46)) fun v48 =>
     if v48 = true then
      (octets_Reader_Fail c3 (2 : Int)).bind fun v51 =>
      some (.inl (c1, v26, v51))
     else
      lt (decide (128#8 ≤ v24)) fun v53 =>
      if v53 = true then
       lt (shl64 c1 7) fun v56 =>
       lt (v24 &&& 127#8) fun v58 =>
       lt ((BitVec.toNat v58 : Int)) fun v60 =>
       lt (or64 v56 v60) fun v62 =>
       some (.inl (v62, v26, c3))
      else
       lt (shl64 c1 7) fun v64 =>
       lt ((BitVec.toNat v24 : Int)) fun v66 =>
       lt (or64 v64 v66) fun v68 =>
       lt (decide (v68 > x1)) fun v70 =>
       if v70 = true then
        (octets_Reader_Fail c3 (2 : Int)).bind fun v73 =>
        some (.inl (v68, v26, v73))
       else
        lt (({ c3 with at_ := v26 } : octets_Reader)) fun c75 =>
        some (.inr (.inr (v68, c75)))
 else
  some (.inr (.inl c3))
noncomputable def octets_Reader_Number_l0 (x1 : Int) (s : Int × Int × octets_Reader) : Option (octets_Reader ⊕ (Int × octets_Reader)) := loopO (fun s => octets_Reader_Number_b0 x1 s.1 s.2.1 s.2.2) s
noncomputable def octets_Reader_Number (x0 : octets_Reader) (x1 : Int) : Option (Int × octets_Reader) :=
 (octets_Reader_Number_l0 x1 ((0 : Int), x0.at_, x0)).bind fun o4 =>
  Sum.elim (fun s11 : octets_Reader =>
   some ((0 : Int), s11)
   ) (fun y => some y) o4
noncomputable def octets_Reader_Code (x0 : octets_Reader) : Option (Int) :=
 some x0.code
noncomputable def octets_Reader_Left (x0 : octets_Reader) : Option (Int) :=
 lt (((x0.b).length : Int)) fun v2 =>
 lt (w64 (v2 - x0.at_)) fun v4 =>
 some v4
noncomputable def octets_Reader_Bytes (x0 : octets_Reader) (x1 : Int) : Option ((List (BitVec 8)) × octets_Reader) :=
 (octets_Reader_Number x0 x1).bind fun v2 =>
 lt (v2.2.code != (0 : Int)) fun v4 =>
 if v4 = true then
  some ([], v2.2)
 else
  (octets_Reader_Left v2.2).bind fun v7 =>
  lt (decide (v2.1 > v7)) fun v9 =>
  if v9 = true then
   lt (({ v2.2 with at_ := x0.at_ } : octets_Reader)) fun c12 =>
   (octets_Reader_Fail c12 (6 : Int)).bind fun v15 =>
   some ([], v15)
  else
   lt (w64 (v2.2.at_ + v2.1)) fun v17 =>
   (cutO v2.2.b v2.2.at_ v17).bind fun v19 =>
   (app 1 ([] : List (BitVec 8)) v19).bind fun v21 =>
   lt (w64 (v2.2.at_ + v2.1)) fun v25 =>
   lt (({ v2.2 with at_ := v25 } : octets_Reader)) fun c27 =>
   some (v21, c27)
noncomputable def octets_Reader_End (x0 : octets_Reader) : Option (Int × octets_Reader) :=
 (octets_Reader_Left x0).bind fun v2 =>
 lt (decide (v2 > (0 : Int))) fun v4 =>
 (
  if v4 = true then
   (octets_Reader_Fail x0 (5 : Int)).bind fun v11 =>
   some v11
  else
   some x0
 : Option (octets_Reader)).bind fun s5 =>
  some (s5.code, s5)
noncomputable def octets_Reader_At (x0 : octets_Reader) : Option (Int) :=
 some x0.at_
noncomputable def wire_Get_b0 (x0 : List (BitVec 8)) (c67 : List (BitVec 8) × Nat) (c68 : api_Msg) (c69 : octets_Reader) : Option (((List (BitVec 8) × Nat) × api_Msg × octets_Reader) ⊕ ((List (BitVec 8) × Nat) × api_Msg × octets_Reader)) :=
 (nxS c67).bind fun v80 =>
 Option.elim v80 (
  some (.inr (c67, c68, c69))
 ) (fun c82 =>
  (octets_Reader_Code c69).bind fun v84 =>
  lt (v84 != (0 : Int)) fun v86 =>
  if v86 = true then
   some (.inr ((c67.1, c67.2 + 1), c68, c69))
  else
   lt (c82 == (73 : Int)) fun v89 =>
   if v89 = true then
    (octets_Reader_Number c69 (1099511627776 : Int)).bind fun v92 =>
    lt (({ c68 with Id := v92.1 } : api_Msg)) fun c94 =>
    some (.inl ((c67.1, c67.2 + 1), c94, v92.2))
   else
    lt (c82 == (75 : Int)) fun v97 =>
    if v97 = true then
     (octets_Reader_Bytes c69 (40 : Int)).bind fun v100 =>
     lt (({ c68 with X := { c68.X with Key := v100.1 } } : api_Msg)) fun c102 =>
     some (.inl ((c67.1, c67.2 + 1), c102, v100.2))
    else
     lt (c82 == (65 : Int)) fun v105 =>
     if v105 = true then
      (octets_Reader_Number c69 (1099511627776 : Int)).bind fun v108 =>
      lt (({ c68 with X := { c68.X with AsOf := v108.1 } } : api_Msg)) fun c110 =>
      some (.inl ((c67.1, c67.2 + 1), c110, v108.2))
     else
      lt (c82 == (70 : Int)) fun v113 =>
      if v113 = true then
       (octets_Reader_Number c69 (1 : Int)).bind fun v116 =>
       lt (v116.1 == (1 : Int)) fun v118 =>
       lt (({ c68 with Found := v118 } : api_Msg)) fun c120 =>
       some (.inl ((c67.1, c67.2 + 1), c120, v116.2))
      else
       lt (c82 == (86 : Int)) fun v123 =>
       if v123 = true then
        if c68.Found = true then
         (octets_Reader_Number c69 (1099511627776 : Int)).bind fun v127 =>
         (octets_Reader_Number v127.2 (1099511627776 : Int)).bind fun v129 =>
         lt (({ c68 with X := { c68.X with Version := v127.1 } } : api_Msg)) fun c131 =>
         lt (({ c131 with X := { c131.X with Ends := v129.1 } } : api_Msg)) fun c134 =>
         (octets_Reader_Bytes v129.2 (4096 : Int)).bind fun v137 =>
         lt (({ c134 with X := { c134.X with Value := v137.1 } } : api_Msg)) fun c139 =>
         some (.inl ((c67.1, c67.2 + 1), c139, v137.2))
        else
         some (.inl ((c67.1, c67.2 + 1), c68, c69))
       else
        some (.inl ((c67.1, c67.2 + 1), c68, c69))
 )
noncomputable def wire_Get_l0 (x0 : List (BitVec 8)) (s : (List (BitVec 8) × Nat) × api_Msg × octets_Reader) : Option ((List (BitVec 8) × Nat) × api_Msg × octets_Reader) := loopO (fun s => wire_Get_b0 x0 s.1 s.2.1 s.2.2) s
noncomputable def wire_Get (x0 : List (BitVec 8)) : Option (api_Msg × Err) :=
 lt (((x0).length : Int)) fun v4 =>
 lt (decide (v4 < (4 : Int))) fun v6 =>
 if v6 = true then
  lt ((⟨(0 : Int), (0 : Int), (0 : Int), (0 : Int), (0 : Int), z_api_Entry, false⟩ : api_Msg)) fun v9 =>
  lt (((x0).length : Int)) fun v11 =>
  (trouble_New ([103#8, 101#8, 116#8] : List (BitVec 8)) v11 (6 : Int)).bind fun v13 =>
  lt ((v9 : api_Msg)) fun c15 =>
  some (c15, v13)
 else
  (checksum_Fits x0).bind fun v18 =>
  lt (!v18) fun v20 =>
  if v20 = true then
   lt ((⟨(0 : Int), (0 : Int), (0 : Int), (0 : Int), (0 : Int), z_api_Entry, false⟩ : api_Msg)) fun v23 =>
   lt (((x0).length : Int)) fun v25 =>
   (trouble_New ([103#8, 101#8, 116#8] : List (BitVec 8)) v25 (7 : Int)).bind fun v27 =>
   lt ((v23 : api_Msg)) fun c29 =>
   some (c29, v27)
  else
   lt (((x0).length : Int)) fun v32 =>
   lt (w64 (v32 - (4 : Int))) fun v34 =>
   (cutTo x0 v34).bind fun v36 =>
   (octets_Read v36).bind fun v38 =>
   (octets_Reader_Number v38 (6 : Int)).bind fun v44 =>
   (octets_Reader_Number v44.2 (16 : Int)).bind fun v46 =>
   (octets_Reader_Number v46.2 (16 : Int)).bind fun v48 =>
   (octets_Reader_Number v48.2 (1099511627776 : Int)).bind fun v50 =>
   lt (({ z_api_Msg with Kind := v44.1 } : api_Msg)) fun c52 =>
   lt (({ c52 with From := v46.1 } : api_Msg)) fun c55 =>
   lt (({ c55 with To := v48.1 } : api_Msg)) fun c58 =>
   lt (({ c58 with Epoch := v50.1 } : api_Msg)) fun c61 =>
   (wire_parts c61.Kind).bind fun v64 =>
   (wire_Get_l0 x0 ((v64, 0), c61, v50.2)).bind fun s77 =>
    (octets_Reader_End s77.2.2).bind fun v143 =>
    lt (v143.1 != (0 : Int)) fun v145 =>
    if v145 = true then
     lt ((⟨(0 : Int), (0 : Int), (0 : Int), (0 : Int), (0 : Int), z_api_Entry, false⟩ : api_Msg)) fun v148 =>
     (octets_Reader_At v143.2).bind fun v150 =>
     (trouble_New ([103#8, 101#8, 116#8] : List (BitVec 8)) v150 v143.1).bind fun v152 =>
     lt ((v148 : api_Msg)) fun c154 =>
     some (c154, v152)
    else
     (wire_Check s77.2.1).bind fun v157 =>
     lt (!Err.isNil v157) fun v159 =>
     if v159 = true then
      lt ((⟨(0 : Int), (0 : Int), (0 : Int), (0 : Int), (0 : Int), z_api_Entry, false⟩ : api_Msg)) fun v162 =>
      lt (((x0).length : Int)) fun v164 =>
      (trouble_Wrap ([103#8, 101#8, 116#8] : List (BitVec 8)) v164 v157).bind fun v166 =>
      lt ((v162 : api_Msg)) fun c168 =>
      some (c168, v166)
     else
      lt ((s77.2.1 : api_Msg)) fun c171 =>
      some (c171, Err.nil)
noncomputable def lines_Lines_Look (x0 : lines_Lines) (x1 : Int) : Option (api_Msg × Err) :=
 (lines_Lines_at x0 ([108#8, 111#8, 111#8, 107#8] : List (BitVec 8)) x1).bind fun v4 =>
 lt (!Err.isNil v4) fun v6 =>
 if v6 = true then
  lt ((⟨(0 : Int), (0 : Int), (0 : Int), (0 : Int), (0 : Int), z_api_Entry, false⟩ : api_Msg)) fun v9 =>
  lt ((v9 : api_Msg)) fun c11 =>
  some (c11, v4)
 else
  (chk (x0.l).length x1).bind fun v14 =>
  (ixA (x0.l).length x0.l x1).bind fun v16 =>
  (wire_Get v16.b).bind fun v18 =>
  lt ((v18.1 : api_Msg)) fun c22 =>
  (trouble_Wrap ([108#8, 111#8, 111#8, 107#8] : List (BitVec 8)) x1 v18.2).bind fun v25 =>
  lt ((c22 : api_Msg)) fun c27 =>
  some (c27, v25)
noncomputable def lines_Lines_All_b0 (x0 : lines_Lines) (v2 : Int) (c3 : List api_Msg) (c4 : Int) : Option (((List api_Msg) × Int) ⊕ ((List api_Msg))) :=
 lt (decide (c4 < v2)) fun v16 =>
 if v16 = true then
  (chk (x0.l).length c4).bind fun v19 =>
  (ixA (x0.l).length x0.l c4).bind fun v21 =>
  (lines_Lines_Look x0 c4).bind fun v26 =>
  lt ((v26.1 : api_Msg)) fun c30 =>
  (
   lt (Err.isNil v26.2) fun v37 =>
   if v37 = true then
    lt (!((v21 : lines_parcel).spoilt)) fun v40 =>
    some v40
   else
    some false
  : Option (Bool)).bind fun s32 =>
   if s32 = true then
    lt (([c30] : List api_Msg)) fun v44 =>
    (app 112 c3 v44).bind fun v46 =>
    lt (w64 (c4 + (1 : Int))) fun v50 =>
    some (.inl (v46, v50))
   else
    lt (w64 (c4 + (1 : Int))) fun v52 =>
    some (.inl (c3, v52))
 else
  some (.inr c3)
noncomputable def lines_Lines_All_l0 (x0 : lines_Lines) (v2 : Int) (s : (List api_Msg) × Int) : Option ((List api_Msg)) := loopO (fun s => lines_Lines_All_b0 x0 v2 s.1 s.2) s
noncomputable def lines_Lines_All (x0 : lines_Lines) : Option ((List api_Msg)) :=
 lt ((((x0.l).length : Nat) : Int)) fun v2 =>
 (lines_Lines_All_l0 x0 v2 ([], (0 : Int))).bind fun s13 =>
  some s13
noncomputable def lines_New : Option (lines_Lines) :=
 some ({ (⟨([] : List lines_parcel), (0 : Int)⟩ : lines_Lines) with l := ([] : List lines_parcel) } : lines_Lines)
noncomputable def octets_Put_b1 (x1 : List Int) (v6 : Int) (c7 : List (BitVec 8)) (c8 : Int) (v22 : Int) (c23 : Int) : Option ((Int) ⊕ (Int)) :=
 lt (w64 ((7 : Int) * c23)) fun v34 =>
 ((sc v34).map fun m => shr64 v22 m).bind fun v36 =>
 lt (decide (v36 ≥ (128 : Int))) fun v38 =>
 if v38 = true then
  lt (w64 (c23 + (1 : Int))) fun v41 =>
  some (.inl v41)
 else
  some (.inr c23)
noncomputable def octets_Put_l1 (x1 : List Int) (v6 : Int) (c7 : List (BitVec 8)) (c8 : Int) (v22 : Int) (s : Int) : Option (Int) := loopO (fun s => octets_Put_b1 x1 v6 c7 c8 v22 s) s
noncomputable def octets_Put_b2 (x1 : List Int) (v6 : Int) (c8 : Int) (v22 : Int) (c43 : List (BitVec 8)) (c44 : Int) : Option (((List (BitVec 8)) × Int) ⊕ ((List (BitVec 8)))) :=
 lt (decide (c44 > (0 : Int))) fun v55 =>
 if v55 = true then
  lt (w64 ((7 : Int) * c44)) fun v58 =>
  ((sc v58).map fun m => shr64 v22 m).bind fun v60 =>
  lt (BitVec.ofInt 8 v60) fun v62 =>
  lt (v62 ||| 128#8) fun v64 =>
  lt (([v64] : List (BitVec 8))) fun v66 =>
  (app 1 c43 v66).bind fun v68 =>
  lt (w64 (c44 - (1 : Int))) fun v72 =>
  some (.inl (v68, v72))
 else
  some (.inr c43)
noncomputable def octets_Put_l2 (x1 : List Int) (v6 : Int) (c8 : Int) (v22 : Int) (s : (List (BitVec 8)) × Int) : Option ((List (BitVec 8))) := loopO (fun s => octets_Put_b2 x1 v6 c8 v22 s.1 s.2) s
noncomputable def octets_Put_b0 (x1 : List Int) (v6 : Int) (c7 : List (BitVec 8)) (c8 : Int) : Option (((List (BitVec 8)) × Int) ⊕ ((List (BitVec 8)))) :=
 lt (decide (c8 < v6)) fun v19 =>
 if v19 = true then
  (ix x1 c8).bind fun v22 =>
  (octets_Put_l1 x1 v6 c7 c8 v22 (0 : Int)).bind fun s31 =>
   (octets_Put_l2 x1 v6 c8 v22 (c7, s31)).bind fun s52 =>
    lt (BitVec.ofInt 8 v22) fun v75 =>
    lt (v75 &&& 127#8) fun v77 =>
    lt (([v77] : List (BitVec 8))) fun v79 =>
    (app 1 s52 v79).bind fun v81 =>
    lt (w64 (c8 + (1 : Int))) fun v85 =>
    some (.inl (v81, v85))
 else
  some (.inr c7)
noncomputable def octets_Put_l0 (x1 : List Int) (v6 : Int) (s : (List (BitVec 8)) × Int) : Option ((List (BitVec 8))) := loopO (fun s => octets_Put_b0 x1 v6 s.1 s.2) s
noncomputable def octets_Put (x0 : List (BitVec 8)) (x1 : List Int) : Option ((List (BitVec 8))) :=
 (app 1 ([] : List (BitVec 8)) x0).bind fun v2 =>
 lt (((x1).length : Int)) fun v6 =>
 (octets_Put_l0 x1 v6 (v2, (0 : Int))).bind fun s16 =>
  some s16
noncomputable def octets_Bytes (x0 : List (BitVec 8)) (x1 : List (BitVec 8)) : Option ((List (BitVec 8))) :=
 lt (((x1).length : Int)) fun v2 =>
 lt (([v2] : List Int)) fun v4 =>
 (octets_Put x0 v4).bind fun v6 =>
 (app 1 v6 x1).bind fun v9 =>
 some v9
noncomputable def checksum_Seal (x0 : List (BitVec 8)) : Option ((List (BitVec 8))) :=
 (checksum_Sum x0).bind fun v2 =>
 (checksum_Four v2).bind fun v4 =>
 (stW 4 (List.replicate 4 0#8) v4).bind fun c8 =>
 (app 1 ([] : List (BitVec 8)) x0).bind fun v11 =>
 ((whole 4 c8).bind fun w => app 1 v11 w).bind fun v15 =>
 some v15
noncomputable def wire_Put_b0 (x0 : api_Msg) (c16 : List (BitVec 8)) (c17 : List (BitVec 8) × Nat) : Option (((List (BitVec 8)) × (List (BitVec 8) × Nat)) ⊕ ((List (BitVec 8)) × (List (BitVec 8) × Nat))) :=
 (nxS c17).bind fun v28 =>
 Option.elim v28 (
  some (.inr (c16, c17))
 ) (fun c30 =>
  lt (c30 == (73 : Int)) fun v32 =>
  if v32 = true then
   lt (([x0.Id] : List Int)) fun v35 =>
   (octets_Put c16 v35).bind fun v37 =>
   some (.inl (v37, (c17.1, c17.2 + 1)))
  else
   lt (c30 == (75 : Int)) fun v39 =>
   if v39 = true then
    (toBytes x0.X.Key).bind fun v42 =>
    (octets_Bytes c16 v42).bind fun v44 =>
    some (.inl (v44, (c17.1, c17.2 + 1)))
   else
    lt (c30 == (65 : Int)) fun v46 =>
    if v46 = true then
     lt (([x0.X.AsOf] : List Int)) fun v49 =>
     (octets_Put c16 v49).bind fun v51 =>
     some (.inl (v51, (c17.1, c17.2 + 1)))
    else
     lt (c30 == (70 : Int)) fun v53 =>
     if v53 = true then
      (
       if x0.Found = true then
        some (1 : Int)
       else
        some (0 : Int)
      : Option (Int)).bind fun s55 =>
       lt (([s55] : List Int)) fun v62 =>
       (octets_Put c16 v62).bind fun v64 =>
       some (.inl (v64, (c17.1, c17.2 + 1)))
     else
      lt (c30 == (86 : Int)) fun v66 =>
      if v66 = true then
       if x0.Found = true then
        lt (([x0.X.Version, x0.X.Ends] : List Int)) fun v70 =>
        (octets_Put c16 v70).bind fun v72 =>
        (octets_Bytes v72 x0.X.Value).bind fun v74 =>
        some (.inl (v74, (c17.1, c17.2 + 1)))
       else
        some (.inl (c16, (c17.1, c17.2 + 1)))
      else
       some (.inl (c16, (c17.1, c17.2 + 1)))
 )
noncomputable def wire_Put_l0 (x0 : api_Msg) (s : (List (BitVec 8)) × (List (BitVec 8) × Nat)) : Option ((List (BitVec 8)) × (List (BitVec 8) × Nat)) := loopO (fun s => wire_Put_b0 x0 s.1 s.2) s
noncomputable def wire_Put (x0 : api_Msg) : Option ((List (BitVec 8)) × Err) :=
 (wire_Check x0).bind fun v2 =>
 lt (!Err.isNil v2) fun v4 =>
 if v4 = true then
  (trouble_Wrap ([112#8, 117#8, 116#8] : List (BitVec 8)) x0.Kind v2).bind fun v7 =>
  some ([], v7)
 else
  lt (([x0.Kind, x0.From, x0.To, x0.Epoch] : List Int)) fun v9 =>
  (octets_Put [] v9).bind fun v11 =>
  (wire_parts x0.Kind).bind fun v13 =>
  (wire_Put_l0 x0 (v11, (v13, 0))).bind fun s25 =>
   (checksum_Seal s25.1).bind fun v77 =>
   some (v77, Err.nil)
noncomputable def lines_Lines_Send_b0 (x1 : List api_Msg) (v4 : Int) (c5 : Int) (c6 : List lines_parcel) (c7 : lines_Lines) : Option ((Int × (List lines_parcel) × lines_Lines) ⊕ ((List lines_parcel) × lines_Lines)) :=
 lt (decide (c5 < v4)) fun v18 =>
 if v18 = true then
  (ix x1 c5).bind fun v21 =>
  lt ((v21 : api_Msg)) fun c25 =>
  (wire_Put c25).bind fun v28 =>
  (
   lt (!Err.isNil v28.2) fun v34 =>
   if v34 = true then
    some true
   else
    lt ((((c6).length : Nat) : Int)) fun v37 =>
    lt (decide (v37 ≥ (200 : Int))) fun v39 =>
    some v39
  : Option (Bool)).bind fun s29 =>
   if s29 = true then
    lt (w64 (c7.lost + (1 : Int))) fun v43 =>
    lt (w64 (c5 + (1 : Int))) fun v46 =>
    some (.inl (v46, c6, ({ c7 with lost := v43 } : lines_Lines)))
   else
    lt ((⟨v28.1, false⟩ : lines_parcel)) fun v48 =>
    (app 32 c6 ([v48] : List lines_parcel)).bind fun v50 =>
    lt (w64 (c5 + (1 : Int))) fun v56 =>
    some (.inl (v56, v50, ({ c7 with l := v50 } : lines_Lines)))
 else
  some (.inr (c6, c7))
noncomputable def lines_Lines_Send_l0 (x1 : List api_Msg) (v4 : Int) (s : Int × (List lines_parcel) × lines_Lines) : Option ((List lines_parcel) × lines_Lines) := loopO (fun s => lines_Lines_Send_b0 x1 v4 s.1 s.2.1 s.2.2) s
noncomputable def lines_Lines_Send (x0 : lines_Lines) (x1 : List api_Msg) : Option (lines_Lines) :=
 lt (((x1).length : Int)) fun v4 =>
 (lines_Lines_Send_l0 x1 v4 ((0 : Int), x0.l, x0)).bind fun s15 =>
  some ({ s15.2 with l := s15.1 } : lines_Lines)
end Go.Proofs.YtedcgeghgbgonaaDoor
namespace Go.Proofs.YtedcgeghgbgonaaDoor
open Go Go.Va
set_option linter.unusedVariables false
def hasE : Err → Int → Bool
 | .nil, _ => false
 | .fault o a c u, k => (c == k && c != 0) || hasE u k
def trouble_Has (x : Err) (k : Int) : Option Bool := some (hasE x k)
end Go.Proofs.YtedcgeghgbgonaaDoor
namespace Go.Proofs.YtedcgeghgbgonaaDoor
open Go Go.Va
set_option linter.unusedVariables false
set_option linter.unusedSimpArgs false
set_option maxRecDepth 20000
noncomputable def lines_Lines_Take (x0 : lines_Lines) (x1 : Int) : Option (api_Msg × Err × lines_Lines) :=
 (lines_Lines_Look x0 x1).bind fun v6 =>
 lt ((v6.1 : api_Msg)) fun c10 =>
 (trouble_Has v6.2 (9 : Int)).bind fun v13 =>
 if v13 = true then
  lt ((⟨(0 : Int), (0 : Int), (0 : Int), (0 : Int), (0 : Int), z_api_Entry, false⟩ : api_Msg)) fun v16 =>
  (trouble_Wrap ([116#8, 97#8, 107#8, 101#8] : List (BitVec 8)) x1 v6.2).bind fun v18 =>
  lt ((v16 : api_Msg)) fun c20 =>
  some (c20, v18, x0)
 else
  lt (w64 (x1 + (1 : Int))) fun v23 =>
  (slices_Delete_lines_parcel_lines_parcel x0.l x1 v23).bind fun v25 =>
  lt (!Err.isNil v6.2) fun v32 =>
  if v32 = true then
   lt (w64 ((({ x0 with l := v25 } : lines_Lines).lost) + (1 : Int))) fun v35 =>
   lt ((⟨(0 : Int), (0 : Int), (0 : Int), (0 : Int), (0 : Int), z_api_Entry, false⟩ : api_Msg)) fun v38 =>
   (trouble_Wrap ([116#8, 97#8, 107#8, 101#8] : List (BitVec 8)) x1 v6.2).bind fun v40 =>
   lt ((v38 : api_Msg)) fun c42 =>
   some (c42, v40, ({ ({ ({ x0 with l := v25 } : lines_Lines) with lost := v35 } : lines_Lines) with l := v25 } : lines_Lines))
  else
   lt ((c10 : api_Msg)) fun c45 =>
   some (c45, Err.nil, ({ ({ x0 with l := v25 } : lines_Lines) with l := v25 } : lines_Lines))
noncomputable def R02_Same_b0 (x0 : List (BitVec 8)) (x1 : List (BitVec 8)) (c8 : Int) : Option ((Int) ⊕ (Unit ⊕ (Bool))) :=
 lt (((x0).length : Int)) fun v19 =>
 lt (decide (c8 < v19)) fun v21 =>
 if v21 = true then
  (ix x0 c8).bind fun v24 =>
  (ix x1 c8).bind fun v26 =>
  lt (v24 != v26) fun v28 =>
  if v28 = true then
   some (.inr (.inr false))
  else
   lt (w64 (c8 + (1 : Int))) fun v32 =>
   some (.inl v32)
 else
  some (.inr (.inl ()))
noncomputable def R02_Same_l0 (x0 : List (BitVec 8)) (x1 : List (BitVec 8)) (s : Int) : Option (Unit ⊕ (Bool)) := loopO (fun s => R02_Same_b0 x0 x1 s) s
noncomputable def R02_Same (x0 : List (BitVec 8)) (x1 : List (BitVec 8)) : Option (Bool) :=
 lt (((x0).length : Int)) fun v2 =>
 lt (((x1).length : Int)) fun v4 =>
 lt (v2 != v4) fun v6 =>
 if v6 = true then
  some false
 else
  (R02_Same_l0 x0 x1 (0 : Int)).bind fun o9 =>
   Sum.elim (fun s16 : Unit =>
    some true
    ) (fun y => some y) o9
noncomputable def R06_Same (x0 : api_Entry) (x1 : api_Entry) : Option (Bool) :=
 lt (x0.Key == x1.Key) fun v2 =>
 if v2 = true then
  lt (x0.Version == x1.Version) fun v5 =>
  if v5 = true then
   lt (x0.AsOf == x1.AsOf) fun v8 =>
   if v8 = true then
    lt (x0.Ends == x1.Ends) fun v11 =>
    if v11 = true then
     (R02_Same x0.Value x1.Value).bind fun v14 =>
     some v14
    else
     some false
   else
    some false
  else
   some false
 else
  some false
noncomputable def R23_Same (x0 : api_Msg) (x1 : api_Msg) : Option (Bool) :=
 lt (x0.Kind == x1.Kind) fun v2 =>
 if v2 = true then
  lt (x0.From == x1.From) fun v5 =>
  if v5 = true then
   lt (x0.To == x1.To) fun v8 =>
   if v8 = true then
    lt (x0.Epoch == x1.Epoch) fun v11 =>
    if v11 = true then
     lt (x0.Id == x1.Id) fun v14 =>
     if v14 = true then
      lt (x0.Found == x1.Found) fun v17 =>
      if v17 = true then
       (R06_Same x0.X x1.X).bind fun v20 =>
       some v20
      else
       some false
     else
      some false
    else
     some false
   else
    some false
  else
   some false
 else
  some false
noncomputable def L26_works : Option (Bool) :=
 (lines_New).bind fun v2 =>
 lt ((⟨(1 : Int), (3 : Int), (0 : Int), (1 : Int), (0 : Int), z_api_Entry, false⟩ : api_Msg)) fun v6 =>
 lt ((v6 : api_Msg)) fun c10 =>
 lt ((⟨(0 : Int), (0 : Int), (0 : Int), (0 : Int), (0 : Int), z_api_Entry, false⟩ : api_Msg)) fun v13 =>
 lt (([c10, v13, c10] : List api_Msg)) fun v15 =>
 (lines_Lines_Send v2 v15).bind fun v17 =>
 (lines_Lines_Spoil v17 (0 : Int) (2 : Int) 9#8).bind fun v22 =>
 (lines_Lines_Spoil v22.2 (0 : Int) (2 : Int) 9#8).bind fun v27 =>
 (lines_Lines_Twice v27.2 (1 : Int)).bind fun v32 =>
 (lines_Lines_Take v32.2 (0 : Int)).bind fun v39 =>
 lt ((v39.1 : api_Msg)) fun c46 =>
 (lines_Lines_Take v39.2.2 (1 : Int)).bind fun v51 =>
 lt ((v51.1 : api_Msg)) fun c58 =>
 (lines_Lines_Drop v51.2.2 (5 : Int)).bind fun v63 =>
 lt (Err.isNil v22.1) fun v68 =>
 if v68 = true then
  (trouble_Of v27.1).bind fun v71 =>
  lt (v71 == (13 : Int)) fun v73 =>
  if v73 = true then
   lt (Err.isNil v32.1) fun v76 =>
   if v76 = true then
    (trouble_Of v39.2.1).bind fun v79 =>
    lt (v79 == (7 : Int)) fun v81 =>
    if v81 = true then
     lt (Err.isNil v51.2.1) fun v84 =>
     if v84 = true then
      (R23_Same c58 c10).bind fun v87 =>
      if v87 = true then
       (trouble_Of v63.1).bind fun v90 =>
       lt (v90 == (9 : Int)) fun v92 =>
       if v92 = true then
        (lines_Lines_Len v63.2).bind fun v95 =>
        lt (v95 == (1 : Int)) fun v97 =>
        if v97 = true then
         (lines_Lines_Lost v63.2).bind fun v100 =>
         lt (v100 == (2 : Int)) fun v102 =>
         if v102 = true then
          (lines_Lines_All v63.2).bind fun v105 =>
          lt (((v105).length : Int)) fun v107 =>
          lt (v107 == (1 : Int)) fun v109 =>
          some v109
         else
          some false
        else
         some false
       else
        some false
      else
       some false
     else
      some false
    else
     some false
   else
    some false
  else
   some false
 else
  some false
noncomputable def L26_LinesHonest_b1 (x0 : List L26_Op) (c12 : List api_Msg) (c13 : Int) (c14 : Int) (c15 : Int) (v34 : L26_Op) (v62 : api_Msg × Err × lines_Lines) (c69 : api_Msg) (c76 : Bool) (c77 : Int) : Option ((Bool × Int) ⊕ (Bool)) :=
 lt (((c12).length : Int)) fun v88 =>
 lt (decide (c77 < v88)) fun v90 =>
 if v90 = true then
  if c76 = true then
   lt (w64 (c77 + (1 : Int))) fun v94 =>
   some (.inl (true, v94))
  else
   (ix c12 c77).bind fun v96 =>
   (R23_Same v96 c69).bind fun v98 =>
   lt (w64 (c77 + (1 : Int))) fun v100 =>
   some (.inl (v98, v100))
 else
  some (.inr c76)
noncomputable def L26_LinesHonest_l1 (x0 : List L26_Op) (c12 : List api_Msg) (c13 : Int) (c14 : Int) (c15 : Int) (v34 : L26_Op) (v62 : api_Msg × Err × lines_Lines) (c69 : api_Msg) (s : Bool × Int) : Option (Bool) := loopO (fun s => L26_LinesHonest_b1 x0 c12 c13 c14 c15 v34 v62 c69 s.1 s.2) s
noncomputable def L26_LinesHonest_b0 (x0 : List L26_Op) (c12 : List api_Msg) (c13 : Int) (c14 : Int) (c15 : Int) (c16 : List lines_parcel) (c17 : lines_Lines) : Option (((List api_Msg) × Int × Int × Int × (List lines_parcel) × lines_Lines) ⊕ ((Int × Int × (List lines_parcel) × lines_Lines) ⊕ (Bool))) :=
 lt (((x0).length : Int)) fun v29 =>
 lt (decide (c15 < v29)) fun v31 =>
 if v31 = true then
  (ix x0 c15).bind fun v34 =>
  lt (((v34 : L26_Op).Kind) == (0 : Int)) fun v39 =>
  if v39 = true then
   (lines_Lines_Send ({ c17 with l := c16 } : lines_Lines) ((v34 : L26_Op).L)).bind fun v42 =>
   (app 112 c12 ((v34 : L26_Op).L)).bind fun v47 =>
   lt ((((v34 : L26_Op).L).length : Int)) fun v51 =>
   lt (w64 (c13 + v51)) fun v53 =>
   lt (w64 (c15 + (1 : Int))) fun v55 =>
   some (.inl (v47, v53, c14, v55, v42.l, v42))
  else
   lt (((v34 : L26_Op).Kind) == (1 : Int)) fun v57 =>
   if v57 = true then
    (lines_Lines_Take ({ c17 with l := c16 } : lines_Lines) ((v34 : L26_Op).I)).bind fun v62 =>
    lt ((v62.1 : api_Msg)) fun c69 =>
    lt (!Err.isNil v62.2.1) fun v72 =>
    if v72 = true then
     lt (w64 (c15 + (1 : Int))) fun v75 =>
     some (.inl (c12, c13, c14, v75, v62.2.2.l, v62.2.2))
    else
     (L26_LinesHonest_l1 x0 c12 c13 c14 c15 v34 v62 c69 (false, (0 : Int))).bind fun s85 =>
      lt (!s85) fun v103 =>
      if v103 = true then
       some (.inr (.inr false))
      else
       lt (w64 (c14 + (1 : Int))) fun v107 =>
       lt (w64 (c15 + (1 : Int))) fun v109 =>
       some (.inl (c12, c13, v107, v109, v62.2.2.l, v62.2.2))
   else
    lt (((v34 : L26_Op).Kind) == (2 : Int)) fun v111 =>
    if v111 = true then
     (lines_Lines_Drop ({ c17 with l := c16 } : lines_Lines) ((v34 : L26_Op).I)).bind fun v116 =>
     lt (w64 (c15 + (1 : Int))) fun v121 =>
     some (.inl (c12, c13, c14, v121, v116.2.l, v116.2))
    else
     lt (((v34 : L26_Op).Kind) == (3 : Int)) fun v123 =>
     if v123 = true then
      (lines_Lines_Twice ({ c17 with l := c16 } : lines_Lines) ((v34 : L26_Op).I)).bind fun v126 =>
      lt (Err.isNil v126.1) fun v131 =>
      if v131 = true then
       lt (w64 (c13 + (1 : Int))) fun v134 =>
       lt (w64 (c15 + (1 : Int))) fun v136 =>
       some (.inl (c12, v134, c14, v136, v126.2.l, v126.2))
      else
       lt (w64 (c15 + (1 : Int))) fun v138 =>
       some (.inl (c12, c13, c14, v138, v126.2.l, v126.2))
     else
      lt (((v34 : L26_Op).Kind) == (4 : Int)) fun v140 =>
      if v140 = true then
       (lines_Lines_Spoil ({ c17 with l := c16 } : lines_Lines) ((v34 : L26_Op).I) ((v34 : L26_Op).At) ((v34 : L26_Op).By)).bind fun v143 =>
       lt (w64 (c15 + (1 : Int))) fun v148 =>
       some (.inl (c12, c13, c14, v148, v143.2.l, v143.2))
      else
       lt (w64 (c15 + (1 : Int))) fun v150 =>
       some (.inl (c12, c13, c14, v150, c16, c17))
 else
  some (.inr (.inl (c13, c14, c16, c17)))
noncomputable def L26_LinesHonest_l0 (x0 : List L26_Op) (s : (List api_Msg) × Int × Int × Int × (List lines_parcel) × lines_Lines) : Option ((Int × Int × (List lines_parcel) × lines_Lines) ⊕ (Bool)) := loopO (fun s => L26_LinesHonest_b0 x0 s.1 s.2.1 s.2.2.1 s.2.2.2.1 s.2.2.2.2.1 s.2.2.2.2.2) s
noncomputable def L26_LinesHonest (x0 : List L26_Op) : Option (Bool) :=
 (L26_light x0).bind fun v2 =>
 lt (!v2) fun v4 =>
 if v4 = true then
  (L26_works).bind fun v7 =>
  some v7
 else
  (lines_New).bind fun v9 =>
  (L26_LinesHonest_l0 x0 ([], (0 : Int), (0 : Int), (0 : Int), v9.l, v9)).bind fun o19 =>
   Sum.elim (fun s26 : Int × Int × (List lines_parcel) × lines_Lines =>
    (lines_Lines_Lost ({ s26.2.2.2 with l := s26.2.2.1 } : lines_Lines)).bind fun v153 =>
    lt (w64 (s26.2.1 + v153)) fun v155 =>
    (lines_Lines_Len ({ s26.2.2.2 with l := s26.2.2.1 } : lines_Lines)).bind fun v157 =>
    lt (w64 (v155 + v157)) fun v159 =>
    lt (v159 == s26.1) fun v161 =>
    if v161 = true then
     (L26_works).bind fun v164 =>
     some v164
    else
     some false
    ) (fun y => some y) o19
end Go.Proofs.YtedcgeghgbgonaaDoor
namespace Go.Proofs.YtedcgeghgbgonaaDoor
open Go.RowKit Go.Extern.Stop Go.Stop Go.Extern
theorem Tryd.valueOf27 (t : Addr) (w : World) : (ReflectliteValue.unpack (.iface 66 (.pointer (some t)))).run Tryd.prog w
    = .ok (.agg #[.pointer (some ⟨1, 66, none⟩), .pointer (some ⟨w.heap.size, 0, none⟩), .int .u64 150]) (w.alloc (.cells #[.pointer (some t)] 66)) := by kernel_rfl
theorem Tryd.type27 (a : Addr) (w : World) : (ReflectliteValue.methodAny (ReflectliteValue.valueError "reflectlite.Value.Type" 0) (fun t _ _ _ => ReflectliteType.toType t) #[.agg #[.pointer (some ⟨1, 66, none⟩), .pointer (some a), .int .u64 150]]).run Tryd.prog w
    = .ok (.iface 107 (.agg #[.pointer (some ⟨1, 66, none⟩)])) w := by kernel_rfl
theorem Tryd.methodKind (h : Value) (w : World) : (Go.method 258 107 (.agg #[h]) "Kind").run Tryd.prog w = .ok (76, h) w := by kernel_rfl
theorem Tryd.kind27 (w : World) : ((ReflectliteType.abiMethod fun t => (fun a : Nat => Value.int IntKind.u8 (a : Int)) <$> Rtype.kind t) #[.pointer (some ⟨1, 66, none⟩)]).run Tryd.prog w = .ok (.int .u8 22) w := by kernel_rfl
theorem Tryd.kind25 (w : World) : ((ReflectliteType.abiMethod fun t => (fun a : Nat => Value.int IntKind.u8 (a : Int)) <$> Rtype.kind t) #[.pointer (some ⟨1, 64, none⟩)]).run Tryd.prog w = .ok (.int .u8 22) w := by kernel_rfl

theorem rlm (z : Sem Value) (f : TypeId → Addr → Nat → Nat → Sem Value) (v : Value) :
    ReflectliteValue.method z f #[v] = (do match ← ReflectliteValue.parts v with | none => z | some (t, a, fl) => f t a fl (fl % 32)) := rfl
theorem Tryd.parts27 (a : Addr) (w : World) : (ReflectliteValue.parts (.agg #[.pointer (some ⟨1, 66, none⟩), .pointer (some a), .int .u64 150])).run Tryd.prog w = .ok (some (66, a, 150)) w := by kernel_rfl
theorem Tryd.isNil27 (a p : Addr) (W : World) (ha : W.cell? a = some (.pointer (some p))) :
    (ReflectliteValue.method (ReflectliteValue.valueError "reflectlite.Value.IsNil" 0) ReflectliteValue.isNil #[.agg #[.pointer (some ⟨1, 66, none⟩), .pointer (some a), .int .u64 150]]).run Tryd.prog W = .ok (.bool false) W := by
  rw [rlm]
  simp only [Sem.run_bind, Tryd.parts27, Result.andThen]
  simp [ReflectliteValue.isNil, loadVar, isAgg, underlying, Tryd.underlying66, ha, Result.andThen]

theorem Tryd.methodElem (h : Value) (w : World) : (Go.method 258 107 (.agg #[h]) "Elem").run Tryd.prog w = .ok (89, .agg #[h]) w := by kernel_rfl
theorem Tryd.methodImplements (h : Value) (w : World) : (Go.method 258 107 (.agg #[h]) "Implements").run Tryd.prog w = .ok (90, .agg #[h]) w := by kernel_rfl
theorem Tryd.methodAssignableTo (h : Value) (w : World) : (Go.method 258 107 (.agg #[h]) "AssignableTo").run Tryd.prog w = .ok (87, .agg #[h]) w := by kernel_rfl
theorem Tryd.elem27 (w : World) : (ReflectliteType.method ReflectliteType.elem #[.agg #[.pointer (some ⟨1, 66, none⟩)]]).run Tryd.prog w = .ok (.iface 107 (.agg #[.pointer (some ⟨1, 64, none⟩)])) w := by kernel_rfl
theorem Tryd.implements25 (w : World) : (ReflectliteType.relation "Implements" ReflectliteType.implements_ #[.agg #[.pointer (some ⟨1, 64, none⟩)], .iface 107 (.agg #[.pointer (some ⟨1, 37, none⟩)])]).run Tryd.prog w = .ok (.bool true) w := by kernel_rfl
theorem Tryd.typeOf25 (v : Value) (w : World) : (ReflectliteType.typeOf #[.iface 64 v]).run Tryd.prog w = .ok (.iface 107 (.agg #[.pointer (some ⟨1, 64, none⟩)])) w := by kernel_rfl
theorem Tryd.assignable25 (w : World) : (ReflectliteType.relation "AssignableTo" ReflectliteType.assignableTo #[.agg #[.pointer (some ⟨1, 64, none⟩)], .iface 107 (.agg #[.pointer (some ⟨1, 64, none⟩)])]).run Tryd.prog w = .ok (.bool true) w := by kernel_rfl
theorem Tryd.valueOf25 (e : Addr) (w : World) : (ReflectliteValue.unpack (.iface 64 (.pointer (some e)))).run Tryd.prog w
    = .ok (.agg #[.pointer (some ⟨1, 64, none⟩), .pointer (some ⟨w.heap.size, 0, none⟩), .int .u64 150]) (w.alloc (.cells #[.pointer (some e)] 64)) := by kernel_rfl

theorem Tryd.elemOf27 (w : World) : (Rtype.elem? 66).run Tryd.prog w = .ok (some 64) w := by kernel_rfl
theorem Tryd.mk25 (p : Addr) (w : World) : (ReflectliteValue.mk 64 p ReflectliteValue.flagAddr).run Tryd.prog w = .ok (.agg #[.pointer (some ⟨1, 64, none⟩), .pointer (some p), .int .u64 406]) w := by kernel_rfl
theorem Tryd.elemV27 (a p : Addr) (W : World) (ha : W.cell? a = some (.pointer (some p))) :
    (ReflectliteValue.method (ReflectliteValue.valueError "reflectlite.Value.Elem" 0) ReflectliteValue.elem #[.agg #[.pointer (some ⟨1, 66, none⟩), .pointer (some a), .int .u64 150]]).run Tryd.prog W
      = .ok (.agg #[.pointer (some ⟨1, 64, none⟩), .pointer (some p), .int .u64 406]) W := by
  rw [rlm]
  simp only [Sem.run_bind, Tryd.parts27, Result.andThen]
  simp [ReflectliteValue.elem, loadVar, isAgg, underlying, Tryd.underlying66, ha, Result.andThen, Tryd.elemOf27, Tryd.mk25]
theorem rls (v x : Value) : ReflectliteValue.set #[v, x] = (do
    let (some (dst, a, fl), some (src, b, _)) := (← ReflectliteValue.parts v, ← ReflectliteValue.parts x)
      | unsupported (.noEntry "extern/(internal/reflectlite.Value).Set.zeroValue")
    if fl / ReflectliteValue.flagAddr % 2 == 0 then unsupported (.noEntry "extern/(internal/reflectlite.Value).Set.unaddressable")
    let val ← loadVar src b
    if ← Rtype.directlyAssignable dst src then storeVar dst a val
    else if ← Rtype.implements dst src then
      if (← Rtype.kind src) == 20 then
        match val with
        | .nilIface => unsupported (.noEntry "extern/reflectlite: a nil value of one interface type handed on as a value of another")
        | _ => storeVar dst a val
      else storeVar dst a (.iface src val)
    else panicString ("reflectlite.Set: value of type " ++ (← Rtype.spelt src) ++ " is not assignable to type " ++ (← Rtype.spelt dst))
    pure (.tuple #[])) := rfl
theorem Tryd.parts25a (a : Addr) (w : World) : (ReflectliteValue.parts (.agg #[.pointer (some ⟨1, 64, none⟩), .pointer (some a), .int .u64 406])).run Tryd.prog w = .ok (some (64, a, 406)) w := by kernel_rfl
theorem Tryd.parts25 (a : Addr) (w : World) : (ReflectliteValue.parts (.agg #[.pointer (some ⟨1, 64, none⟩), .pointer (some a), .int .u64 150])).run Tryd.prog w = .ok (some (64, a, 150)) w := by kernel_rfl
theorem Tryd.direct25 (w : World) : (Rtype.directlyAssignable 64 64).run Tryd.prog w = .ok true w := by kernel_rfl
theorem Tryd.set25 (ta b e : Addr) (old : Value) (W : World) (hb : W.cell? b = some (.pointer (some e))) (ht : W.cell? ta = some old) (hf : W.frozen? ta = false) :
    (ReflectliteValue.set #[.agg #[.pointer (some ⟨1, 64, none⟩), .pointer (some ta), .int .u64 406], .agg #[.pointer (some ⟨1, 64, none⟩), .pointer (some b), .int .u64 150]]).run Tryd.prog W
      = .ok (.tuple #[]) (W.setCell ta (.pointer (some e))) := by
  rw [rls]
  simp only [Sem.run_bind, Tryd.parts25a, Tryd.parts25, Result.andThen]
  simp [ReflectliteValue.flagAddr, loadVar, isAgg, underlying, Tryd.underlying64, hb, Result.andThen, Tryd.direct25, storeVar, Value.cells, storeCells, Addr.add]
  rw [run_store Tryd.prog W ta _ _ (by rfl)]
  simp [ht, hf]

set_option maxHeartbeats 8000000 in
set_option maxRecDepth 100000 in
theorem as_hit (e t : Addr) (old : Value) (w : World) (hg : w.cell? ⟨0, 0, none⟩ = some (.iface 107 (.agg #[.pointer (some ⟨1, 37, none⟩)]))) (ht0 : w.cell? t = some old) (hf0 : w.frozen? t = false) :
    Calls Tryd.prog 27 #[.iface 64 (.pointer (some e)), .iface 66 (.pointer (some t))] w fun ev w' => ev = .returned (.bool true) ∧ w' = ((((w.alloc (.cells #[.pointer (some t)] 66)).alloc (.cells #[.pointer (some ⟨1, 66, none⟩), .pointer (some ⟨w.heap.size, 0, none⟩), .int .u64 150] 81)).alloc (.cells #[.pointer (some ⟨1, 66, none⟩), .pointer (some ⟨w.heap.size, 0, none⟩), .int .u64 150] 81)).alloc (.cells #[.pointer (some e)] 64)).setCell t (.pointer (some e)) := by
  have h6 := @run_callFunc_extern Tryd.prog 36 _ (fun args => ReflectliteValue.unpack (args.getD 0 (.tuple #[]))) Tryd.func36 (by kernel_rfl) (by kernel_rfl) (by kernel_rfl) (by kernel_rfl)
  have h7 := @run_callFunc_extern Tryd.prog 37 _ (ReflectliteValue.methodAny (ReflectliteValue.valueError "reflectlite.Value.Type" 0) (fun t _ _ _ => ReflectliteType.toType t)) Tryd.func37 (by kernel_rfl) (by kernel_rfl) (by kernel_rfl) (by kernel_rfl)
  have h8 := @run_callFunc_extern Tryd.prog 38 _ (ReflectliteValue.method (ReflectliteValue.valueError "reflectlite.Value.IsNil" 0) ReflectliteValue.isNil) Tryd.func38 (by kernel_rfl) (by kernel_rfl) (by kernel_rfl) (by kernel_rfl)
  have h27 := @run_callFunc_extern Tryd.prog 76 _ (ReflectliteType.abiMethod fun t => do pure (.int .u8 (← Rtype.kind t))) Tryd.func76 (by kernel_rfl) (by kernel_rfl) (by kernel_rfl) (by kernel_rfl)
  have h37 := @run_callFunc_extern Tryd.prog 89 _ (ReflectliteType.method ReflectliteType.elem) Tryd.func89 (by kernel_rfl) (by kernel_rfl) (by kernel_rfl) (by kernel_rfl)
  have h38 := @run_callFunc_extern Tryd.prog 90 _ (ReflectliteType.relation "Implements" ReflectliteType.implements_) Tryd.func90 (by kernel_rfl) (by kernel_rfl) (by kernel_rfl) (by kernel_rfl)
  have h10 := @run_callFunc_extern Tryd.prog 53 _ ReflectliteType.typeOf Tryd.func53 (by kernel_rfl) (by kernel_rfl) (by kernel_rfl) (by kernel_rfl)
  have h35 := @run_callFunc_extern Tryd.prog 87 _ (ReflectliteType.relation "AssignableTo" ReflectliteType.assignableTo) Tryd.func87 (by kernel_rfl) (by kernel_rfl) (by kernel_rfl) (by kernel_rfl)
  have h11 := @run_callFunc_extern Tryd.prog 55 _ (ReflectliteValue.method (ReflectliteValue.valueError "reflectlite.Value.Elem" 0) ReflectliteValue.elem) Tryd.func55 (by kernel_rfl) (by kernel_rfl) (by kernel_rfl) (by kernel_rfl)
  have h12 := @run_callFunc_extern Tryd.prog 56 _ ReflectliteValue.set Tryd.func56 (by kernel_rfl) (by kernel_rfl) (by kernel_rfl) (by kernel_rfl)
  have tO := Tryd.typeOf25
  have mA := Tryd.methodAssignableTo
  have a25 := Tryd.assignable25
  have v25 := Tryd.valueOf25
  have f6 := Tryd.valueOf27
  have f7 := Tryd.type27
  have mK := Tryd.methodKind
  have mE := Tryd.methodElem
  have mI := Tryd.methodImplements
  have k27 := Tryd.kind27
  have k25 := Tryd.kind25
  have e27 := Tryd.elem27
  have i25 := Tryd.implements25
  have n8 := Tryd.isNil27 ⟨w.heap.size, 0, none⟩ t ((w.alloc (.cells #[.pointer (some t)] 66)).alloc (.cells #[.pointer (some ⟨1, 66, none⟩), .pointer (some ⟨w.heap.size, 0, none⟩), .int .u64 150] 81)) (by simp)
  have hlt : 0 < w.heap.size := by
    rcases Nat.eq_zero_or_pos w.heap.size with h0 | h
    · simp [World.cell?, h0] at hg
    · exact h
  have hg2 : ((w.alloc (.cells #[.pointer (some t)] 66)).alloc (.cells #[.pointer (some ⟨1, 66, none⟩), .pointer (some ⟨w.heap.size, 0, none⟩), .int .u64 150] 81)).cell? ⟨0, 0, none⟩ = some (.iface 107 (.agg #[.pointer (some ⟨1, 37, none⟩)])) := by
    rw [World.cell?_alloc_lt _ _ ⟨0, 0, none⟩ (by simp), World.cell?_alloc_lt _ _ ⟨0, 0, none⟩ hlt]; exact hg
  have htl : t.block < w.heap.size := by
    rcases Nat.lt_or_ge t.block w.heap.size with h | h
    · exact h
    · simp [World.cell?, Array.getElem?_eq_none h] at ht0
  have el := Tryd.elemV27 ⟨w.heap.size, 0, none⟩ t (((w.alloc (.cells #[.pointer (some t)] 66)).alloc (.cells #[.pointer (some ⟨1, 66, none⟩), .pointer (some ⟨w.heap.size, 0, none⟩), .int .u64 150] 81)).alloc (.cells #[.pointer (some ⟨1, 66, none⟩), .pointer (some ⟨w.heap.size, 0, none⟩), .int .u64 150] 81)) (by rw [World.cell?_alloc_lt _ _ ⟨w.heap.size, 0, none⟩ (by simp; omega)]; simp)
  have st := Tryd.set25 t ⟨w.heap.size + 1 + 1 + 1, 0, none⟩ e old ((((w.alloc (.cells #[.pointer (some t)] 66)).alloc (.cells #[.pointer (some ⟨1, 66, none⟩), .pointer (some ⟨w.heap.size, 0, none⟩), .int .u64 150] 81)).alloc (.cells #[.pointer (some ⟨1, 66, none⟩), .pointer (some ⟨w.heap.size, 0, none⟩), .int .u64 150] 81)).alloc (.cells #[.pointer (some e)] 64))
    (by rw [World.cell?_alloc_at _ _ _ _ (by simp)]; rfl)
    (by rw [World.cell?_alloc_lt _ _ t (by simp; omega), World.cell?_alloc_lt _ _ t (by simp; omega), World.cell?_alloc_lt _ _ t (by simp; omega), World.cell?_alloc_lt _ _ t htl]; exact ht0)
    (by rw [World.frozen?_alloc_old _ _ t (by simp; omega), World.frozen?_alloc_old _ _ t (by simp; omega), World.frozen?_alloc_old _ _ t (by simp; omega), World.frozen?_alloc_old _ _ t (Nat.ne_of_lt htl)]; exact hf0)
  go_enter Tryd.func27, Tryd.ntmps27
  go_wp2
  refine wp_loop_rounds 1 ?_
  rw [rounds_succ]
  go_wp2
  go_ret
  exact ⟨rfl, rfl⟩
end Go.Proofs.YtedcgeghgbgonaaDoor
namespace Go.Proofs.YtedcgeghgbgonaaDoor
open Go Go.Va
set_option linter.unusedVariables false
set_option linter.unusedSimpArgs false
def gls : List (Addr × Value) := [(⟨0, 0, none⟩, .iface 107 (.agg #[.pointer (some ⟨1, 37, none⟩)]))]
section
variable {P : Program} {Ty : TypeId → Option TI} {fr : Nat → AV} {d : Option Tmp} {t : TypeId} {pos : String} {af : Array Edge} {g : Option (Nat × Bool)} {ox oy : Operand} {T T' : TypeId}
theorem o_err_eql (hT : TyOk P Ty) {x : Err} (ht : tdOf Ty T = .iface) (hx : aeval fr ox = eErr x) (hy : oy = .const .nilIface) : OpP P ⟨d, .binOp .eql T ox oy T', t, pos, af, g⟩ fr (eB x.isNil) := by
  subst hy
  refine OpP.of_aop' hT (mu := false) rfl (fun τ => ?_)
  have h2 : aeval fr (.const .nilIface) = .nili := rfl
  simp only [aop, hx, h2]
  cases x with
  | nil => simp [eErr, abin', abin, ht, isC, aeq, pairO, Err.isNil, eB]
  | fault o a c u => simp [eErr, abin', abin, ht, isC, aeq, pairO, Err.isNil, eB]
theorem o_err_neq (hT : TyOk P Ty) {x : Err} (ht : tdOf Ty T = .iface) (hx : aeval fr ox = eErr x) (hy : oy = .const .nilIface) : OpP P ⟨d, .binOp .neq T ox oy T', t, pos, af, g⟩ fr (eB (!x.isNil)) := by
  subst hy
  refine OpP.of_aop' hT (mu := false) rfl (fun τ => ?_)
  have h2 : aeval fr (.const .nilIface) = .nili := rfl
  simp only [aop, hx, h2]
  cases x with
  | nil => simp [eErr, abin', abin, ht, isC, aeq, pairO, Err.isNil, eB]
  | fault o a c u => simp [eErr, abin', abin, ht, isC, aeq, pairO, Err.isNil, eB]
end
def Err.ptr : Err → AV
  | .nil => .nilp
  | .fault o a c u => .fptr [eS o, eI a, eI c, eErr u] 0
theorem as_ok {x : Err} (hx : x.isNil = false) {σ : St} {id : Nat} (ho : σ.objs[id]? = some [.nilp]) (hg : σ.gl = gls) : ACall Tryd.prog 27 [eErr x, .iface 66 (.ref id 0)] σ (fun a τ => a = eB true ∧ τ = σ.puts [(id, [x.ptr])]) := by
  cases x with
  | nil => cases hx
  | fault o a c u =>
    refine ⟨⟨_, Tryd.func27, by decide, rfl⟩, fun w0 G w vs hI hr => ?_⟩
    obtain ⟨v0, h0, r0⟩ := hr.get (i := 0) rfl
    obtain ⟨v1, h1, r1⟩ := hr.get (i := 1) rfl
    have hvs : vs = #[v0, v1] := by
      obtain ⟨l⟩ := vs
      have hl := hr.len
      simp only [List.length_cons, List.length_nil] at hl h0 h1
      match l, hl, h0, h1 with
      | [x, y], _, h0, h1 => simp at h0 h1; subst h0; subst h1; rfl
    subst hvs
    simp only [eErr] at r0
    cases r0 with | iface _ v0 _ r0 =>
    cases r1 with | iface _ v1 _ r1 =>
    cases r0 with | fptr b o' off _ val hf hv =>
    cases r1 with | ref _ _ b1 hl =>
    obtain ⟨b2, T, cs, e1, e2, e3, e4, e5, e6⟩ := hI.loc id _ ho (by simp) rfl
    rw [hl] at e1
    cases e1
    obtain ⟨u1, hu1, ru1⟩ := e4.rel.get (i := 0) rfl
    have hcs : cs[0]? = some (.pointer none) := by
      cases ru1
      rw [List.getElem?_take] at hu1
      simpa using hu1
    have hsz : 1 ≤ cs.size := e4.le
    have hglob := hI.below
    have hg0 : w0.cell? ⟨0, 0, none⟩ = some (.iface 107 (.agg #[.pointer (some ⟨1, 37, none⟩)])) := hI.gl _ (by rw [hg]; exact List.mem_singleton.2 rfl)
    have hg1 : w.cell? ⟨0, 0, none⟩ = some (.iface 107 (.agg #[.pointer (some ⟨1, 37, none⟩)])) := by
      have hb := World.block_lt_of_cell? w0 _ hg0
      simp only [World.cell?] at hg0 ⊢
      rw [hI.below.block _ hb]; exact hg0
    have hc : w.cell? ⟨b1, 0, none⟩ = some (.pointer none) := by simp [World.cell?, e3, hcs]
    have hfz : w.frozen? ⟨b1, 0, none⟩ = false := by simp [World.frozen?, e3]
    refine (as_hit ⟨b, o' + 0, none⟩ ⟨b1, 0, none⟩ (.pointer none) w hg1 hc hfz).mono ?_
    rintro e w' ⟨rfl, rfl⟩
    have k1 := hI.alloc_fz #[.pointer (some ⟨b1, 0, none⟩)] 66 (by simp [Value.oneCell']) (0, 0)
    have k2 := k1.2.alloc_fz #[.pointer (some ⟨1, 66, none⟩), .pointer (some ⟨w.heap.size, 0, none⟩), .int .u64 150] 81 (by simp [Value.oneCell']) (0, 0)
    have k3 := k2.2.alloc_fz #[.pointer (some ⟨1, 66, none⟩), .pointer (some ⟨w.heap.size, 0, none⟩), .int .u64 150] 81 (by simp [Value.oneCell']) (0, 0)
    have k4 := k3.2.alloc_fz #[.pointer (some ⟨b, o' + 0, none⟩)] 64 (by simp [Value.oneCell']) (0, 0)
    have hle := k1.1.trans (k2.1.trans (k3.1.trans k4.1))
    have hb1 : b1 < w.heap.size := (Array.getElem?_eq_some_iff.1 e3).1
    have k5 := k4.2.write (id := id) (off := 0) (news := [.pointer (some ⟨b, o' + 0, none⟩)]) (nc := [.fptr [eS o, eI a, eI c, eErr u] 0]) ho (hle.loc _ _ hl) (by simp) rfl ((RelL.nil _).cons (.fptr b o' 0 _ val (fun j a h1 => hle.fz _ _ _ (hf j a h1)) (fun j a h1 => (hv j a h1).mono hle))) (by simp [Value.oneCell']) (by simp) (by rw [hle.bsz _ _ hl, ← e6]; simpa using hsz)
    refine ⟨.bool true, eB true, _, _, rfl, hle, ?_, .bool true, rfl, rfl⟩
    simp only [World.setCells, List.take_zero, List.nil_append, List.length_cons, List.length_nil, List.drop_succ_cons, List.drop_zero, List.drop_nil, List.append_nil] at k5
    exact k5
end Go.Proofs.YtedcgeghgbgonaaDoor
namespace Go.Proofs.YtedcgeghgbgonaaDoor
open Go Go.Va
set_option linter.unusedVariables false
set_option linter.unusedSimpArgs false
set_option maxRecDepth 20000
theorem slices_Delete_lines_parcel_lines_parcel_in {x0 : List lines_parcel} {x1 x2 : Int} {r : List lines_parcel} (H : slices_Delete_lines_parcel_lines_parcel x0 x1 x2 = some r) (σ : St) {p0 c : Nat} (h0 : σ.objs[p0]? = some (cL (e_lines_parcel) x0)) (hc : x0.length ≤ c) : ACall Tryd.prog 22 [.vc p0 2 0 x0.length c, (eI x1), (eI x2)] σ (fun a τ => a = .vc p0 2 0 r.length c ∧ ∃ cells, cells ≠ [] ∧ spcl cells = false ∧ cells.take (r.length * 2) = cL (e_lines_parcel) r ∧ p0 < σ.objs.length ∧ τ = ⟨σ.objs.set p0 cells, σ.opn, σ.gl⟩) := by
 have he : Enc ty 55 2 (e_lines_parcel) := (enc55)
 obtain ⟨a, b, rfl, rfl, hab, hb, ha, rfl⟩ := delO_some H
 have hlt : p0 < σ.objs.length := (List.getElem?_eq_some_iff.1 h0).1
 have hL := cL_length he.len x0
 have hne : cL (e_lines_parcel) x0 ≠ [] := fun h => by rw [h] at hL; simp at hL; omega
 have hrl : (x0.take a ++ x0.drop b).length = a + (x0.length - b) := by simp; omega
 refine acall_start tk Tryd.func22 (by decide) rfl (nb rfl) ?_
 repeat (refine awp_seq ?_)
 refine awp_region rfl (ma tk AV.nils rfl rfl (wpo_nil ?_))
 repeat (refine awp_seq ?_)
 refine awp_region rfl (mm tk (.vc p0 2 0 x0.length c) rfl rfl (mm tk (eI (a : Int)) rfl rfl (mm tk (eI (b : Int)) rfl rfl (mm tk (.vc p0 2 0 x0.length c) rfl rfl (m_ (eI (x0.length : Int)) rfl (o_vclen tk td49 rfl) (m_ (.vc p0 2 (if x0.length = a then 0 else 0 + a * 2) (b - a) (x0.length - a)) rfl (o_vcs tk a b x0.length td49 sz55 (by decide) rfl (abnd_nat _ _) (abnd_nat _ _) (abnd_nat _ _) (fun _ => rfl) hab hb hc) (wpo_nil ?_)))))))
 repeat (refine awp_seq ?_)
 refine awp_region rfl (mm tk (eI (a : Int)) rfl rfl (mm tk (eI (b : Int)) rfl rfl (m_ (eB ((a : Int) == (b : Int))) rfl (o_ar tk rfl rfl rfl) (wpo_nil ?_))))
 refine awp_cond (b := ((a : Int) == (b : Int))) rfl (fun hE => ?_) (fun hE => ?_)
 ·have hab' : a = b := by simp at hE; omega
  subst hab'
  repeat (refine awp_seq ?_)
  refine awp_region rfl (mm tk (.vc p0 2 0 x0.length c) rfl rfl (ma tk (.vc p0 2 0 x0.length c) rfl rfl (wpo_nil (awp_ret ?_))))
  have e1 : x0.take a ++ x0.drop a = x0 := List.take_append_drop a x0
  refine ⟨_, .vc p0 2 0 x0.length c, rfl, .of_eq rfl, by rw [e1], cL (e_lines_parcel) x0, hne, spcl_cL he x0, by rw [e1, List.take_of_length_le (by rw [hL]; exact Nat.le_refl _)], hlt, ?_⟩
  obtain ⟨hlt', hg⟩ := List.getElem?_eq_some_iff.1 h0
  rw [← hg, List.set_getElem_self]
 ·have hab' : a < b := by simp at hE; omega
  refine awp_skip ?_
  repeat (refine awp_seq ?_)
  refine awp_region rfl (mm tk (.vc p0 2 0 x0.length c) rfl rfl (m_ (eI (x0.length : Int)) rfl (o_vclen tk td49 rfl) (ma tk (eI (x0.length : Int)) rfl rfl (wpo_nil ?_))))
  repeat (refine awp_seq ?_)
  refine awp_drawS mixed [6] rfl (by decide +kernel) rfl rfl ?_
  refine wpdS_mv (a := .vc p0 2 0 x0.length c) rfl rfl rfl (o_mv tk rfl (Wk.refl _)) (wpdS_mv (a := eI (a : Int)) rfl rfl rfl (o_mv tk rfl (Wk.refl _)) (wpdS_mv (a := .vc p0 2 0 a c) rfl rfl rfl (o_vcs0 tk a td49 sz55 (by decide) rfl rfl (by omega)) (wpdS_mv (a := .vc p0 2 0 x0.length c) rfl rfl rfl (o_mv tk rfl (Wk.refl _)) (wpdS_mv (a := eI (b : Int)) rfl rfl rfl (o_mv tk rfl (Wk.refl _)) (wpdS_mv (a := .vc p0 2 (if c = b then 0 else 0 + b * 2) (x0.length - b) (c - b)) rfl rfl rfl (o_vcs tk (lo := some _) (hi := none) (mx := none) b x0.length c td49 sz55 (by decide) rfl (abnd_nat _ _) rfl rfl (fun h => by cases h) hb hc (Nat.le_refl _)) ?_)))))
  have hsrc : ∀ v : AV, v = .vc p0 2 (if c = b then 0 else 0 + b * 2) (x0.length - b) (c - b) → srcC ty 49 2 σ v = some (x0.length - b, cL (e_lines_parcel) (x0.drop b)) := by
   intro v hv
   rw [hv, srcC_vc td49 h0 (spcl_cL he x0) (by
    rw [hL]
    split
    ·have : x0.length - b = 0 := by omega
     rw [this]; simp
    ·have e2 : b * 2 + (x0.length - b) * 2 = x0.length * 2 := by rw [← Nat.add_mul]; congr 1; omega
     omega)]
   congr 2
   split
   ·have : x0.length - b = 0 := by omega
    rw [this, Nat.zero_mul, List.take_zero, List.drop_of_length_le (by omega)]; rfl
   ·rw [Nat.zero_add, cL_drop he.len, List.take_of_length_le]
    rw [cL_length he.len, List.length_drop]; exact Nat.le_refl _
  refine wpdS_s1 rfl rfl rfl (o_vcapp (off := 0) (m := a) (cap := c) (sz := 2) (k := x0.length - b) tk h0 (spcl_cL he x0) hne td49 ty55 rfl rfl (hsrc _ rfl) (by omega) (by rw [hL]; have := Nat.mul_le_mul_right 2 (Nat.le_of_lt ha); omega)) ?_
  have e0 : (cL (e_lines_parcel) x0).take (0 + a * 2) = cL (e_lines_parcel) (x0.take a) := by rw [Nat.zero_add, cL_take he.len]
  have hl1 : (cL (e_lines_parcel) (x0.take a) ++ cL (e_lines_parcel) (x0.drop b)).length = (a + (x0.length - b)) * 2 := by rw [← cL_append, cL_length he.len, hrl]
  generalize hcs : List.take (0 + a * 2) (cL (e_lines_parcel) x0) ++ cL (e_lines_parcel) (x0.drop b) ++ List.drop (0 + a * 2 + (cL (e_lines_parcel) (x0.drop b)).length) (cL (e_lines_parcel) x0) = cs
  have h1 : cs.take ((a + (x0.length - b)) * 2) = cL (e_lines_parcel) (x0.take a ++ x0.drop b) := by
   rw [← hcs, e0, ← hl1, List.take_left' rfl, cL_append]
  have h2 : cs.length = x0.length * 2 := by
   rw [← hcs, e0, List.length_append, hl1, List.length_drop, hL, cL_length he.len, List.length_drop]
   have e3 : (a + (x0.length - b)) * 2 = a * 2 + (x0.length - b) * 2 := Nat.add_mul _ _ _
   have e4 : a * 2 + (x0.length - b) * 2 ≤ x0.length * 2 := by rw [← Nat.add_mul]; exact Nat.mul_le_mul_right _ (by omega)
   omega
  have hfl : cs.all flatAV = true := by rw [← hcs]; exact nsp_cat (all_flat_cL he _) (all_flat_cL he _) (all_flat_cL he _) _ _
  have h3 : cs ≠ [] := fun h => by rw [h] at h2; simp at h2; omega
  have h4 : (σ.objs.set p0 cs)[p0]? = some cs := by rw [List.getElem?_set]; simp [hlt]
  refine wpdS_mv (a := .vc p0 2 0 (a + (x0.length - b)) c) rfl rfl rfl (o_as tk rfl (Wk.refl _)) (wpdS_nil ?_)
  repeat (refine awp_seq ?_)
  refine awp_region rfl (mm tk (.vc p0 2 0 (a + (x0.length - b)) c) rfl rfl (mm tk (.vc p0 2 0 (a + (x0.length - b)) c) rfl rfl (m_ (eI ((a + (x0.length - b) : Nat) : Int)) rfl (o_vclen tk td49 rfl) (mm tk (eI (x0.length : Int)) rfl rfl (m_ (.vc p0 2 (if c = a + (x0.length - b) then 0 else 0 + (a + (x0.length - b)) * 2) (x0.length - (a + (x0.length - b))) (c - (a + (x0.length - b)))) rfl (o_vcs tk (lo := some _) (hi := some _) (mx := none) (a + (x0.length - b)) x0.length c td49 sz55 (by decide) rfl (abnd_nat _ _) (abnd_nat _ _) rfl (fun h => by cases h) (by omega) hc (Nat.le_refl _)) ?_)))))
  refine wpo_s0 rfl rfl (o_vcclear tk h4 (flat_nsp hfl) h3 td49 ty55 rfl rfl (by
   rw [if_neg (by omega), h2]
   have := Nat.mul_le_mul_right 2 (show a + (x0.length - b) ≤ x0.length by omega)
   omega)) ?_
  refine wpo_nil ?_
  repeat (refine awp_seq ?_)
  refine awp_region rfl (mm tk (.vc p0 2 0 (a + (x0.length - b)) c) rfl rfl (ma tk (.vc p0 2 0 (a + (x0.length - b)) c) rfl rfl (wpo_nil (awp_ret ?_))))
  refine ⟨_, .vc p0 2 0 (a + (x0.length - b)) c, rfl, .of_eq rfl, by rw [hrl], _, ?_, flat_nsp (nsp_cat hfl (flat_rep rfl _) hfl _ _), ?_, hlt, by rw [List.set_set]⟩
  ·intro h
   have h5 := congrArg List.length h
   rw [if_neg (by omega)] at h5
   simp only [List.length_append, List.length_take, List.length_nil] at h5
   rw [h2] at h5
   have h6 : 0 < (List.replicate (x0.length - (a + (x0.length - b))) (AV.agg [.nils, .bool false])).length := by rw [List.length_replicate]; omega
   have h7 : (flat (List.replicate (x0.length - (a + (x0.length - b))) (AV.agg [.nils, .bool false]))).length = (x0.length - (a + (x0.length - b))) * 2 := by
    rw [flat_length (sz := 2) (fun y hy => by rw [(List.mem_replicate.1 hy).2]; rfl), List.length_replicate]
   have h8 : 0 < (x0.length - (a + (x0.length - b))) * 2 := Nat.mul_pos (by omega) (by decide)
   have h9 : (List.replicate (x0.length - (a + (x0.length - b))) (AV.agg [.nils, .bool false])) = (List.replicate (x0.length - (a + (x0.length - b))) (AV.agg [.nils, .bool false])) := rfl
   omega
  ·rw [if_neg (by omega), Nat.zero_add, hrl, List.append_assoc, List.take_append_of_le_length (by rw [List.length_take, h2]; have := Nat.mul_le_mul_right 2 (show a + (x0.length - b) ≤ x0.length by omega); omega), List.take_take, Nat.min_self, h1]
theorem slices_Delete_lines_parcel_lines_parcel_ok {x0 : List lines_parcel} {x1 x2 : Int} {r : List lines_parcel} (H : slices_Delete_lines_parcel_lines_parcel x0 x1 x2 = some r) (σ : St) {p0 : Nat} (h0 : σ.objs[p0]? = some (cL (e_lines_parcel) x0)) : ACall Tryd.prog 22 [.vec p0 2 x0.length, (eI x1), (eI x2)] σ (fun a τ => a = .sl (.own σ.opn.length) 2 (r.map (e_lines_parcel)) ∧ τ = ⟨σ.objs.set p0 [], σ.opn ++ [true], σ.gl⟩) := by
 have he : Enc ty 55 2 (e_lines_parcel) := (enc55)
 have hd := delO_some H
 obtain ⟨a, b, _, _, _, _, ha, _⟩ := hd
 exact ACall.room (by omega) fun c hc => ACall.freeze (r := r) (c := c) he (fun _ _ => trivial) (slices_Delete_lines_parcel_lines_parcel_in H σ h0 hc)
theorem slices_Delete_lines_parcel_lines_parcel_g {x0 : List lines_parcel} {x1 x2 : Int} {r : List lines_parcel} (H : slices_Delete_lines_parcel_lines_parcel x0 x1 x2 = some r) (σ : St) {p0 c : Nat} (h0 : σ.objs[p0]? = some (gK (e_lines_parcel) c x0)) (hc : x0.length ≤ c) : ACall Tryd.prog 22 [gR p0 2 c x0.length, (eI x1), (eI x2)] σ (fun a τ => a = gR σ.objs.length 2 c r.length ∧ τ = ⟨σ.objs.set p0 [] ++ [gK (e_lines_parcel) c r], σ.opn, σ.gl⟩) := by
 have he : Enc ty 55 2 (e_lines_parcel) := (enc55)
 obtain ⟨a, b, _, _, _, _, ha, _⟩ := delO_some H
 have e1 : gR p0 2 c x0.length = .vc p0 2 0 x0.length c := by unfold gR; rw [if_neg (by omega)]
 rw [e1]
 rw [gK_pos (by omega)] at h0
 exact ACall.revec he (by omega) (slices_Delete_lines_parcel_lines_parcel_in H σ h0 hc)
theorem trouble_New_ok {x0 : List (BitVec 8)} {x1 : Int} {x2 : Int} {r : Err} (H : trouble_New x0 x1 x2 = some r) (σ : St)  : ACall Tryd.prog 25 [(eS x0), (eI x1), (eI x2)] σ (fun a τ => a = eErr r ∧ τ = σ) := by
 unfold trouble_New at H
 refine ACall.pure (acall_start tk Tryd.func25 (by decide) rfl (nb rfl) ?_)
 have hH := Holds.init σ
 refine sr rfl (ma tk (eErr Err.nil) rfl rfl (wpo_nil (awp_seq (sr rfl (mm tk (eI x2) rfl rfl ?_)))))
 refine l_ H eB rfl (o_ar tk rfl rfl rfl) fun v2 H1 => ?_
 refine wpo_nil ?_
 refine awp_if H1 rfl (fun H3 => ?_) (fun H3 => ?_)
 ·refine sr rfl (ma tk (eErr Err.nil) rfl rfl (wpo_nil (awp_ret ?_)))
  obtain rfl := oi H3
  exact ⟨_, (eErr Err.nil), rfl, wr, .of_eq (encErr.cut _ _ _), hH.noT⟩
 ·refine awp_skip (sr rfl (mm tk (eS x0) rfl rfl (mm tk (eI x1) rfl rfl (mm tk (eI x2) rfl rfl ?_))))
  refine l_ H3 e_trouble_fault rfl (o_c tk false rfl (fun _ => rfl)) fun v5 H4 => ?_
  refine m_ (.fptr (c_trouble_fault v5) 0) rfl (o_boxf tk rfl wr (b := (e_trouble_fault v5)) (enc68.flat _)) (mc tk (eErr (Err.fault v5.op v5.at_ v5.code v5.under)) rfl rfl (fun _ => rfl) (ma tk (eErr (Err.fault v5.op v5.at_ v5.code v5.under)) rfl rfl (wpo_nil (awp_ret ?_))))
  obtain rfl := oi H4
  exact ⟨_, (eErr (Err.fault v5.op v5.at_ v5.code v5.under)), rfl, wr, .of_eq (encErr.cut _ _ _), hH.noT⟩
theorem lines_Lines_at_ok {x0 : lines_Lines} {x1 : List (BitVec 8)} {x2 : Int} {r : Err} (H : lines_Lines_at x0 x1 x2 = some r) (σ : St) {p0 p0_l c_p0_l : Nat} {g_p0_l : AV} (h0 : σ.objs[p0]? = some [g_p0_l, (eI x0.lost)]) (h0_l : σ.objs[p0_l]? = some (gK e_lines_parcel c_p0_l x0.l)) (hd : [p0, p0_l].Pairwise fun a b => a ≠ b) (gg_p0_l : GG p0_l 2 c_p0_l (x0.l).length g_p0_l) : ACall Tryd.prog 24 [(.ref p0 0), (eS x1), (eI x2)] σ (fun a τ => a = eErr r ∧ τ = σ) := by
 unfold lines_Lines_at at H
 refine ACall.pure (acall_start tk Tryd.func24 (by decide) rfl (nb rfl) ?_)
 have hH := Holds.brings (σ := σ) [(p0, [g_p0_l, (eI x0.lost)]), (p0_l, (gK e_lines_parcel c_p0_l x0.l))] (by simp only [List.mem_cons, List.not_mem_nil, or_false]; rintro _ (rfl | rfl) <;> assumption) hd
 refine sr rfl (ma tk (eErr Err.nil) rfl rfl (wpo_nil (awp_seq (awp_seq ?_))))
 obtain ⟨s1, hs3, hj4⟩ := ob H
 refine awp_cutn (fun fr τ => WkF fr (fm [(1, (eS x1)), (2, (eI x2)), (17, (eB s1))]) ∧ Holds σ [(p0, [g_p0_l, (eI x0.lost)]), (p0_l, (gK e_lines_parcel c_p0_l x0.l))] [] τ) ?_ ?_
 ·rintro fr τ ⟨hfr, hH⟩
  have H12 := hj4
  refine AWP.fm [(1, (eS x1)), (2, (eI x2)), (17, (eB s1))] hfr ?_
  refine awp_if H12 rfl (fun H13 => ?_) (fun H13 => ?_)
  ·refine sr rfl (mm tk (eS x1) rfl rfl (mm tk (eI x2) rfl rfl ?_))
   refine b_ H13 eErr rfl (fun v15 hv => OpP.of_call rfl rfl (.cons wr (.cons wr (.cons wr .nil))) (trouble_New_ok hv)) fun v15 hv15 H14 => ?_
   refine ma tk (eErr v15) rfl rfl (wpo_nil (awp_ret ?_))
   obtain rfl := oi H14
   exact ⟨_, (eErr v15), rfl, wr, .of_eq (encErr.cut _ _ _), ((hH.noT.unbring h0).unbring h0_l)⟩
  ·refine awp_skip (sr rfl (ma tk (eErr Err.nil) rfl rfl (wpo_nil (awp_ret ?_))))
   obtain rfl := oi H13
   exact ⟨_, (eErr Err.nil), rfl, wr, .of_eq (encErr.cut _ _ _), ((hH.noT.unbring h0).unbring h0_l)⟩
 ·refine awp_region rfl (mm tk (eI x2) rfl rfl ?_)
  refine l_ hs3 eB rfl (o_ar tk rfl rfl rfl) fun v6 H5 => ?_
  refine mm tk (eB v6) rfl rfl ?_
  refine if_split H5 (fun hb H7 => ?_) (fun hb H7 => ?_)
  ·subst hb
   refine k_ rfl (k_ rfl (k_ rfl (k_ rfl (k_ rfl (k_ rfl (k_ rfl (pt tk (eB true) rfl rfl rfl (wpo_nil ?_))))))))
   have e := oi H7
   subst e
   exact ⟨(wc (wc (wc (wkf_nil _)))), hH⟩
  ·subst hb
   refine mm tk (eI x2) rfl rfl (mm tk (.ref p0 0) rfl rfl (mc tk (.ref p0 0) rfl rfl (fun _ => rfl) (mc tk (.ref p0 0) rfl rfl (fun _ => rfl) (wpo_rd (a := (gC p0_l 2 c_p0_l (x0.l).length)) rfl rfl rfl (OpS.wkr gg_p0_l.wk (h_ld tk hH 0 rfl rfl rfl)) ?_))))
   refine l_ H7 eI rfl (o_glen tk td49 rfl) fun v9 H8 => ?_
   refine l_ H8 eB rfl (o_ar tk rfl rfl rfl) fun v11 H10 => ?_
   refine pf tk (eB v11) rfl rfl rfl (wpo_nil ?_)
   have e := oi H10
   subst e
   exact ⟨(wc (wc (wc (wkf_nil _)))), hH⟩
theorem lines_Lines_Drop_ok {x0 : lines_Lines} {x1 : Int} {r : Err × lines_Lines} (H : lines_Lines_Drop x0 x1 = some r) (σ : St) {p0 p0_l c_p0_l : Nat} (h0 : σ.objs[p0]? = some [(gR p0_l 2 c_p0_l (x0.l).length), (eI x0.lost)]) (h0_l : σ.objs[p0_l]? = some (gK e_lines_parcel c_p0_l x0.l)) (hd : [p0, p0_l].Pairwise fun a b => a ≠ b) (hle_p0_l : (x0.l).length ≤ c_p0_l) : ACall Tryd.prog 10 [(.ref p0 0), (eI x1)] σ (fun a τ => a = eErr r.1 ∧ τ = σ.grow [(p0, [(gC (σ.objs.length + 0) 2 c_p0_l (r.2.l).length), (eI r.2.lost)]), (p0_l, [])] [(gK e_lines_parcel c_p0_l r.2.l)] [] 0) := by
 unfold lines_Lines_Drop at H
 refine ACall.outV (B := (fun f => [(p0, [(gC (f 0) 2 c_p0_l (r.2.l).length), (eI r.2.lost)]), (p0_l, [])])) (L := [(gK e_lines_parcel c_p0_l r.2.l)]) (fun ρ κ => encErr.cut ρ κ _) (by simp only [List.mem_cons, List.not_mem_nil, or_false]; rintro _ (rfl) ρ κ <;> exact gK_cut (by first | exact enc55.cut) _ _ ρ κ) (by intro f; simp only [List.mem_cons, List.not_mem_nil, or_false]; rintro _ (rfl | rfl) <;> exact (List.getElem?_eq_some_iff.1 (by assumption)).1) (fun ρ κ f f1 h1 h3 => (.cons rfl (.cons (cut_gC (h1 0 (by simp))) (.cons (.of_eq ((enc_i64 td3 sz3).cut ρ κ _)) .nil)) (.cons rfl .nil .nil))) (acall_start tk Tryd.func10 (by decide) rfl (nb rfl) ?_)
 have hH := Holds.brings (σ := σ) [(p0, [(gR p0_l 2 c_p0_l (x0.l).length), (eI x0.lost)]), (p0_l, (gK e_lines_parcel c_p0_l x0.l))] (by simp only [List.mem_cons, List.not_mem_nil, or_false]; rintro _ (rfl | rfl) <;> assumption) hd
 refine AWP.renF (g := fun i => gR i 2 c_p0_l (x0.l).length) hH 0 1 0 rfl rfl (by decide) rfl ren_gR fun id1 τ (hH : Holds σ [(id1, (gK e_lines_parcel c_p0_l x0.l)), (p0, [(gR id1 2 c_p0_l (x0.l).length), (eI x0.lost)]), (p0_l, (cL e_lines_parcel ([] : List lines_parcel)))] [] τ) n2 => ?_
 refine sr rfl (ma tk (eErr Err.nil) rfl rfl (wpo_nil (awp_seq (sr rfl (mm tk (.ref p0 0) rfl rfl (mm tk (eI x1) rfl rfl ?_))))))
 refine wpo_bdr H eErr rfl rfl rfl (fun v4 hv => h_callr rfl rfl (.cons wr (.cons wr (.cons wr .nil))) (lines_Lines_at_ok hv _ (hH.at_ 1 rfl) (hH.at_ 0 rfl) (hH.pw [1, 0] rfl (by decide)) (.r hle_p0_l))) fun v4 hv4 H3 => ?_
 refine ma tk (eErr v4) rfl rfl (wpo_nil (sr rfl (mm tk (eErr v4) rfl rfl ?_)))
 refine l_ H3 eB rfl (o_err_neq tk rfl rfl rfl) fun v6 H5 => ?_
 refine wpo_nil ?_
 refine awp_if H5 rfl (fun H7 => ?_) (fun H7 => ?_)
 ·refine sr rfl (mm tk (eErr v4) rfl rfl (ma tk (eErr v4) rfl rfl (wpo_nil ?_)))
  refine AWP.wko hH 1 rfl (c1 := [(gC id1 2 c_p0_l (x0.l).length), (eI x0.lost)]) (.cons (GG.wk (.r hle_p0_l)) (.cons wr .nil)) fun τ (hH : Holds σ [(id1, (gK e_lines_parcel c_p0_l x0.l)), (p0, [(gC id1 2 c_p0_l (x0.l).length), (eI x0.lost)]), (p0_l, (cL e_lines_parcel ([] : List lines_parcel)))] [] τ) => ?_
  refine awp_ret ?_
  obtain rfl := oi H7
  have hH : Holds σ [(id1, (gK e_lines_parcel c_p0_l x0.l)), (p0, [(gC id1 2 c_p0_l (x0.l).length), (eI x0.lost)]), (p0_l, (cL e_lines_parcel ([] : List lines_parcel)))] [] _ := hH
  have hF : Holds σ [(id1, (gK e_lines_parcel c_p0_l x0.l)), (p0, [(gC id1 2 c_p0_l (x0.l).length), (eI x0.lost)]), (p0_l, (cL e_lines_parcel ([] : List lines_parcel)))] [] _ := hH.pick (by simp only [List.mem_cons, List.not_mem_nil, or_false]; rintro _ (rfl | rfl | rfl) <;> simp) (pw_zip (hH.pw [0, 1, 2] rfl (by decide))) (by simp only [List.mem_cons, List.not_mem_nil, or_false]; rintro _ (rfl | rfl | rfl) <;> first | exact .inl (by assumption) | exact .inr (by simp)) (fun t h => by cases h) .nil
  exact ⟨_, (eErr v4), rfl, wr, rfl, fun i => [id1].getD i 0, by intro i hi; match i, hi with | 0, _ => exact n2 | k + 1, hi => exact absurd hi (by simp), hF⟩
 ·refine awp_skip (sr rfl (mm tk (.ref p0 0) rfl rfl (mm tk (.ref p0 0) rfl rfl (mc tk (.ref p0 0) rfl rfl (fun _ => rfl) (mc tk (.ref p0 0) rfl rfl (fun _ => rfl) (wpo_rd (a := (gR id1 2 c_p0_l (x0.l).length)) rfl rfl rfl (h_ld tk hH 1 rfl rfl rfl) (mm tk (eI x1) rfl rfl (mm tk (eI x1) rfl rfl ?_))))))))
  refine l_ H7 eI rfl (o_ar tk rfl rfl rfl) fun v9 H8 => ?_
  obtain ⟨v11, hv12, H10⟩ := ob H8
  have hle15 : (v11).length ≤ c_p0_l := Nat.le_trans (delO_len hv12) hle_p0_l
  refine wpo_a (av := fun b => gR b 2 c_p0_l (v11).length) rfl rfl rfl (h_calldg hH 0 rfl n2 rfl rfl (.cons wr (.cons wr (.cons wr .nil))) (slices_Delete_lines_parcel_lines_parcel_g hv12 _ (hH.at_ 0 rfl) hle_p0_l)) fun id13 τ ⟨hH, n14⟩ => ?_
  refine mc tk (.ref p0 0) rfl rfl (fun _ => rfl) (mc tk (.ref p0 0) rfl rfl (fun _ => rfl) ?_)
  refine wpo_z rfl rfl (h_st (y := (gR id13 2 c_p0_l (v11).length)) tk hH 1 rfl ty49 (by simp) rfl rfl (GG.wk (.r hle15)) (b := (gC id13 2 c_p0_l (v11).length)) (gC_flat _ _ _ _) (gC_one _ _ _ _) (nb rfl) [(gC id13 2 c_p0_l (v11).length), (eI ({ x0 with l := v11 } : lines_Lines).lost)] (by rw [gC_cells]; rfl)) fun τ hH => ?_
  refine wpo_nil (sr rfl (mm tk (.ref p0 0) rfl rfl (mc tk (.ref p0 0) rfl rfl (fun _ => rfl) (mc tk (.ref p0 1) rfl rfl (fun _ => rfl) (wpo_rd (a := (eI ({ x0 with l := v11 } : lines_Lines).lost)) rfl rfl rfl (h_ld tk hH 1 rfl rfl rfl) ?_)))))
  refine l_ H10 eI rfl (o_ar tk rfl rfl rfl) fun v18 H17 => ?_
  refine mc tk (.ref p0 0) rfl rfl (fun _ => rfl) (mc tk (.ref p0 1) rfl rfl (fun _ => rfl) ?_)
  refine wpo_z rfl rfl (h_st tk hH 1 rfl ty3 (by simp) rfl rfl wr (b := (eI v18)) rfl rfl (nb rfl) [(gC id13 2 c_p0_l (v11).length), (eI ({ ({ x0 with l := v11 } : lines_Lines) with lost := v18 } : lines_Lines).lost)] rfl) fun τ hH => ?_
  refine wpo_nil (sr rfl (ma tk (eErr Err.nil) rfl rfl (wpo_nil (awp_ret ?_))))
  obtain rfl := oi H17
  have hH : Holds σ [(id13, (gK e_lines_parcel c_p0_l v11)), (p0, [(gC id13 2 c_p0_l (v11).length), (eI ({ ({ x0 with l := v11 } : lines_Lines) with lost := v18 } : lines_Lines).lost)]), (p0_l, (cL e_lines_parcel ([] : List lines_parcel)))] [] _ := hH
  have hF : Holds σ [(id13, (gK e_lines_parcel c_p0_l v11)), (p0, [(gC id13 2 c_p0_l (v11).length), (eI ({ ({ x0 with l := v11 } : lines_Lines) with lost := v18 } : lines_Lines).lost)]), (p0_l, (cL e_lines_parcel ([] : List lines_parcel)))] [] _ := hH.pick (by simp only [List.mem_cons, List.not_mem_nil, or_false]; rintro _ (rfl | rfl | rfl) <;> simp) (pw_zip (hH.pw [0, 1, 2] rfl (by decide))) (by simp only [List.mem_cons, List.not_mem_nil, or_false]; rintro _ (rfl | rfl | rfl) <;> first | exact .inl (by assumption) | exact .inr (by simp)) (fun t h => by cases h) .nil
  exact ⟨_, (eErr Err.nil), rfl, wr, rfl, fun i => [id13].getD i 0, by intro i hi; match i, hi with | 0, _ => exact n14 | k + 1, hi => exact absurd hi (by simp), hF⟩
theorem lines_Lines_Twice_ok {x0 : lines_Lines} {x1 : Int} {r : Err × lines_Lines} (H : lines_Lines_Twice x0 x1 = some r) (σ : St) {p0 p0_l c_p0_l : Nat} {g_p0_l : AV} (h0 : σ.objs[p0]? = some [g_p0_l, (eI x0.lost)]) (h0_l : σ.objs[p0_l]? = some (gK e_lines_parcel c_p0_l x0.l)) (hd : [p0, p0_l].Pairwise fun a b => a ≠ b) (gg_p0_l : GG p0_l 2 c_p0_l (x0.l).length g_p0_l) : ACall Tryd.prog 11 [(.ref p0 0), (eI x1)] σ (fun a τ => a = eErr r.1 ∧ τ = σ.grow [(p0, [(gC (σ.objs.length + 0) 2 c_p0_l (r.2.l).length), (eI r.2.lost)]), (p0_l, [])] [(gK e_lines_parcel c_p0_l r.2.l)] [] 0) := by
 unfold lines_Lines_Twice at H
 refine ACall.outV (B := (fun f => [(p0, [(gC (f 0) 2 c_p0_l (r.2.l).length), (eI r.2.lost)]), (p0_l, [])])) (L := [(gK e_lines_parcel c_p0_l r.2.l)]) (fun ρ κ => encErr.cut ρ κ _) (by simp only [List.mem_cons, List.not_mem_nil, or_false]; rintro _ (rfl) ρ κ <;> exact gK_cut (by first | exact enc55.cut) _ _ ρ κ) (by intro f; simp only [List.mem_cons, List.not_mem_nil, or_false]; rintro _ (rfl | rfl) <;> exact (List.getElem?_eq_some_iff.1 (by assumption)).1) (fun ρ κ f f1 h1 h3 => (.cons rfl (.cons (cut_gC (h1 0 (by simp))) (.cons (.of_eq ((enc_i64 td3 sz3).cut ρ κ _)) .nil)) (.cons rfl .nil .nil))) (acall_start tk Tryd.func11 (by decide) rfl (nb rfl) ?_)
 have hH := Holds.brings (σ := σ) [(p0, [g_p0_l, (eI x0.lost)]), (p0_l, (gK e_lines_parcel c_p0_l x0.l))] (by simp only [List.mem_cons, List.not_mem_nil, or_false]; rintro _ (rfl | rfl) <;> assumption) hd
 refine AWP.wko hH 0 rfl (c1 := [(gC p0_l 2 c_p0_l (x0.l).length), (eI x0.lost)]) (.cons gg_p0_l.wk (.cons wr .nil)) fun τ (hH : Holds σ [(p0, [(gC p0_l 2 c_p0_l (x0.l).length), (eI x0.lost)]), (p0_l, (gK e_lines_parcel c_p0_l x0.l))] [] τ) => ?_
 refine AWP.renF (g := fun i => gC i 2 c_p0_l (x0.l).length) hH 0 1 0 rfl rfl (by decide) rfl ren_gC fun id1 τ (hH : Holds σ [(id1, (gK e_lines_parcel c_p0_l x0.l)), (p0, [(gC id1 2 c_p0_l (x0.l).length), (eI x0.lost)]), (p0_l, (cL e_lines_parcel ([] : List lines_parcel)))] [] τ) n2 => ?_
 refine sr rfl (ma tk (eErr Err.nil) rfl rfl (wpo_nil (awp_seq (sr rfl (mm tk (.ref p0 0) rfl rfl (mm tk (eI x1) rfl rfl ?_))))))
 refine wpo_bdr H eErr rfl rfl rfl (fun v4 hv => h_callr rfl rfl (.cons wr (.cons wr (.cons wr .nil))) (lines_Lines_at_ok hv _ (hH.at_ 1 rfl) (hH.at_ 0 rfl) (hH.pw [1, 0] rfl (by decide)) .c)) fun v4 hv4 H3 => ?_
 refine ma tk (eErr v4) rfl rfl (wpo_nil (sr rfl (mm tk (eErr v4) rfl rfl ?_)))
 refine l_ H3 eB rfl (o_err_neq tk rfl rfl rfl) fun v6 H5 => ?_
 refine wpo_nil ?_
 refine awp_if H5 rfl (fun H7 => ?_) (fun H7 => ?_)
 ·refine sr rfl (mm tk (eErr v4) rfl rfl (ma tk (eErr v4) rfl rfl (wpo_nil (awp_ret ?_))))
  obtain rfl := oi H7
  have hH : Holds σ [(id1, (gK e_lines_parcel c_p0_l x0.l)), (p0, [(gC id1 2 c_p0_l (x0.l).length), (eI x0.lost)]), (p0_l, (cL e_lines_parcel ([] : List lines_parcel)))] [] _ := hH
  have hF : Holds σ [(id1, (gK e_lines_parcel c_p0_l x0.l)), (p0, [(gC id1 2 c_p0_l (x0.l).length), (eI x0.lost)]), (p0_l, (cL e_lines_parcel ([] : List lines_parcel)))] [] _ := hH.pick (by simp only [List.mem_cons, List.not_mem_nil, or_false]; rintro _ (rfl | rfl | rfl) <;> simp) (pw_zip (hH.pw [0, 1, 2] rfl (by decide))) (by simp only [List.mem_cons, List.not_mem_nil, or_false]; rintro _ (rfl | rfl | rfl) <;> first | exact .inl (by assumption) | exact .inr (by simp)) (fun t h => by cases h) .nil
  exact ⟨_, (eErr v4), rfl, wr, rfl, fun i => [id1].getD i 0, by intro i hi; match i, hi with | 0, _ => exact n2 | k + 1, hi => exact absurd hi (by simp), hF⟩
 ·refine awp_skip (awp_seq (sr rfl (mm tk (.ref p0 0) rfl rfl (mc tk (.ref p0 0) rfl rfl (fun _ => rfl) (mc tk (.ref p0 0) rfl rfl (fun _ => rfl) (wpo_rd (a := (gC id1 2 c_p0_l (x0.l).length)) rfl rfl rfl (h_ld tk hH 1 rfl rfl rfl) ?_))))))
  refine l_ H7 eI rfl (o_glen tk td49 rfl) fun v9 H8 => ?_
  refine l_ H8 eB rfl (o_ar tk rfl rfl rfl) fun v11 H10 => ?_
  refine wpo_nil ?_
  refine awp_if H10 rfl (fun H12 => ?_) (fun H12 => ?_)
  ·refine sr rfl (mm tk (eI x1) rfl rfl ?_)
   refine b_ H12 eErr rfl (fun v14 hv => OpP.of_call rfl rfl (.cons wr (.cons wr (.cons wr .nil))) (trouble_New_ok hv)) fun v14 hv14 H13 => ?_
   refine ma tk (eErr v14) rfl rfl (wpo_nil (awp_ret ?_))
   obtain rfl := oi H13
   have hH : Holds σ [(id1, (gK e_lines_parcel c_p0_l x0.l)), (p0, [(gC id1 2 c_p0_l (x0.l).length), (eI x0.lost)]), (p0_l, (cL e_lines_parcel ([] : List lines_parcel)))] [] _ := hH
   have hF : Holds σ [(id1, (gK e_lines_parcel c_p0_l x0.l)), (p0, [(gC id1 2 c_p0_l (x0.l).length), (eI x0.lost)]), (p0_l, (cL e_lines_parcel ([] : List lines_parcel)))] [] _ := hH.pick (by simp only [List.mem_cons, List.not_mem_nil, or_false]; rintro _ (rfl | rfl | rfl) <;> simp) (pw_zip (hH.pw [0, 1, 2] rfl (by decide))) (by simp only [List.mem_cons, List.not_mem_nil, or_false]; rintro _ (rfl | rfl | rfl) <;> first | exact .inl (by assumption) | exact .inr (by simp)) (fun t h => by cases h) .nil
   exact ⟨_, (eErr v14), rfl, wr, rfl, fun i => [id1].getD i 0, by intro i hi; match i, hi with | 0, _ => exact n2 | k + 1, hi => exact absurd hi (by simp), hF⟩
  ·refine awp_skip (sr rfl (mm tk (.ref p0 0) rfl rfl (mc tk (.ref p0 0) rfl rfl (fun _ => rfl) (mc tk (.ref p0 0) rfl rfl (fun _ => rfl) (wpo_rd (a := (gC id1 2 c_p0_l (x0.l).length)) rfl rfl rfl (h_ld tk hH 1 rfl rfl rfl) (mm tk (eI x1) rfl rfl ?_))))))
   refine b_ H12 (fun _ => .ref id1 (0 + (x1 : Int).toNat * 2 + 0)) rfl (fun v16 hv => o_gvecx tk hv td49 sz55 (by decide) rfl rfl) fun v16 hv16 H15 => ?_
   refine mc tk (.ref id1 (0 + (x1 : Int).toNat * 2 + 0)) rfl rfl (fun _ => rfl) ?_
   refine wpo_bdr H15 (fun y => (eL 1 (@eU .u8 8)) y.b) rfl rfl rfl (fun v18 hv => h_ldxG tk hH 0 hv rfl enc55 rfl (by decide) rfl) fun v18 hv18 H17 => ?_
   refine l_ H17 eI rfl (o_len tk td31 rfl) fun v20 H19 => ?_
   obtain ⟨v22, hv23, H21⟩ := ob H19
   refine wpo_a (av := fun b => .vec b 1 (v22).length) rfl rfl rfl (h_makeV (e := (@eU .u8 8)) tk hH hv23 td31 ty5 rfl rfl rfl rfl) fun id24 τ ⟨hH, n25⟩ => ?_
   refine ma tk (.vec id24 1 (v22).length) rfl rfl (wpo_nil (sr rfl (mm tk (.vec id24 1 (v22).length) rfl rfl (mm tk (.ref p0 0) rfl rfl (mc tk (.ref p0 0) rfl rfl (fun _ => rfl) (mc tk (.ref p0 0) rfl rfl (fun _ => rfl) (wpo_rd (a := (gC id1 2 c_p0_l (x0.l).length)) rfl rfl rfl (h_ld tk hH 2 rfl rfl rfl) (mm tk (eI x1) rfl rfl ?_))))))))
   refine b_ H21 (fun _ => .ref id1 (0 + (x1 : Int).toNat * 2 + 0)) rfl (fun v27 hv => o_gvecx tk hv td49 sz55 (by decide) rfl rfl) fun v27 hv27 H26 => ?_
   refine mc tk (.ref id1 (0 + (x1 : Int).toNat * 2 + 0)) rfl rfl (fun _ => rfl) ?_
   refine wpo_bdr H26 (fun y => (eL 1 (@eU .u8 8)) y.b) rfl rfl rfl (fun v29 hv => h_ldxG tk hH 1 hv rfl enc55 rfl (by decide) rfl) fun v29 hv29 H28 => ?_
   obtain ⟨c31, hc32, H30⟩ := ob H28
   refine wpo_a (av := fun _ => eI ((v29.b).length : Int)) rfl rfl rfl (h_cpV tk hH 0 hc32 rfl (enc_u td5 sz5) td31 ty5 rfl (by simp) rfl rfl (srv_l (enc_u td5 sz5) td31 rfl)) fun _ τ (hH : Holds σ [(id24, (cL (@eU .u8 8) c31)), (id1, (gK e_lines_parcel c_p0_l x0.l)), (p0, [(gC id1 2 c_p0_l (x0.l).length), (eI x0.lost)]), (p0_l, (cL e_lines_parcel ([] : List lines_parcel)))] [] τ) => ?_
   refine wpo_nil (awp_seq ?_)
   refine AWP.frz hH 0 6 rfl n25 (enc_u td5 sz5) rfl (cpL_len hc32) fun tk33 τ (hH : Holds σ [(id1, (gK e_lines_parcel c_p0_l x0.l)), (p0, [(gC id1 2 c_p0_l (x0.l).length), (eI x0.lost)]), (p0_l, (cL e_lines_parcel ([] : List lines_parcel)))] [tk33] τ) => ?_
   refine awp_drawS mixed [16, 19] rfl (by decide +kernel) rfl rfl ?_
   refine wpdS_mv (a := (.ref p0 0)) rfl rfl rfl (o_mv tk rfl (Wk.refl _)) (wpdS_mv (a := (.ref p0 0)) rfl rfl rfl (o_mv tk rfl (Wk.refl _)) (wpdS_mv (a := (.ref p0 0)) rfl rfl rfl (o_c tk false rfl (fun _ => rfl)) (wpdS_mv (a := (.ref p0 0)) rfl rfl rfl (o_c tk false rfl (fun _ => rfl)) (wpdS_rd (a := (gC id1 2 c_p0_l (x0.l).length)) rfl (by decide +kernel) rfl rfl (h_ld tk hH 1 rfl rfl rfl) (wpdS_mv (a := (eT tk33 1 (@eU .u8 8) c31)) rfl rfl rfl (o_mv tk rfl (Wk.refl _)) (wpdS_mv (a := (.ref p0 0)) rfl rfl rfl (o_mv tk rfl (Wk.refl _)) (wpdS_mv (a := (.ref p0 0)) rfl rfl rfl (o_c tk false rfl (fun _ => rfl)) (wpdS_mv (a := (.ref p0 0)) rfl rfl rfl (o_c tk false rfl (fun _ => rfl)) ?_))))))))
   refine wpdS_rd (a := (gC id1 2 c_p0_l (x0.l).length)) rfl (by decide +kernel) rfl rfl (h_ld tk hH 1 rfl rfl rfl) (wpdS_mv (a := (eI x1)) rfl rfl rfl (o_mv tk rfl (Wk.refl _)) ?_)
   refine wpdS_bd H30 (fun _ => .ref id1 (0 + (x1 : Int).toNat * 2 + 0)) rfl rfl rfl (fun v35 hv => o_gvecx tk hv td49 sz55 (by decide) rfl rfl) fun v35 hv35 H34 => ?_
   refine wpdS_mv (a := (.ref id1 (0 + (x1 : Int).toNat * 2 + 1))) rfl rfl rfl (o_c tk false rfl (fun _ => rfl)) ?_
   refine wpdS_bdr H34 (fun y => eB y.spoilt) rfl (by decide +kernel) rfl rfl (fun v37 hv => h_ldxG tk hH 0 hv rfl enc55 rfl (by decide) rfl) fun v37 hv37 H36 => ?_
   refine wpdS_lt H36 e_lines_parcel rfl rfl rfl (OpP.wk (wkf_up (t := 46) (a := ((eL 1 (@eU .u8 8)) c31)) wk_no) (o_c tk false rfl (fun _ => rfl))) fun v39 H38 => ?_
   refine wpdS_mv (a := (eF 2 e_lines_parcel ([v39] : List lines_parcel))) rfl rfl rfl (o_c tk false rfl (fun _ => rfl)) ?_
   obtain ⟨v41, hv42, H40⟩ := ob H38
   refine wpdS_a (av := fun b => gC b 2 c_p0_l (v41).length) rfl rfl rfl (h_appG tk hH 0 hv42 rfl rfl n2 enc55 td49 ty55 rfl (by decide) rfl rfl (srv_l enc55 td49 rfl)) fun id43 τ ⟨hH, n44⟩ => ?_
   refine wpdS_mv (a := (.ref p0 0)) rfl rfl rfl (o_c tk false rfl (fun _ => rfl)) (wpdS_mv (a := (.ref p0 0)) rfl rfl rfl (o_c tk false rfl (fun _ => rfl)) ?_)
   refine wpdS_z rfl rfl rfl (h_st (y := (gC id43 2 c_p0_l (v41).length)) tk hH 1 rfl ty49 (by simp) rfl rfl wr (b := (gC id43 2 c_p0_l (v41).length)) (gC_flat _ _ _ _) (gC_one _ _ _ _) (nb rfl) [(gC id43 2 c_p0_l (v41).length), (eI ({ x0 with l := v41 } : lines_Lines).lost)] (by rw [gC_cells]; rfl)) fun τ hH => ?_
   refine wpdS_nil (sr rfl (ma tk (eErr Err.nil) rfl rfl (wpo_nil (awp_ret ?_))))
   obtain rfl := oi H40
   have hH : Holds σ [(id43, (gK e_lines_parcel c_p0_l v41)), (p0, [(gC id43 2 c_p0_l (v41).length), (eI ({ x0 with l := v41 } : lines_Lines).lost)]), (p0_l, (cL e_lines_parcel ([] : List lines_parcel)))] [tk33] _ := hH
   have hF : Holds σ [(id43, (gK e_lines_parcel c_p0_l v41)), (p0, [(gC id43 2 c_p0_l (v41).length), (eI ({ x0 with l := v41 } : lines_Lines).lost)]), (p0_l, (cL e_lines_parcel ([] : List lines_parcel)))] [] _ := hH.pick (by simp only [List.mem_cons, List.not_mem_nil, or_false]; rintro _ (rfl | rfl | rfl) <;> simp) (pw_zip (hH.pw [0, 1, 2] rfl (by decide))) (by simp only [List.mem_cons, List.not_mem_nil, or_false]; rintro _ (rfl | rfl | rfl) <;> first | exact .inl (by assumption) | exact .inr (by simp)) (fun t h => by cases h) .nil
   exact ⟨_, (eErr Err.nil), rfl, wr, rfl, fun i => [id43].getD i 0, by intro i hi; match i, hi with | 0, _ => exact n44 | k + 1, hi => exact absurd hi (by simp), hF⟩
theorem slices_Clone_byte_byteV_vec {x0 : List (BitVec 8)} {r : (List (BitVec 8))} (H : slices_Clone_byte_byteV x0 = some r) (σ : St)  : ACall Tryd.prog 26 [((eL 1 (@eU .u8 8)) x0)] σ (fun a τ => a = .vec σ.objs.length 1 (r).length ∧ τ = ⟨σ.objs ++ [cL (@eU .u8 8) r], σ.opn, σ.gl⟩) := by
 unfold slices_Clone_byte_byteV at H
 refine ACall.vec (fun ρ κ => cut_cL (enc_u td5 sz5).cut ρ κ r) (acall_start tk Tryd.func26 (by decide) rfl (nb rfl) ?_)
 have hH := Holds.init σ
 refine sr rfl (ma tk AV.nils rfl rfl (wpo_nil (awp_seq (sr rfl (mm tk ((eL 1 (@eU .u8 8)) x0) rfl rfl ?_)))))
 refine wpo_nilq rfl rfl rfl (o_nilq tk td31 rfl rfl) fun b1 hb2 => ?_
 refine wpo_nil ?_
 refine awp_nilif (b := b1) rfl (fun hb2_ => ?_) ?_
 ·have hx4 := List.map_eq_nil_iff.1 (hb2 hb2_)
  have H3 : (some ([] : List (BitVec 8))) = some _ := Eq.trans (by simp [hx4, app]) H
  refine sr rfl (ma tk AV.nils rfl rfl (wpo_nil ?_))
  refine AWP.vecN hH 2 1 (.inl rfl) fun id5 τ (hH : Holds σ [(id5, (cL (@eU .u8 8) ([] : List (BitVec 8))))] [] τ) n6 => ?_
  refine awp_ret ?_
  obtain rfl := oi H3
  exact ⟨_, .vec id5 1 (([] : List (BitVec 8))).length, rfl, wr, id5, rfl, n6, hH.noT⟩
 ·refine awp_skip (sr rfl (mc tk (eF 1 (@eU .u8 8) ([] : List (BitVec 8))) rfl rfl (fun _ => rfl) (mm tk ((eL 1 (@eU .u8 8)) x0) rfl rfl ?_)))
  obtain ⟨v8, hv9, H7⟩ := ob H
  refine wpo_a (av := fun b => .vec b 1 (v8).length) rfl rfl rfl (h_appV0 tk hH hv9 (enc_u td5 sz5) td31 ty5 rfl (by decide) (by simp) (.inr rfl) (srv_l (enc_u td5 sz5) td31 rfl)) fun id10 τ ⟨hH, n11⟩ => ?_
  refine ma tk (.vec id10 1 (v8).length) rfl rfl (wpo_nil (awp_ret ?_))
  obtain rfl := oi H7
  exact ⟨_, .vec id10 1 (v8).length, rfl, wr, id10, rfl, n11, hH.noT⟩
theorem lines_Lines_Spoil_ok {x0 : lines_Lines} {x1 : Int} {x2 : Int} {x3 : BitVec 8} {r : Err × lines_Lines} (H : lines_Lines_Spoil x0 x1 x2 x3 = some r) (σ : St) {p0 p0_l c_p0_l : Nat} {g_p0_l : AV} (h0 : σ.objs[p0]? = some [g_p0_l, (eI x0.lost)]) (h0_l : σ.objs[p0_l]? = some (gK e_lines_parcel c_p0_l x0.l)) (hd : [p0, p0_l].Pairwise fun a b => a ≠ b) (gg_p0_l : GG p0_l 2 c_p0_l (x0.l).length g_p0_l) : ACall Tryd.prog 12 [(.ref p0 0), (eI x1), (eI x2), ((@eU .u8 8) x3)] σ (fun a τ => a = eErr r.1 ∧ τ = σ.grow [(p0, [(gC (σ.objs.length + 0) 2 c_p0_l (r.2.l).length), (eI r.2.lost)]), (p0_l, [])] [(gK e_lines_parcel c_p0_l r.2.l)] [] 0) := by
 unfold lines_Lines_Spoil at H
 refine ACall.outV (B := (fun f => [(p0, [(gC (f 0) 2 c_p0_l (r.2.l).length), (eI r.2.lost)]), (p0_l, [])])) (L := [(gK e_lines_parcel c_p0_l r.2.l)]) (fun ρ κ => encErr.cut ρ κ _) (by simp only [List.mem_cons, List.not_mem_nil, or_false]; rintro _ (rfl) ρ κ <;> exact gK_cut (by first | exact enc55.cut) _ _ ρ κ) (by intro f; simp only [List.mem_cons, List.not_mem_nil, or_false]; rintro _ (rfl | rfl) <;> exact (List.getElem?_eq_some_iff.1 (by assumption)).1) (fun ρ κ f f1 h1 h3 => (.cons rfl (.cons (cut_gC (h1 0 (by simp))) (.cons (.of_eq ((enc_i64 td3 sz3).cut ρ κ _)) .nil)) (.cons rfl .nil .nil))) (acall_start tk Tryd.func12 (by decide) rfl (nb rfl) ?_)
 have hH := Holds.brings (σ := σ) [(p0, [g_p0_l, (eI x0.lost)]), (p0_l, (gK e_lines_parcel c_p0_l x0.l))] (by simp only [List.mem_cons, List.not_mem_nil, or_false]; rintro _ (rfl | rfl) <;> assumption) hd
 refine AWP.wko hH 0 rfl (c1 := [(gC p0_l 2 c_p0_l (x0.l).length), (eI x0.lost)]) (.cons gg_p0_l.wk (.cons wr .nil)) fun τ (hH : Holds σ [(p0, [(gC p0_l 2 c_p0_l (x0.l).length), (eI x0.lost)]), (p0_l, (gK e_lines_parcel c_p0_l x0.l))] [] τ) => ?_
 refine AWP.renF (g := fun i => gC i 2 c_p0_l (x0.l).length) hH 0 1 0 rfl rfl (by decide) rfl ren_gC fun id1 τ (hH : Holds σ [(id1, (gK e_lines_parcel c_p0_l x0.l)), (p0, [(gC id1 2 c_p0_l (x0.l).length), (eI x0.lost)]), (p0_l, (cL e_lines_parcel ([] : List lines_parcel)))] [] τ) n2 => ?_
 refine sr rfl (ma tk (eErr Err.nil) rfl rfl (wpo_nil (awp_seq (sr rfl (mm tk (.ref p0 0) rfl rfl (mm tk (eI x1) rfl rfl ?_))))))
 refine wpo_bdr H eErr rfl rfl rfl (fun v4 hv => h_callr rfl rfl (.cons wr (.cons wr (.cons wr .nil))) (lines_Lines_at_ok hv _ (hH.at_ 1 rfl) (hH.at_ 0 rfl) (hH.pw [1, 0] rfl (by decide)) .c)) fun v4 hv4 H3 => ?_
 refine ma tk (eErr v4) rfl rfl (wpo_nil (sr rfl (mm tk (eErr v4) rfl rfl ?_)))
 refine l_ H3 eB rfl (o_err_neq tk rfl rfl rfl) fun v6 H5 => ?_
 refine wpo_nil ?_
 refine awp_if H5 rfl (fun H7 => ?_) (fun H7 => ?_)
 ·refine sr rfl (mm tk (eErr v4) rfl rfl (ma tk (eErr v4) rfl rfl (wpo_nil (awp_ret ?_))))
  obtain rfl := oi H7
  have hH : Holds σ [(id1, (gK e_lines_parcel c_p0_l x0.l)), (p0, [(gC id1 2 c_p0_l (x0.l).length), (eI x0.lost)]), (p0_l, (cL e_lines_parcel ([] : List lines_parcel)))] [] _ := hH
  have hF : Holds σ [(id1, (gK e_lines_parcel c_p0_l x0.l)), (p0, [(gC id1 2 c_p0_l (x0.l).length), (eI x0.lost)]), (p0_l, (cL e_lines_parcel ([] : List lines_parcel)))] [] _ := hH.pick (by simp only [List.mem_cons, List.not_mem_nil, or_false]; rintro _ (rfl | rfl | rfl) <;> simp) (pw_zip (hH.pw [0, 1, 2] rfl (by decide))) (by simp only [List.mem_cons, List.not_mem_nil, or_false]; rintro _ (rfl | rfl | rfl) <;> first | exact .inl (by assumption) | exact .inr (by simp)) (fun t h => by cases h) .nil
  exact ⟨_, (eErr v4), rfl, wr, rfl, fun i => [id1].getD i 0, by intro i hi; match i, hi with | 0, _ => exact n2 | k + 1, hi => exact absurd hi (by simp), hF⟩
 ·refine awp_skip (awp_seq (sr rfl (mm tk (.ref p0 0) rfl rfl (mc tk (.ref p0 0) rfl rfl (fun _ => rfl) (mc tk (.ref p0 0) rfl rfl (fun _ => rfl) (wpo_rd (a := (gC id1 2 c_p0_l (x0.l).length)) rfl rfl rfl (h_ld tk hH 1 rfl rfl rfl) (mm tk (eI x1) rfl rfl ?_)))))))
  refine b_ H7 (fun _ => .ref id1 (0 + (x1 : Int).toNat * 2 + 0)) rfl (fun v9 hv => o_gvecx tk hv td49 sz55 (by decide) rfl rfl) fun v9 hv9 H8 => ?_
  refine ma tk (.ref id1 (0 + (x1 : Int).toNat * 2 + 0)) rfl rfl (wpo_nil (awp_block (sr rfl (mm tk (.ref id1 (0 + (x1 : Int).toNat * 2 + 0)) rfl rfl (mc tk (.ref id1 (0 + (x1 : Int).toNat * 2 + 0)) rfl rfl (fun _ => rfl) (mc tk (.ref id1 (0 + (x1 : Int).toNat * 2 + 1)) rfl rfl (fun _ => rfl) ?_))))))
  refine wpo_bdr H8 (fun y => eB y.spoilt) rfl rfl rfl (fun v11 hv => h_ldxG tk hH 0 hv rfl enc55 rfl (by decide) rfl) fun v11 hv11 H10 => ?_
  refine ma tk (eB v11.spoilt) rfl rfl (wpo_nil ?_)
  refine awp_if H10 rfl (fun H12 => ?_) (fun H12 => ?_)
  ·refine sr rfl (mm tk (eI x1) rfl rfl ?_)
   refine b_ H12 eErr rfl (fun v14 hv => OpP.of_call rfl rfl (.cons wr (.cons wr (.cons wr .nil))) (trouble_New_ok hv)) fun v14 hv14 H13 => ?_
   refine ma tk (eErr v14) rfl rfl (wpo_nil (awp_ret ?_))
   obtain rfl := oi H13
   have hH : Holds σ [(id1, (gK e_lines_parcel c_p0_l x0.l)), (p0, [(gC id1 2 c_p0_l (x0.l).length), (eI x0.lost)]), (p0_l, (cL e_lines_parcel ([] : List lines_parcel)))] [] _ := hH
   have hF : Holds σ [(id1, (gK e_lines_parcel c_p0_l x0.l)), (p0, [(gC id1 2 c_p0_l (x0.l).length), (eI x0.lost)]), (p0_l, (cL e_lines_parcel ([] : List lines_parcel)))] [] _ := hH.pick (by simp only [List.mem_cons, List.not_mem_nil, or_false]; rintro _ (rfl | rfl | rfl) <;> simp) (pw_zip (hH.pw [0, 1, 2] rfl (by decide))) (by simp only [List.mem_cons, List.not_mem_nil, or_false]; rintro _ (rfl | rfl | rfl) <;> first | exact .inl (by assumption) | exact .inr (by simp)) (fun t h => by cases h) .nil
   exact ⟨_, (eErr v14), rfl, wr, rfl, fun i => [id1].getD i 0, by intro i hi; match i, hi with | 0, _ => exact n2 | k + 1, hi => exact absurd hi (by simp), hF⟩
  ·refine awp_seq ?_
   obtain ⟨s15, hs17, hj18⟩ := ob H12
   refine awp_cutn (fun fr τ => WkF fr (fm [(2, (eI x2)), (3, ((@eU .u8 8) x3)), (10, (.ref id1 (0 + (x1 : Int).toNat * 2 + 0))), (51, (eB s15))]) ∧ Holds σ [(id1, (gK e_lines_parcel c_p0_l x0.l)), (p0, [(gC id1 2 c_p0_l (x0.l).length), (eI x0.lost)]), (p0_l, (cL e_lines_parcel ([] : List lines_parcel)))] [] τ) ?_ ?_
   ·rintro fr τ ⟨hfr, hH⟩
    have H31 := hj18
    refine AWP.fm [(2, (eI x2)), (3, ((@eU .u8 8) x3)), (10, (.ref id1 (0 + (x1 : Int).toNat * 2 + 0))), (51, (eB s15))] hfr ?_
    refine awp_if H31 rfl (fun H32 => ?_) (fun H32 => ?_)
    ·refine sr rfl (mm tk (eI x2) rfl rfl ?_)
     refine b_ H32 eErr rfl (fun v34 hv => OpP.of_call rfl rfl (.cons wr (.cons wr (.cons wr .nil))) (trouble_New_ok hv)) fun v34 hv34 H33 => ?_
     refine ma tk (eErr v34) rfl rfl (wpo_nil (awp_ret ?_))
     obtain rfl := oi H33
     have hH : Holds σ [(id1, (gK e_lines_parcel c_p0_l x0.l)), (p0, [(gC id1 2 c_p0_l (x0.l).length), (eI x0.lost)]), (p0_l, (cL e_lines_parcel ([] : List lines_parcel)))] [] _ := hH
     have hF : Holds σ [(id1, (gK e_lines_parcel c_p0_l x0.l)), (p0, [(gC id1 2 c_p0_l (x0.l).length), (eI x0.lost)]), (p0_l, (cL e_lines_parcel ([] : List lines_parcel)))] [] _ := hH.pick (by simp only [List.mem_cons, List.not_mem_nil, or_false]; rintro _ (rfl | rfl | rfl) <;> simp) (pw_zip (hH.pw [0, 1, 2] rfl (by decide))) (by simp only [List.mem_cons, List.not_mem_nil, or_false]; rintro _ (rfl | rfl | rfl) <;> first | exact .inl (by assumption) | exact .inr (by simp)) (fun t h => by cases h) .nil
     exact ⟨_, (eErr v34), rfl, wr, rfl, fun i => [id1].getD i 0, by intro i hi; match i, hi with | 0, _ => exact n2 | k + 1, hi => exact absurd hi (by simp), hF⟩
    ·refine sr rfl (mm tk (.ref id1 (0 + (x1 : Int).toNat * 2 + 0)) rfl rfl (mm tk (.ref id1 (0 + (x1 : Int).toNat * 2 + 0)) rfl rfl (mc tk (.ref id1 (0 + (x1 : Int).toNat * 2 + 0)) rfl rfl (fun _ => rfl) (mc tk (.ref id1 (0 + (x1 : Int).toNat * 2 + 0)) rfl rfl (fun _ => rfl) ?_))))
     refine wpo_bdr H32 (fun y => (eL 1 (@eU .u8 8)) y.b) rfl rfl rfl (fun v36 hv => h_ldxG tk hH 0 hv rfl enc55 rfl (by decide) rfl) fun v36 hv36 H35 => ?_
     obtain ⟨v38, hv39, H37⟩ := ob H35
     refine wpo_a (av := fun b => .vec b 1 (v38).length) rfl rfl rfl (h_callv hH (cL (@eU .u8 8) _) rfl rfl (.cons wr .nil) (slices_Clone_byte_byteV_vec hv39 _)) fun id40 τ ⟨hH, n41⟩ => ?_
     refine mc tk (.ref id1 (0 + (x1 : Int).toNat * 2 + 0)) rfl rfl (fun _ => rfl) (mc tk (.ref id1 (0 + (x1 : Int).toNat * 2 + 0)) rfl rfl (fun _ => rfl) ?_)
     obtain ⟨v43, hv44, H42⟩ := ob H37
     have hH := Holds.cells hH 1 (cLh e_lines_parcel x0.l (x1 : Int).toNat [((eL 1 (@eU .u8 8)) v43.b), (eB v43.spoilt)]) rfl (gK_open hv44)
     refine wpo_z rfl rfl (h_sth (y := (.vec id40 1 (v38).length)) tk hH 1 hv44 rfl enc55 ty31 (by simp) rfl rfl wr (b := (.vec id40 1 (v38).length)) rfl rfl rfl (by decide) (nb rfl) rfl) fun τ (hH : Holds σ [(id40, (cL (@eU .u8 8) v38)), (id1, (cLh e_lines_parcel x0.l (x1 : Int).toNat [(.vec id40 1 (v38).length), (eB v43.spoilt)])), (p0, [(gC id1 2 c_p0_l (x0.l).length), (eI x0.lost)]), (p0_l, (cL e_lines_parcel ([] : List lines_parcel)))] [] τ) => ?_
     refine wpo_nil (sr rfl (mm tk (.ref id1 (0 + (x1 : Int).toNat * 2 + 0)) rfl rfl (mc tk (.ref id1 (0 + (x1 : Int).toNat * 2 + 0)) rfl rfl (fun _ => rfl) (mc tk (.ref id1 (0 + (x1 : Int).toNat * 2 + 0)) rfl rfl (fun _ => rfl) (wpo_rd (a := (.vec id40 1 (v38).length)) rfl rfl rfl (h_ldh tk hH 1 hv44 rfl enc55 rfl rfl rfl (by decide) rfl rfl) (mm tk (eI x2) rfl rfl ?_))))))
     refine b_ H42 (fun _ => .ref id40 (0 + (x2 : Int).toNat * 1 + 0)) rfl (fun v46 hv => o_vecx tk hv td31 sz5 (by decide) rfl rfl) fun v46 hv46 H45 => ?_
     refine wpo_bdr H45 (fun y => (@eU .u8 8) y) rfl rfl rfl (fun v48 hv => h_ldx tk hH 0 hv rfl (enc_u td5 sz5) (acut_enc (enc_u td5 sz5) rfl _) (by decide) rfl) fun v48 hv48 H47 => ?_
     refine mm tk ((@eU .u8 8) x3) rfl rfl ?_
     refine l_ H47 (@eU .u8 8) rfl (o_xor_u tk rfl rfl rfl) fun v50 H49 => ?_
     refine b_ H49 (fun _ => .ref id40 (0 + (x2 : Int).toNat * 1 + 0)) rfl (fun v52 hv => o_vecx tk hv td31 sz5 (by decide) rfl rfl) fun v52 hv52 H51 => ?_
     obtain ⟨c54, hc55, H53⟩ := ob H51
     refine wpo_z rfl rfl (h_stx tk hH 0 hc55 rfl (enc_u td5 sz5) ty5 (by simp) rfl rfl wr (b := ((@eU .u8 8) v50)) rfl rfl (by decide) (fun _ => rfl)) fun τ hH => ?_
     refine wpo_nil (awp_region rfl (mm tk (.ref id1 (0 + (x1 : Int).toNat * 2 + 0)) rfl rfl (mc tk (.ref id1 (0 + (x1 : Int).toNat * 2 + 0)) rfl rfl (fun _ => rfl) (mc tk (.ref id1 (0 + (x1 : Int).toNat * 2 + 1)) rfl rfl (fun _ => rfl) ?_))))
     refine wpo_z rfl rfl (h_sth (y := (eB true)) tk hH 1 hv44 rfl enc55 ty4 (by simp) rfl rfl wr (b := (eB true)) rfl rfl rfl (by decide) (nb rfl) rfl) fun τ (hH : Holds σ [(id40, (cL (@eU .u8 8) c54)), (id1, (cLh e_lines_parcel x0.l (x1 : Int).toNat [(.vec id40 1 (v38).length), (eB ({ v43 with spoilt := true } : lines_parcel).spoilt)])), (p0, [(gC id1 2 c_p0_l (x0.l).length), (eI x0.lost)]), (p0_l, (cL e_lines_parcel ([] : List lines_parcel)))] [] τ) => ?_
     refine wpo_nil (awp_seq ?_)
     refine AWP.closeH (y := ({ ({ v43 with spoilt := true } : lines_parcel) with b := c54 } : lines_parcel)) hH 1 0 0 hv44 rfl rfl n41 (by decide) enc55 (enc_u td5 sz5) rfl (updA_len hc55) rfl (by decide) (fun tk => (.cons wk_no (.cons wr .nil))) fun tk57 τ (hH : Holds σ [(id1, (gK e_lines_parcel c_p0_l (x0.l.set (x1 : Int).toNat ({ ({ v43 with spoilt := true } : lines_parcel) with b := c54 } : lines_parcel)))), (p0, [(gC id1 2 c_p0_l (x0.l).length), (eI x0.lost)]), (p0_l, (cL e_lines_parcel ([] : List lines_parcel)))] [tk57] τ) => ?_
     refine awp_region rfl (ma tk (eErr Err.nil) rfl rfl (wpo_nil (awp_ret ?_)))
     have hH : Holds σ [(id1, (gK e_lines_parcel c_p0_l (x0.l.set (x1 : Int).toNat ({ ({ v43 with spoilt := true } : lines_parcel) with b := c54 } : lines_parcel)))), (p0, [(gC id1 2 c_p0_l (((x0.l.set (x1 : Int).toNat ({ ({ v43 with spoilt := true } : lines_parcel) with b := c54 } : lines_parcel))).length)), (eI x0.lost)]), (p0_l, (cL e_lines_parcel ([] : List lines_parcel)))] [tk57] _ := (Holds.cells hH 1 [(gC id1 2 c_p0_l (((x0.l.set (x1 : Int).toNat ({ ({ v43 with spoilt := true } : lines_parcel) with b := c54 } : lines_parcel))).length)), (eI x0.lost)] rfl (by first | rfl | simp only [List.length_set]))
     obtain rfl := oi H53
     have hH : Holds σ [(id1, (gK e_lines_parcel c_p0_l (x0.l.set (x1 : Int).toNat ({ ({ v43 with spoilt := true } : lines_parcel) with b := c54 } : lines_parcel)))), (p0, [(gC id1 2 c_p0_l (((x0.l.set (x1 : Int).toNat ({ ({ v43 with spoilt := true } : lines_parcel) with b := c54 } : lines_parcel))).length)), (eI x0.lost)]), (p0_l, (cL e_lines_parcel ([] : List lines_parcel)))] [tk57] _ := hH
     have hF : Holds σ [(id1, (gK e_lines_parcel c_p0_l (x0.l.set (x1 : Int).toNat ({ ({ v43 with spoilt := true } : lines_parcel) with b := c54 } : lines_parcel)))), (p0, [(gC id1 2 c_p0_l (((x0.l.set (x1 : Int).toNat ({ ({ v43 with spoilt := true } : lines_parcel) with b := c54 } : lines_parcel))).length)), (eI x0.lost)]), (p0_l, (cL e_lines_parcel ([] : List lines_parcel)))] [] _ := hH.pick (by simp only [List.mem_cons, List.not_mem_nil, or_false]; rintro _ (rfl | rfl | rfl) <;> simp) (pw_zip (hH.pw [0, 1, 2] rfl (by decide))) (by simp only [List.mem_cons, List.not_mem_nil, or_false]; rintro _ (rfl | rfl | rfl) <;> first | exact .inl (by assumption) | exact .inr (by simp)) (fun t h => by cases h) .nil
     exact ⟨_, (eErr Err.nil), rfl, wr, rfl, fun i => [id1].getD i 0, by intro i hi; match i, hi with | 0, _ => exact n2 | k + 1, hi => exact absurd hi (by simp), hF⟩
   ·refine awp_region rfl (mm tk (eI x2) rfl rfl ?_)
    refine l_ hs17 eB rfl (o_ar tk rfl rfl rfl) fun v20 H19 => ?_
    refine mm tk (eB v20) rfl rfl ?_
    refine if_split H19 (fun hb H21 => ?_) (fun hb H21 => ?_)
    ·subst hb
     refine k_ rfl (k_ rfl (k_ rfl (k_ rfl (k_ rfl (k_ rfl (k_ rfl (pt tk (eB true) rfl rfl rfl (mm tk (eB true) rfl rfl ?_))))))))
     refine k_ rfl (k_ rfl (pt tk (eB true) rfl rfl rfl (ma tk (eB true) rfl rfl (wpo_nil ?_))))
     have e := oi H21
     subst e
     exact ⟨(wc (wc (wc (wc (wkf_nil _))))), hH⟩
    ·subst hb
     refine mm tk (eI x2) rfl rfl (mm tk (.ref id1 (0 + (x1 : Int).toNat * 2 + 0)) rfl rfl (mc tk (.ref id1 (0 + (x1 : Int).toNat * 2 + 0)) rfl rfl (fun _ => rfl) (mc tk (.ref id1 (0 + (x1 : Int).toNat * 2 + 0)) rfl rfl (fun _ => rfl) ?_)))
     refine wpo_bdr H21 (fun y => (eL 1 (@eU .u8 8)) y.b) rfl rfl rfl (fun v23 hv => h_ldxG tk hH 0 hv rfl enc55 rfl (by decide) rfl) fun v23 hv23 H22 => ?_
     refine l_ H22 eI rfl (o_len tk td31 rfl) fun v25 H24 => ?_
     refine l_ H24 eB rfl (o_ar tk rfl rfl rfl) fun v27 H26 => ?_
     refine pf tk (eB v27) rfl rfl rfl (mm tk (eB v27) rfl rfl ?_)
     refine if_split H26 (fun hb H28 => ?_) (fun hb H28 => ?_)
     ·subst hb
      refine k_ rfl (k_ rfl (pt tk (eB true) rfl rfl rfl (ma tk (eB true) rfl rfl (wpo_nil ?_))))
      have e := oi H28
      subst e
      exact ⟨(wc (wc (wc (wc (wkf_nil _))))), hH⟩
     ·subst hb
      refine mm tk ((@eU .u8 8) x3) rfl rfl ?_
      refine l_ H28 eB rfl (o_eql_u tk rfl rfl) fun v30 H29 => ?_
      refine pf tk (eB v30) rfl rfl rfl (ma tk (eB v30) rfl rfl (wpo_nil ?_))
      have e := oi H29
      subst e
      exact ⟨(wc (wc (wc (wc (wkf_nil _))))), hH⟩
theorem lines_Lines_Lost_ok {x0 : lines_Lines} {r : Int} (H : lines_Lines_Lost x0 = some r) (σ : St) {p0 p0_l c_p0_l : Nat} {g_p0_l : AV} (h0 : σ.objs[p0]? = some [g_p0_l, (eI x0.lost)]) (h0_l : σ.objs[p0_l]? = some (gK e_lines_parcel c_p0_l x0.l)) (hd : [p0, p0_l].Pairwise fun a b => a ≠ b) (gg_p0_l : GG p0_l 2 c_p0_l (x0.l).length g_p0_l) : ACall Tryd.prog 13 [(.ref p0 0)] σ (fun a τ => a = eI r ∧ τ = σ) := by
 unfold lines_Lines_Lost at H
 refine ACall.pure (acall_start tk Tryd.func13 (by decide) rfl (nb rfl) ?_)
 have hH := Holds.brings (σ := σ) [(p0, [g_p0_l, (eI x0.lost)]), (p0_l, (gK e_lines_parcel c_p0_l x0.l))] (by simp only [List.mem_cons, List.not_mem_nil, or_false]; rintro _ (rfl | rfl) <;> assumption) hd
 refine sr rfl (ma tk (eI (0 : Int)) rfl rfl (wpo_nil (sr rfl (mm tk (.ref p0 0) rfl rfl (mc tk (.ref p0 0) rfl rfl (fun _ => rfl) (mc tk (.ref p0 1) rfl rfl (fun _ => rfl) (wpo_rd (a := (eI x0.lost)) rfl rfl rfl (h_ld tk hH 0 rfl rfl rfl) (ma tk (eI x0.lost) rfl rfl ?_))))))))
 refine wpo_nil (awp_ret ?_)
 obtain rfl := oi H
 exact ⟨_, (eI x0.lost), rfl, wr, .of_eq ((enc_i64 td3 sz3).cut _ _ _), ((hH.noT.unbring h0).unbring h0_l)⟩
theorem lines_Lines_Len_ok {x0 : lines_Lines} {r : Int} (H : lines_Lines_Len x0 = some r) (σ : St) {p0 p0_l c_p0_l : Nat} {g_p0_l : AV} (h0 : σ.objs[p0]? = some [g_p0_l, (eI x0.lost)]) (h0_l : σ.objs[p0_l]? = some (gK e_lines_parcel c_p0_l x0.l)) (hd : [p0, p0_l].Pairwise fun a b => a ≠ b) (gg_p0_l : GG p0_l 2 c_p0_l (x0.l).length g_p0_l) : ACall Tryd.prog 14 [(.ref p0 0)] σ (fun a τ => a = eI r ∧ τ = σ) := by
 unfold lines_Lines_Len at H
 refine ACall.pure (acall_start tk Tryd.func14 (by decide) rfl (nb rfl) ?_)
 have hH := Holds.brings (σ := σ) [(p0, [g_p0_l, (eI x0.lost)]), (p0_l, (gK e_lines_parcel c_p0_l x0.l))] (by simp only [List.mem_cons, List.not_mem_nil, or_false]; rintro _ (rfl | rfl) <;> assumption) hd
 refine sr rfl (ma tk (eI (0 : Int)) rfl rfl (wpo_nil (sr rfl (mm tk (.ref p0 0) rfl rfl (mc tk (.ref p0 0) rfl rfl (fun _ => rfl) (mc tk (.ref p0 0) rfl rfl (fun _ => rfl) (wpo_rd (a := (gC p0_l 2 c_p0_l (x0.l).length)) rfl rfl rfl (OpS.wkr gg_p0_l.wk (h_ld tk hH 0 rfl rfl rfl)) ?_)))))))
 refine l_ H eI rfl (o_glen tk td49 rfl) fun v2 H1 => ?_
 refine ma tk (eI v2) rfl rfl (wpo_nil (awp_ret ?_))
 obtain rfl := oi H1
 exact ⟨_, (eI v2), rfl, wr, .of_eq ((enc_i64 td3 sz3).cut _ _ _), ((hH.noT.unbring h0).unbring h0_l)⟩
theorem L06_Light_ok {x0 : List api_Entry} {r : Int} (H : L06_Light x0 = some r) (σ : St)  : ACall Tryd.prog 15 [((eL 5 e_api_Entry) x0)] σ (fun a τ => a = eI r ∧ τ = σ) := by
 unfold L06_Light at H
 refine ACall.pure (acall_start tk Tryd.func15 (by decide) rfl (nb rfl) ?_)
 have hH := Holds.init σ
 refine sr rfl (ma tk (eI (0 : Int)) rfl rfl (wpo_nil (awp_seq (sr rfl (mm tk ((eL 5 e_api_Entry) x0) rfl rfl ?_)))))
 refine l_ H eI rfl (o_len tk td44 rfl) fun v2 H1 => ?_
 refine l_ H1 eB rfl (o_ar tk rfl rfl rfl) fun v4 H3 => ?_
 refine wpo_nil ?_
 refine awp_if H3 rfl (fun H5 => ?_) (fun H5 => ?_)
 ·refine sr rfl (ma tk (eI (1 : Int)) rfl rfl (wpo_nil (awp_ret ?_)))
  obtain rfl := oi H5
  exact ⟨_, (eI (1 : Int)), rfl, wr, .of_eq ((enc_i64 td3 sz3).cut _ _ _), hH.noT⟩
 ·refine awp_skip (sr rfl (ma tk (eI (0 : Int)) rfl rfl (wpo_nil (awp_seq (sr rfl (ma tk (eI (0 : Int)) rfl rfl (wpo_nil (awp_block ?_))))))))
  obtain ⟨o8, hs9, hj10⟩ := ob H5
  refine awp_cutx 0 (fun fr τ => ∃ s15 : Unit, o8 = .inl s15 ∧ WkF fr (fm []) ∧ Holds σ [] [] τ) ?_ ?_
  ·rintro fr τ ⟨s15, rfl, hfr, hH⟩
   have H54 := hj10
   simp only [Sum.elim_inl] at H54
   refine AWP.fm [] hfr ?_
   refine sr rfl (ma tk (eI (0 : Int)) rfl rfl (wpo_nil (awp_ret ?_)))
   obtain rfl := oi H54
   exact ⟨_, (eI (0 : Int)), rfl, wr, .of_eq ((enc_i64 td3 sz3).cut _ _ _), hH.noT⟩
  ·refine awp_loopO (body := fun s => L06_Light_b0 x0 s.1 s.2) hs9 (fun (s : Int × Int) fr τ => WkF fr (fm [(0, ((eL 5 e_api_Entry) x0)), (3, (eI s.1)), (4, (eI s.2))]) ∧ Holds σ [] [] τ) ⟨(wc (wc (wc (wkf_nil _)))), hH⟩ ?_
   rintro ⟨c6, c7⟩ fr τ y11 ⟨hfr, hH⟩ hb13 hy14
   have H16 : L06_Light_b0 x0 c6 c7 = some y11 := hb13
   unfold L06_Light_b0 at H16
   refine AWP.fm [(0, ((eL 5 e_api_Entry) x0)), (3, (eI c6)), (4, (eI c7))] hfr ?_
   have hH : Holds σ [] [] τ := hH
   refine awp_seq (sr rfl (mm tk (eI c7) rfl rfl (mm tk ((eL 5 e_api_Entry) x0) rfl rfl ?_)))
   refine l_ H16 eI rfl (o_len tk td44 rfl) fun v18 H17 => ?_
   refine l_ H17 eB rfl (o_ar tk rfl rfl rfl) fun v20 H19 => ?_
   refine wpo_nil ?_
   refine awp_if H19 rfl (fun H21 => ?_) (fun H21 => ?_)
   ·refine awp_skip (awp_seq (awp_block (awp_seq (awp_seq ?_))))
    obtain ⟨s22, hs24, hj25⟩ := ob H21
    refine awp_cutn (fun fr τ => WkF fr (fm [(0, ((eL 5 e_api_Entry) x0)), (3, (eI c6)), (4, (eI c7)), (29, (eB s22))]) ∧ Holds σ [] [] τ) ?_ ?_
    ·rintro fr τ ⟨hfr, hH⟩
     have H39 := hj25
     refine AWP.fm [(0, ((eL 5 e_api_Entry) x0)), (3, (eI c6)), (4, (eI c7)), (29, (eB s22))] hfr ?_
     refine awp_if H39 rfl (fun H40 => ?_) (fun H40 => ?_)
     ·refine sr rfl (ma tk (eI (1 : Int)) rfl rfl (wpo_nil (awp_ret ?_)))
      have hz := hy14 _ (inj_inr H40)
      refine ⟨⟨_, inj_inr H40⟩, ?_⟩
      rw [← hz] at hj10
      have H41 := (show some _ = some _ from hj10)
      obtain rfl := oi H41
      exact ⟨_, (eI (1 : Int)), rfl, wr, .of_eq ((enc_i64 td3 sz3).cut _ _ _), hH.noT⟩
     ·refine awp_skip (sr rfl (mm tk (eI c6) rfl rfl (mm tk ((eL 5 e_api_Entry) x0) rfl rfl (mm tk (eI c7) rfl rfl ?_))))
      refine b_ H40 (fun y => .fptr (e_api_Entry y).cells 0) rfl (fun v43 hv => o_ixa tk hv td44 enc33 rfl rfl) fun v43 hv43 H42 => ?_
      refine mc tk (.fptr (c_api_Entry v43) 4) rfl rfl (fun _ => rfl) (m_ ((eL 1 (@eU .u8 8)) v43.Value) rfl (o_ld tk rfl rfl) ?_)
      refine l_ H42 eI rfl (o_len tk td31 rfl) fun v45 H44 => ?_
      refine l_ H44 eI rfl (o_ar tk rfl rfl rfl) fun v47 H46 => ?_
      refine ma tk (eI v47) rfl rfl (wpo_nil (sr rfl (mm tk (eI v47) rfl rfl ?_)))
      refine l_ H46 eB rfl (o_ar tk rfl rfl rfl) fun v49 H48 => ?_
      refine wpo_nil ?_
      refine awp_if H48 rfl (fun H50 => ?_) (fun H50 => ?_)
      ·refine sr rfl (ma tk (eI (1 : Int)) rfl rfl (wpo_nil (awp_ret ?_)))
       have hz := hy14 _ (inj_inr H50)
       refine ⟨⟨_, inj_inr H50⟩, ?_⟩
       rw [← hz] at hj10
       have H51 := (show some _ = some _ from hj10)
       obtain rfl := oi H51
       exact ⟨_, (eI (1 : Int)), rfl, wr, .of_eq ((enc_i64 td3 sz3).cut _ _ _), hH.noT⟩
      ·refine awp_skip (awp_region rfl (mm tk (eI c7) rfl rfl ?_))
       refine l_ H50 eI rfl (o_ar tk rfl rfl rfl) fun v53 H52 => ?_
       refine ma tk (eI v53) rfl rfl (wpo_nil ?_)
       exact ⟨(v47, v53), inj_inl H52, (wc (wc (wc (wkf_nil _)))), hH⟩
    ·refine awp_region rfl (mm tk ((eL 5 e_api_Entry) x0) rfl rfl (mm tk (eI c7) rfl rfl ?_))
     refine b_ hs24 (fun y => .fptr (e_api_Entry y).cells 0) rfl (fun v27 hv => o_ixa tk hv td44 enc33 rfl rfl) fun v27 hv27 H26 => ?_
     refine mc tk (.fptr (c_api_Entry v27) 0) rfl rfl (fun _ => rfl) (m_ (eS v27.Key) rfl (o_ld tk rfl rfl) ?_)
     refine l_ H26 eI rfl (o_len_s tk td9 rfl) fun v29 H28 => ?_
     refine l_ H28 eB rfl (o_ar tk rfl rfl rfl) fun v31 H30 => ?_
     refine mm tk (eB v31) rfl rfl ?_
     refine if_split H30 (fun hb H32 => ?_) (fun hb H32 => ?_)
     ·subst hb
      refine k_ rfl (k_ rfl (k_ rfl (k_ rfl (k_ rfl (k_ rfl (k_ rfl (pt tk (eB true) rfl rfl rfl (wpo_nil ?_))))))))
      have e := oi H32
      subst e
      exact ⟨(wc (wc (wc (wc (wkf_nil _))))), hH⟩
     ·subst hb
      refine mm tk ((eL 5 e_api_Entry) x0) rfl rfl (mm tk (eI c7) rfl rfl ?_)
      refine b_ H32 (fun y => .fptr (e_api_Entry y).cells 0) rfl (fun v34 hv => o_ixa tk hv td44 enc33 rfl rfl) fun v34 hv34 H33 => ?_
      refine mc tk (.fptr (c_api_Entry v34) 4) rfl rfl (fun _ => rfl) (m_ ((eL 1 (@eU .u8 8)) v34.Value) rfl (o_ld tk rfl rfl) ?_)
      refine l_ H33 eI rfl (o_len tk td31 rfl) fun v36 H35 => ?_
      refine l_ H35 eB rfl (o_ar tk rfl rfl rfl) fun v38 H37 => ?_
      refine pf tk (eB v38) rfl rfl rfl (wpo_nil ?_)
      have e := oi H37
      subst e
      exact ⟨(wc (wc (wc (wc (wkf_nil _))))), hH⟩
   ·refine awp_exit ?_
    have hz := hy14 _ (inj_inr H21)
    exact ⟨⟨_, inj_inr H21⟩, (), hz.symm, (wkf_nil _), hH⟩
theorem L26_light_ok {x0 : List L26_Op} {r : Bool} (H : L26_light x0 = some r) (σ : St)  : ACall Tryd.prog 4 [((eL 5 e_L26_Op) x0)] σ (fun a τ => a = eB r ∧ τ = σ) := by
 unfold L26_light at H
 refine ACall.pure (acall_start tk Tryd.func4 (by decide) rfl (nb rfl) ?_)
 have hH := Holds.init σ
 refine sr rfl (ma tk (eB false) rfl rfl (wpo_nil (awp_seq (sr rfl (mm tk ((eL 5 e_L26_Op) x0) rfl rfl ?_)))))
 refine l_ H eI rfl (o_len tk td22 rfl) fun v2 H1 => ?_
 refine l_ H1 eB rfl (o_ar tk rfl rfl rfl) fun v4 H3 => ?_
 refine wpo_nil ?_
 refine awp_if H3 rfl (fun H5 => ?_) (fun H5 => ?_)
 ·refine sr rfl (ma tk (eB false) rfl rfl (wpo_nil (awp_ret ?_)))
  obtain rfl := oi H5
  exact ⟨_, (eB false), rfl, wr, .of_eq ((enc_b td4 sz4).cut _ _ _), hH.noT⟩
 ·refine awp_skip (sr rfl (ma tk (eI (0 : Int)) rfl rfl (wpo_nil (awp_seq (sr rfl (ma tk (eI (0 : Int)) rfl rfl (wpo_nil (awp_block ?_))))))))
  obtain ⟨o8, hs9, hj10⟩ := ob H5
  refine awp_cutx 0 (fun fr τ => ∃ s15 : Unit, o8 = .inl s15 ∧ WkF fr (fm []) ∧ Holds σ [] [] τ) ?_ ?_
  ·rintro fr τ ⟨s15, rfl, hfr, hH⟩
   have H92 := hj10
   simp only [Sum.elim_inl] at H92
   refine AWP.fm [] hfr ?_
   refine sr rfl (ma tk (eB true) rfl rfl (wpo_nil (awp_ret ?_)))
   obtain rfl := oi H92
   exact ⟨_, (eB true), rfl, wr, .of_eq ((enc_b td4 sz4).cut _ _ _), hH.noT⟩
  ·refine awp_loopO (body := fun s => L26_light_b0 x0 s.1 s.2) hs9 (fun (s : Int × Int) fr τ => WkF fr (fm [(0, ((eL 5 e_L26_Op) x0)), (3, (eI s.1)), (4, (eI s.2))]) ∧ Holds σ [] [] τ) ⟨(wc (wc (wc (wkf_nil _)))), hH⟩ ?_
   rintro ⟨c6, c7⟩ fr τ y11 ⟨hfr, hH⟩ hb13 hy14
   have H16 : L26_light_b0 x0 c6 c7 = some y11 := hb13
   unfold L26_light_b0 at H16
   refine AWP.fm [(0, ((eL 5 e_L26_Op) x0)), (3, (eI c6)), (4, (eI c7))] hfr ?_
   have hH : Holds σ [] [] τ := hH
   refine awp_seq (sr rfl (mm tk (eI c7) rfl rfl (mm tk ((eL 5 e_L26_Op) x0) rfl rfl ?_)))
   refine l_ H16 eI rfl (o_len tk td22 rfl) fun v18 H17 => ?_
   refine l_ H17 eB rfl (o_ar tk rfl rfl rfl) fun v20 H19 => ?_
   refine wpo_nil ?_
   refine awp_if H19 rfl (fun H21 => ?_) (fun H21 => ?_)
   ·refine awp_skip (awp_seq (awp_block (sr rfl (mm tk (eI c6) rfl rfl (mm tk ((eL 5 e_L26_Op) x0) rfl rfl (mm tk (eI c7) rfl rfl ?_))))))
    refine b_ H21 (fun y => .fptr (e_L26_Op y).cells 0) rfl (fun v23 hv => o_ixa tk hv td22 enc29 rfl rfl) fun v23 hv23 H22 => ?_
    refine mc tk (.fptr (c_L26_Op v23) 1) rfl rfl (fun _ => rfl) (m_ ((eL 11 e_api_Msg) v23.L) rfl (o_ld tk rfl rfl) ?_)
    refine l_ H22 eI rfl (o_len tk td27 rfl) fun v25 H24 => ?_
    refine l_ H24 eI rfl (o_ar tk rfl rfl rfl) fun v27 H26 => ?_
    refine ma tk (eI v27) rfl rfl (wpo_nil (awp_seq (sr rfl (mm tk (eI v27) rfl rfl ?_))))
    refine l_ H26 eB rfl (o_ar tk rfl rfl rfl) fun v29 H28 => ?_
    refine wpo_nil ?_
    refine awp_if H28 rfl (fun H30 => ?_) (fun H30 => ?_)
    ·refine sr rfl (ma tk (eB false) rfl rfl (wpo_nil (awp_ret ?_)))
     have hz := hy14 _ (inj_inr H30)
     refine ⟨⟨_, inj_inr H30⟩, ?_⟩
     rw [← hz] at hj10
     have H31 := (show some _ = some _ from hj10)
     obtain rfl := oi H31
     exact ⟨_, (eB false), rfl, wr, .of_eq ((enc_b td4 sz4).cut _ _ _), hH.noT⟩
    ·refine awp_skip (sr rfl (ma tk AV.nils rfl rfl (wpo_nil (awp_seq (sr rfl (ma tk (eI (0 : Int)) rfl rfl (wpo_nil (awp_block ?_))))))))
     refine AWP.tokN hH 5 5 rfl fun tk34 τ hH => ?_
     obtain ⟨s42, hs36, hj37⟩ := ob H30
     refine awp_cutx 2 (fun fr τ => ∃ tk_5, WkF fr (fm [(0, ((eL 5 e_L26_Op) x0)), (3, (eI v27)), (4, (eI c7)), (5, (eT tk_5 5 e_api_Entry s42))]) ∧ Holds σ [] [tk_5] τ) ?_ ?_
     ·rintro fr τ ⟨tk_5, hfr, hH⟩
      have H71 := hj37
      refine AWP.fm [(0, ((eL 5 e_L26_Op) x0)), (3, (eI v27)), (4, (eI c7)), (5, (eT tk_5 5 e_api_Entry s42))] hfr ?_
      refine awp_seq ?_
      obtain ⟨s72, hs74, hj75⟩ := ob H71
      refine awp_cutn (fun fr τ => WkF fr (fm [(0, ((eL 5 e_L26_Op) x0)), (3, (eI v27)), (4, (eI c7)), (63, (eB s72))]) ∧ Holds σ [] [] τ) ?_ ?_
      ·rintro fr τ ⟨hfr, hH⟩
       have H87 := hj75
       refine AWP.fm [(0, ((eL 5 e_L26_Op) x0)), (3, (eI v27)), (4, (eI c7)), (63, (eB s72))] hfr ?_
       refine awp_if H87 rfl (fun H88 => ?_) (fun H88 => ?_)
       ·refine sr rfl (ma tk (eB false) rfl rfl (wpo_nil (awp_ret ?_)))
        have hz := hy14 _ (inj_inr H88)
        refine ⟨⟨_, inj_inr H88⟩, ?_⟩
        rw [← hz] at hj10
        have H89 := (show some _ = some _ from hj10)
        obtain rfl := oi H89
        exact ⟨_, (eB false), rfl, wr, .of_eq ((enc_b td4 sz4).cut _ _ _), hH.noT⟩
       ·refine awp_skip (awp_region rfl (mm tk (eI c7) rfl rfl ?_))
        refine l_ H88 eI rfl (o_ar tk rfl rfl rfl) fun v91 H90 => ?_
        refine ma tk (eI v91) rfl rfl (wpo_nil ?_)
        exact ⟨(v27, v91), inj_inl H90, (wc (wc (wc (wkf_nil _)))), hH⟩
      ·refine awp_region rfl (mm tk ((eL 5 e_L26_Op) x0) rfl rfl (mm tk (eI c7) rfl rfl ?_))
       refine b_ hs74 (fun y => .fptr (e_L26_Op y).cells 0) rfl (fun v77 hv => o_ixa tk hv td22 enc29 rfl rfl) fun v77 hv77 H76 => ?_
       refine mc tk (.fptr (c_L26_Op v77) 1) rfl rfl (fun _ => rfl) (m_ ((eL 11 e_api_Msg) v77.L) rfl (o_ld tk rfl rfl) ?_)
       refine l_ H76 eI rfl (o_len tk td27 rfl) fun v79 H78 => ?_
       refine l_ H78 eB rfl (o_ar tk rfl rfl rfl) fun v81 H80 => ?_
       refine mm tk (eB v81) rfl rfl ?_
       refine if_split H80 (fun hb H82 => ?_) (fun hb H82 => ?_)
       ·subst hb
        refine k_ rfl (k_ rfl (k_ rfl (pt tk (eB true) rfl rfl rfl (wpo_nil ?_))))
        have e := oi H82
        subst e
        exact ⟨(wc (wc (wc (wc (wkf_nil _))))), hH.noT⟩
       ·subst hb
        refine mm tk (eT tk_5 5 e_api_Entry s42) rfl rfl ?_
        refine b_ H82 eI rfl (fun v84 hv => OpP.of_call rfl rfl (.cons wk_no .nil) (L06_Light_ok hv)) fun v84 hv84 H83 => ?_
        refine l_ H83 eB rfl (o_ar tk rfl rfl rfl) fun v86 H85 => ?_
        refine pf tk (eB v86) rfl rfl rfl (wpo_nil ?_)
        have e := oi H85
        subst e
        exact ⟨(wc (wc (wc (wc (wkf_nil _))))), hH.noT⟩
     ·refine awp_loopO (body := fun s => L26_light_b1 x0 c7 v27 s.1 s.2) hs36 (fun (s : (List api_Entry) × Int) fr τ => ∃ tk_5, WkF fr (fm [(0, ((eL 5 e_L26_Op) x0)), (3, (eI v27)), (4, (eI c7)), (5, (eT tk_5 5 e_api_Entry s.1)), (6, (eI s.2))]) ∧ Holds σ [] [tk_5] τ) ⟨tk34, (wc (wc (wc (wc (wc (wkf_nil _)))))), hH⟩ ?_
      rintro ⟨c32, c33⟩ fr τ y38 ⟨tk_5, hfr, hH⟩ hb40 hy41
      have H43 : L26_light_b1 x0 c7 v27 c32 c33 = some y38 := hb40
      unfold L26_light_b1 at H43
      refine AWP.fm [(0, ((eL 5 e_L26_Op) x0)), (3, (eI v27)), (4, (eI c7)), (5, (eT tk_5 5 e_api_Entry c32)), (6, (eI c33))] hfr ?_
      have hH : Holds σ [] [tk_5] τ := hH
      refine awp_seq (awp_seq ?_)
      obtain ⟨s44, hs46, hj47⟩ := ob H43
      refine awp_cutn (fun fr τ => ∃ tk_5, WkF fr (fm [(0, ((eL 5 e_L26_Op) x0)), (3, (eI v27)), (4, (eI c7)), (5, (eT tk_5 5 e_api_Entry c32)), (6, (eI c33)), (37, (eB s44))]) ∧ Holds σ [] [tk_5] τ) ?_ ?_
      ·rintro fr τ ⟨tk_5, hfr, hH⟩
       have H57 := hj47
       refine AWP.fm [(0, ((eL 5 e_L26_Op) x0)), (3, (eI v27)), (4, (eI c7)), (5, (eT tk_5 5 e_api_Entry c32)), (6, (eI c33)), (37, (eB s44))] hfr ?_
       refine awp_if H57 rfl (fun H58 => ?_) (fun H58 => ?_)
       ·refine awp_skip (awp_seq (awp_block (awp_region rfl (mm tk (eT tk_5 5 e_api_Entry c32) rfl rfl (mm tk ((eL 5 e_L26_Op) x0) rfl rfl (mm tk (eI c7) rfl rfl ?_))))))
        refine b_ H58 (fun y => .fptr (e_L26_Op y).cells 0) rfl (fun v60 hv => o_ixa tk hv td22 enc29 rfl rfl) fun v60 hv60 H59 => ?_
        refine mc tk (.fptr (c_L26_Op v60) 1) rfl rfl (fun _ => rfl) (m_ ((eL 11 e_api_Msg) v60.L) rfl (o_ld tk rfl rfl) (mm tk (eI c33) rfl rfl ?_))
        refine b_ H59 (fun y => .fptr (e_api_Msg y).cells 0) rfl (fun v62 hv => o_ixa tk hv td27 enc35 rfl rfl) fun v62 hv62 H61 => ?_
        refine mc tk (.fptr (c_api_Msg v62) 5) rfl rfl (fun _ => rfl) (m_ (e_api_Entry v62.X) rfl (o_ld tk rfl rfl) ?_)
        refine l_ H61 (eF 5 e_api_Entry) rfl (o_c tk false rfl (fun _ => rfl)) fun v64 H63 => ?_
        obtain ⟨v66, hv67, H65⟩ := ob H63
        refine wpo_a (av := fun t => eT t 5 e_api_Entry v66) rfl rfl rfl (h_app tk hH 0 hv67 rfl td44 ty33 rfl (by decide) rfl (src_l td44 rfl)) fun tk68 τ hH => ?_
        refine ma tk (eT tk68 5 e_api_Entry v66) rfl rfl (wpo_nil (awp_region rfl (mm tk (eI c33) rfl rfl ?_)))
        refine l_ H65 eI rfl (o_ar tk rfl rfl rfl) fun v70 H69 => ?_
        refine ma tk (eI v70) rfl rfl (wpo_nil ?_)
        exact ⟨(v66, v70), inj_inl H69, tk68, (wc (wc (wc (wc (wc (wkf_nil _)))))), hH⟩
       ·refine awp_exit ?_
        have hz := hy41 _ (inj_inr H58)
        subst hz
        exact ⟨⟨_, inj_inr H58⟩, tk_5, (wc (wc (wc (wc (wkf_nil _))))), hH⟩
      ·refine awp_region rfl (mm tk (eI c33) rfl rfl (mm tk ((eL 5 e_L26_Op) x0) rfl rfl (mm tk (eI c7) rfl rfl ?_)))
       refine b_ hs46 (fun y => .fptr (e_L26_Op y).cells 0) rfl (fun v49 hv => o_ixa tk hv td22 enc29 rfl rfl) fun v49 hv49 H48 => ?_
       refine mc tk (.fptr (c_L26_Op v49) 1) rfl rfl (fun _ => rfl) (m_ ((eL 11 e_api_Msg) v49.L) rfl (o_ld tk rfl rfl) ?_)
       refine l_ H48 eI rfl (o_len tk td27 rfl) fun v51 H50 => ?_
       refine l_ H50 eB rfl (o_ar tk rfl rfl rfl) fun v53 H52 => ?_
       refine mm tk (eB v53) rfl rfl ?_
       refine if_split H52 (fun hb H54 => ?_) (fun hb H54 => ?_)
       ·subst hb
        refine mm tk (eI c33) rfl rfl ?_
        refine l_ H54 eB rfl (o_ar tk rfl rfl rfl) fun v56 H55 => ?_
        refine pt tk (eB v56) rfl rfl rfl (wpo_nil ?_)
        have e := oi H55
        subst e
        exact ⟨tk_5, (wc (wc (wc (wc (wc (wc (wkf_nil _))))))), hH⟩
       ·subst hb
        refine k_ rfl (k_ rfl (pf tk (eB false) rfl rfl rfl (wpo_nil ?_)))
        have e := oi H54
        subst e
        exact ⟨tk_5, (wc (wc (wc (wc (wc (wc (wkf_nil _))))))), hH⟩
   ·refine awp_exit ?_
    have hz := hy14 _ (inj_inr H21)
    exact ⟨⟨_, inj_inr H21⟩, (), hz.symm, (wkf_nil _), hH⟩
theorem trouble_Of_ok {x0 : Err} {r : Int} (H : trouble_Of x0 = some r) (σ : St) (hg : σ.gl = gls) : ACall Tryd.prog 16 [eErr x0] σ (fun a τ => a = eI r ∧ τ = σ) := by
 obtain rfl := oi H
 refine ACall.pure (acall_start tk Tryd.func16 (by decide) rfl (nb rfl) ?_)
 have hH := Holds.init σ
 refine sr rfl (ma tk (eI (0 : Int)) rfl rfl (wpo_nil (awp_seq (awp_block ?_))))
 have hs := trouble_Of_l0 x0
 refine awp_cutx 0 (fun fr τ => codeOf x0 = 0 ∧ WkF fr (fm []) ∧ Holds σ [] [] τ) ?_ ?_
 ·rintro fr τ ⟨h0, hfr, hH⟩
  refine AWP.fm [] hfr ?_
  refine sr rfl (ma tk (eI 0) rfl rfl (wpo_nil (awp_ret ?_)))
  rw [h0]
  exact ⟨_, (eI 0), rfl, wr, .of_eq rfl, hH.noT⟩
 ·refine awp_loopO (body := trouble_Of_b0) hs (fun (s : Err) fr τ => WkF fr (fm [(0, eErr s)]) ∧ Holds σ [] [] τ) ⟨(wc (wkf_nil _)), hH⟩ ?_
  rintro c1 fr τ y ⟨hfr, hH⟩ hb hy
  refine AWP.fm [(0, eErr c1)] hfr ?_
  cases c1 with
  | nil =>
   refine awp_seq (sr rfl (mm tk (eErr .nil) rfl rfl (m_ (eB false) rfl (o_err_neq (x := .nil) tk rfl rfl rfl) (wpo_nil ?_))))
   refine awp_false rfl ?_
   refine awp_exit ?_
   have hb : some (Sum.inr (Sum.inl ())) = some y := hb
   have hz := hy _ (oi hb).symm
   refine ⟨⟨_, (oi hb).symm⟩, ?_, (wkf_nil _), hH⟩
   split at hz
   ·assumption
   ·cases hz
  | fault o a c u =>
   refine awp_seq (sr rfl (mm tk (eErr (.fault o a c u)) rfl rfl (m_ (eB true) rfl (o_err_neq (x := .fault o a c u) tk rfl rfl rfl) (wpo_nil ?_))))
   refine awp_true rfl ?_
   refine awp_skip (awp_block (sr rfl ?_))
   refine wpo_a (av := fun id => .ref id 0) rfl rfl rfl (h_alloc tk hH ty64 [.nilp] rfl) fun id τ ⟨hH, hn⟩ => ?_
   refine wpo_nil (awp_seq (sr rfl (mm tk (eErr (.fault o a c u)) rfl rfl (mc tk (.iface 66 (.ref id 0)) rfl rfl (fun _ => rfl) ?_))))
   refine wpo_cb (α := Unit) (z := some ()) (k := fun _ => some ()) (r := ()) rfl (fun _ _ => eB true) rfl rfl rfl (fun v hv => h_call1 hH [(0, (id, [(Err.fault o a c u).ptr]))] ⟨⟨_, rfl⟩, trivial⟩ rfl rfl (.cons wr (.cons wr .nil)) (as_ok (x := .fault o a c u) rfl (hH.at_ 0 rfl) (hH.gl.trans hg))) fun _ _ τ _ _ hH => ?_
   refine m_ (eB false) rfl (o_un tk rfl rfl) (wpo_nil ?_)
   refine awp_false rfl ?_
   refine awp_skip (awp_seq (sr rfl (wpo_rd (a := (Err.fault o a c u).ptr) rfl rfl rfl (h_ld tk hH 0 rfl rfl rfl) (mc tk ((Err.fault o a c u).ptr) rfl rfl (fun _ => rfl) (mc tk (.fptr [eS o, eI a, eI c, eErr u] 2) rfl rfl (fun _ => rfl) (m_ (eI c) rfl (o_ld tk rfl rfl) (m_ (eB (c != 0)) rfl (o_ar tk rfl rfl rfl) (wpo_nil ?_))))))))
   have hb : (if (c != 0) = true then some (.inr (.inr c)) else some (.inl u)) = some y := hb
   refine awp_if hb rfl (fun hb => ?_) (fun hb => ?_)
   ·refine sr rfl (wpo_rd (a := (Err.fault o a c u).ptr) rfl rfl rfl (h_ld tk hH 0 rfl rfl rfl) (mc tk ((Err.fault o a c u).ptr) rfl rfl (fun _ => rfl) (mc tk (.fptr [eS o, eI a, eI c, eErr u] 2) rfl rfl (fun _ => rfl) (m_ (eI c) rfl (o_ld tk rfl rfl) (ma tk (eI c) rfl rfl (wpo_nil (awp_ret ?_)))))))
    have hz := hy _ (oi hb).symm
    refine ⟨⟨_, (oi hb).symm⟩, ?_⟩
    have hc : codeOf x0 = c := by
     split at hz
     ·cases hz
     ·exact Sum.inr.inj hz.symm
    rw [hc]
    exact ⟨_, (eI c), rfl, wr, .of_eq rfl, (hH.noT.drop hn)⟩
   ·refine awp_skip (awp_region rfl (wpo_rd (a := (Err.fault o a c u).ptr) rfl rfl rfl (h_ld tk hH 0 rfl rfl rfl) (mc tk ((Err.fault o a c u).ptr) rfl rfl (fun _ => rfl) (mc tk (.fptr [eS o, eI a, eI c, eErr u] 3) rfl rfl (fun _ => rfl) (m_ (eErr u) rfl (o_ld tk rfl (by cases u <;> rfl)) (ma tk (eErr u) rfl rfl (wpo_nil ?_)))))))
    exact ⟨u, (oi hb).symm, (wc (wkf_nil _)), hH.drop hn⟩
theorem trouble_Wrap_ok {x0 : List (BitVec 8)} {x1 : Int} {x2 : Err} {r : Err} (H : trouble_Wrap x0 x1 x2 = some r) (σ : St)  : ACall Tryd.prog 21 [(eS x0), (eI x1), (eErr x2)] σ (fun a τ => a = eErr r ∧ τ = σ) := by
 unfold trouble_Wrap at H
 refine ACall.pure (acall_start tk Tryd.func21 (by decide) rfl (nb rfl) ?_)
 have hH := Holds.init σ
 refine sr rfl (ma tk (eErr Err.nil) rfl rfl (wpo_nil (awp_seq (sr rfl (mm tk (eErr x2) rfl rfl ?_)))))
 refine l_ H eB rfl (o_err_eql tk rfl rfl rfl) fun v2 H1 => ?_
 refine wpo_nil ?_
 refine awp_if H1 rfl (fun H3 => ?_) (fun H3 => ?_)
 ·refine sr rfl (ma tk (eErr Err.nil) rfl rfl (wpo_nil (awp_ret ?_)))
  obtain rfl := oi H3
  exact ⟨_, (eErr Err.nil), rfl, wr, .of_eq (encErr.cut _ _ _), hH.noT⟩
 ·refine awp_skip (sr rfl (mm tk (eS x0) rfl rfl (mm tk (eI x1) rfl rfl (mm tk (eErr x2) rfl rfl ?_))))
  refine l_ H3 e_trouble_fault rfl (o_c tk false rfl (fun _ => by generalize x2 = z0; cases z0 <;> rfl)) fun v5 H4 => ?_
  refine m_ (.fptr (c_trouble_fault v5) 0) rfl (o_boxf tk rfl wr (b := (e_trouble_fault v5)) (enc68.flat _)) (mc tk (eErr (Err.fault v5.op v5.at_ v5.code v5.under)) rfl rfl (fun _ => rfl) (ma tk (eErr (Err.fault v5.op v5.at_ v5.code v5.under)) rfl rfl (wpo_nil (awp_ret ?_))))
  obtain rfl := oi H4
  exact ⟨_, (eErr (Err.fault v5.op v5.at_ v5.code v5.under)), rfl, wr, .of_eq (encErr.cut _ _ _), hH.noT⟩
theorem wire_parts_ok {x0 : Int} {r : (List (BitVec 8))} (H : wire_parts x0 = some r) (σ : St)  : ACall Tryd.prog 30 [(eI x0)] σ (fun a τ => a = eS r ∧ τ = σ) := by
 unfold wire_parts at H
 refine ACall.pure (acall_start tk Tryd.func30 (by decide) rfl (nb rfl) ?_)
 have hH := Holds.init σ
 refine sr rfl (ma tk (eS ([] : List (BitVec 8))) rfl rfl (wpo_nil (awp_seq (sr rfl (mm tk (eI x0) rfl rfl (wpo_nil (awp_block (sr rfl ?_))))))))
 refine l_ H eB rfl (o_ar tk rfl rfl rfl) fun v2 H1 => ?_
 refine ma tk (eB v2) rfl rfl (wpo_nil ?_)
 refine awp_if H1 rfl (fun H3 => ?_) (fun H3 => ?_)
 ·refine sr rfl (ma tk (eS ([65#8, 70#8] : List (BitVec 8))) rfl rfl (wpo_nil (awp_ret ?_)))
  obtain rfl := oi H3
  exact ⟨_, (eS ([65#8, 70#8] : List (BitVec 8))), rfl, wr, .of_eq ((enc_s td9 sz9).cut _ _ _), hH.noT⟩
 ·refine awp_seq (sr rfl ?_)
  refine l_ H3 eB rfl (o_ar tk rfl rfl rfl) fun v5 H4 => ?_
  refine ma tk (eB v5) rfl rfl (wpo_nil ?_)
  obtain ⟨s6, hs8, hj9⟩ := ob H4
  refine awp_cutn (fun fr τ => WkF fr (fm [(3, (eI x0)), (6, (eB s6))]) ∧ Holds σ [] [] τ) ?_ ?_
  ·rintro fr τ ⟨hfr, hH⟩
   have H13 := hj9
   refine AWP.fm [(3, (eI x0)), (6, (eB s6))] hfr ?_
   refine awp_if H13 rfl (fun H14 => ?_) (fun H14 => ?_)
   ·refine sr rfl (ma tk (eS ([75#8, 65#8] : List (BitVec 8))) rfl rfl (wpo_nil (awp_ret ?_)))
    obtain rfl := oi H14
    exact ⟨_, (eS ([75#8, 65#8] : List (BitVec 8))), rfl, wr, .of_eq ((enc_s td9 sz9).cut _ _ _), hH.noT⟩
   ·refine sr rfl ?_
    refine l_ H14 eB rfl (o_ar tk rfl rfl rfl) fun v16 H15 => ?_
    refine ma tk (eB v16) rfl rfl (wpo_nil ?_)
    refine awp_if H15 rfl (fun H17 => ?_) (fun H17 => ?_)
    ·refine sr rfl (ma tk (eS ([73#8, 75#8] : List (BitVec 8))) rfl rfl (wpo_nil (awp_ret ?_)))
     obtain rfl := oi H17
     exact ⟨_, (eS ([73#8, 75#8] : List (BitVec 8))), rfl, wr, .of_eq ((enc_s td9 sz9).cut _ _ _), hH.noT⟩
    ·refine sr rfl ?_
     refine l_ H17 eB rfl (o_ar tk rfl rfl rfl) fun v19 H18 => ?_
     refine ma tk (eB v19) rfl rfl (wpo_nil ?_)
     refine awp_if H18 rfl (fun H20 => ?_) (fun H20 => ?_)
     ·refine sr rfl (ma tk (eS ([73#8, 75#8, 65#8, 70#8, 86#8] : List (BitVec 8))) rfl rfl (wpo_nil (awp_ret ?_)))
      obtain rfl := oi H20
      exact ⟨_, (eS ([73#8, 75#8, 65#8, 70#8, 86#8] : List (BitVec 8))), rfl, wr, .of_eq ((enc_s td9 sz9).cut _ _ _), hH.noT⟩
     ·refine awp_skip (sr rfl (ma tk (eS ([] : List (BitVec 8))) rfl rfl (wpo_nil (awp_ret ?_))))
      obtain rfl := oi H20
      exact ⟨_, (eS ([] : List (BitVec 8))), rfl, wr, .of_eq ((enc_s td9 sz9).cut _ _ _), hH.noT⟩
  ·refine awp_if hs8 rfl (fun H10 => ?_) (fun H10 => ?_)
   ·refine awp_skip ?_
    have e := oi H10
    subst e
    exact ⟨(wc (wc (wkf_nil _))), hH⟩
   ·refine awp_region rfl ?_
    refine l_ H10 eB rfl (o_ar tk rfl rfl rfl) fun v12 H11 => ?_
    refine ma tk (eB v12) rfl rfl (wpo_nil ?_)
    have e := oi H11
    subst e
    exact ⟨(wc (wc (wkf_nil _))), hH⟩
theorem wire_down_ok {x0 : Int} {r : Bool} (H : wire_down x0 = some r) (σ : St)  : ACall Tryd.prog 40 [(eI x0)] σ (fun a τ => a = eB r ∧ τ = σ) := by
 unfold wire_down at H
 refine ACall.pure (acall_start tk Tryd.func40 (by decide) rfl (nb rfl) ?_)
 have hH := Holds.init σ
 refine sr rfl (ma tk (eB false) rfl rfl (wpo_nil (sr rfl (mm tk (eI x0) rfl rfl ?_))))
 refine l_ H eB rfl (o_ar tk rfl rfl rfl) fun v2 H1 => ?_
 refine mm tk (eB v2) rfl rfl ?_
 refine if_split H1 (fun hb H3 => ?_) (fun hb H3 => ?_)
 ·subst hb
  refine k_ rfl (k_ rfl (pt tk (eB true) rfl rfl rfl (mm tk (eB true) rfl rfl (k_ rfl (k_ rfl (pt tk (eB true) rfl rfl rfl (ma tk (eB true) rfl rfl (wpo_nil ?_))))))))
  refine awp_ret ?_
  obtain rfl := oi H3
  exact ⟨_, (eB true), rfl, wr, .of_eq ((enc_b td4 sz4).cut _ _ _), hH.noT⟩
 ·subst hb
  refine mm tk (eI x0) rfl rfl ?_
  refine l_ H3 eB rfl (o_ar tk rfl rfl rfl) fun v5 H4 => ?_
  refine pf tk (eB v5) rfl rfl rfl (mm tk (eB v5) rfl rfl ?_)
  refine if_split H4 (fun hb H6 => ?_) (fun hb H6 => ?_)
  ·subst hb
   refine k_ rfl (k_ rfl (pt tk (eB true) rfl rfl rfl (ma tk (eB true) rfl rfl (wpo_nil (awp_ret ?_)))))
   obtain rfl := oi H6
   exact ⟨_, (eB true), rfl, wr, .of_eq ((enc_b td4 sz4).cut _ _ _), hH.noT⟩
  ·subst hb
   refine mm tk (eI x0) rfl rfl ?_
   refine l_ H6 eB rfl (o_ar tk rfl rfl rfl) fun v8 H7 => ?_
   refine pf tk (eB v8) rfl rfl rfl (ma tk (eB v8) rfl rfl (wpo_nil (awp_ret ?_)))
   obtain rfl := oi H7
   exact ⟨_, (eB v8), rfl, wr, .of_eq ((enc_b td4 sz4).cut _ _ _), hH.noT⟩
theorem octets_Key_ok {x0 : List (BitVec 8)} {r : Int} (H : octets_Key x0 = some r) (σ : St)  : ACall Tryd.prog 41 [(eS x0)] σ (fun a τ => a = eI r ∧ τ = σ) := by
 unfold octets_Key at H
 refine ACall.pure (acall_start tk Tryd.func41 (by decide) rfl (nb rfl) ?_)
 have hH := Holds.init σ
 refine sr rfl (ma tk (eI (0 : Int)) rfl rfl (wpo_nil (awp_seq (sr rfl (mm tk (eS x0) rfl rfl ?_)))))
 refine l_ H eI rfl (o_len_s tk td9 rfl) fun v2 H1 => ?_
 refine ma tk (eI v2) rfl rfl (wpo_nil (awp_block (sr rfl (mm tk (eI v2) rfl rfl ?_))))
 refine l_ H1 eB rfl (o_ar tk rfl rfl rfl) fun v4 H3 => ?_
 refine ma tk (eB v4) rfl rfl (wpo_nil ?_)
 refine awp_if H3 rfl (fun H5 => ?_) (fun H5 => ?_)
 ·refine sr rfl (ma tk (eI (1 : Int)) rfl rfl (wpo_nil (awp_ret ?_)))
  obtain rfl := oi H5
  exact ⟨_, (eI (1 : Int)), rfl, wr, .of_eq ((enc_i64 td46 sz46).cut _ _ _), hH.noT⟩
 ·refine sr rfl (mm tk (eI v2) rfl rfl ?_)
  refine l_ H5 eB rfl (o_ar tk rfl rfl rfl) fun v7 H6 => ?_
  refine ma tk (eB v7) rfl rfl (wpo_nil ?_)
  refine awp_if H6 rfl (fun H8 => ?_) (fun H8 => ?_)
  ·refine sr rfl (ma tk (eI (3 : Int)) rfl rfl (wpo_nil (awp_ret ?_)))
   obtain rfl := oi H8
   exact ⟨_, (eI (3 : Int)), rfl, wr, .of_eq ((enc_i64 td46 sz46).cut _ _ _), hH.noT⟩
  ·refine awp_skip (sr rfl (ma tk (eI (0 : Int)) rfl rfl (wpo_nil (awp_ret ?_))))
   obtain rfl := oi H8
   exact ⟨_, (eI (0 : Int)), rfl, wr, .of_eq ((enc_i64 td46 sz46).cut _ _ _), hH.noT⟩
theorem item_Check_1_c_ok {x0 : List (BitVec 8)} {x1 : Int} {x2 : Int} {x3 : Err} {r : Err} (H : item_Check_1_c x0 x1 x2 x3 = some r) (σ : St) {p3 : Nat} (h3 : σ.objs[p3]? = some [eErr x3]) : ACall Tryd.prog 57 [(eS x0), (eI x1), (eI x2), (.ref p3 0)] σ (fun a τ => a = .tup [] ∧ τ = σ.puts [(p3, [eErr r])]) := by
 unfold item_Check_1_c at H
 refine ACall.out [(p3, [eErr r])] (by simp only [List.mem_cons, List.not_mem_nil, or_false]; rintro _ (rfl) ρ κ <;> exact (by simp only [cutL, encErr.cut ρ κ])) (acall_start tk Tryd.func57 (by decide) rfl (nb rfl) ?_)
 have hH := Holds.init σ
 have hH := hH.bring h3 (fun _ h => by cases h)
 refine awp_seq ?_
 obtain ⟨s1, hs3, hj4⟩ := ob H
 refine awp_cutn (fun fr τ => WkF fr (fm [(0, (eS x0)), (1, (eI x1)), (3, (.ref p3 0)), (17, (eB s1))]) ∧ Holds σ [(p3, [eErr x3])] [] τ) ?_ ?_
 ·rintro fr τ ⟨hfr, hH⟩
  have H13 := hj4
  refine AWP.fm [(0, (eS x0)), (1, (eI x1)), (3, (.ref p3 0)), (17, (eB s1))] hfr ?_
  refine awp_if H13 rfl (fun H14 => ?_) (fun H14 => ?_)
  ·refine awp_region rfl (mm tk (eS x0) rfl rfl (mm tk (eI x1) rfl rfl ?_))
   refine b_ H14 eErr rfl (fun v16 hv => OpP.of_call rfl rfl (.cons wr (.cons wr (.cons wr .nil))) (trouble_New_ok hv)) fun v16 hv16 H15 => ?_
   obtain ⟨c18, hc19, H17⟩ := lt_ex H15
   refine wpo_z rfl rfl (h_st tk hH 0 rfl ty37 (by simp) rfl rfl wr (b := (eErr v16)) (encErr.flat _) (by rw [show (eErr _).cells = [eErr _] from encErr.one rfl _]; rfl) (nb rfl) [eErr c18] (by rw [← hc19, show (eErr _).cells = [eErr _] from encErr.one rfl _]; rfl) (hsp := nsp_err _)) fun τ hH => ?_
   refine wpo_nil ?_
   obtain rfl := oi H17
   exact ⟨_, (.tup []), rfl, wr, .of_eq rfl, hH.noT⟩
  ·refine awp_skip ?_
   obtain rfl := oi H14
   exact ⟨_, (.tup []), rfl, wr, .of_eq rfl, hH.noT⟩
 ·refine awp_region rfl (wpo_rd (a := (eErr x3)) rfl rfl rfl (h_ld tk hH 0 rfl rfl rfl (hsp := nsp_err _)) ?_)
  refine l_ hs3 eB rfl (o_err_eql tk rfl rfl rfl) fun v6 H5 => ?_
  refine mm tk (eB v6) rfl rfl ?_
  refine if_split H5 (fun hb H7 => ?_) (fun hb H7 => ?_)
  ·subst hb
   refine mm tk (eI x1) rfl rfl (mm tk (eI x2) rfl rfl ?_)
   refine l_ H7 eB rfl (o_ar tk rfl rfl rfl) fun v9 H8 => ?_
   refine mm tk (eB v9) rfl rfl ?_
   refine if_split H8 (fun hb H10 => ?_) (fun hb H10 => ?_)
   ·subst hb
    refine k_ rfl (k_ rfl (pt tk (eB true) rfl rfl rfl (pt tk (eB true) rfl rfl rfl (wpo_nil ?_))))
    have e := oi H10
    subst e
    exact ⟨(wc (wc (wc (wc (wkf_nil _))))), hH⟩
   ·subst hb
    refine mm tk (eI x1) rfl rfl ?_
    refine l_ H10 eB rfl (o_ar tk rfl rfl rfl) fun v12 H11 => ?_
    refine pf tk (eB v12) rfl rfl rfl (pt tk (eB v12) rfl rfl rfl (wpo_nil ?_))
    have e := oi H11
    subst e
    exact ⟨(wc (wc (wc (wc (wkf_nil _))))), hH⟩
  ·subst hb
   refine k_ rfl (k_ rfl (k_ rfl (k_ rfl (k_ rfl (k_ rfl (k_ rfl (pf tk (eB false) rfl rfl rfl (wpo_nil ?_))))))))
   have e := oi H7
   subst e
   exact ⟨(wc (wc (wc (wc (wkf_nil _))))), hH⟩
theorem item_Check_ok {x0 : api_Entry} {r : Err} (H : item_Check x0 = some r) (σ : St)  : ACall Tryd.prog 42 [(e_api_Entry x0)] σ (fun a τ => a = eErr r ∧ τ = σ) := by
 unfold item_Check at H
 refine ACall.pure (acall_start tk Tryd.func42 (by decide) rfl (nb rfl) ?_)
 have hH := Holds.init σ
 refine sr rfl (m_ (.fptr (c_api_Entry x0) 0) rfl (o_boxf tk rfl wr (b := (e_api_Entry x0)) (enc33.flat _)) (ma tk (eErr Err.nil) rfl rfl (wpo_nil (awp_seq (sr rfl (mc tk (.fptr (c_api_Entry x0) 0) rfl rfl (fun _ => rfl) (m_ (eS x0.Key) rfl (o_ld tk rfl rfl) ?_)))))))
 refine b_ H eI rfl (fun v2 hv => OpP.of_call rfl rfl (.cons wr .nil) (octets_Key_ok hv)) fun v2 hv2 H1 => ?_
 refine ma tk (eI v2) rfl rfl (wpo_nil (sr rfl (mm tk (eI v2) rfl rfl ?_)))
 refine l_ H1 eB rfl (o_ar tk rfl rfl rfl) fun v4 H3 => ?_
 refine wpo_nil ?_
 refine awp_if H3 rfl (fun H5 => ?_) (fun H5 => ?_)
 ·refine sr rfl (mc tk (.fptr (c_api_Entry x0) 0) rfl rfl (fun _ => rfl) (m_ (eS x0.Key) rfl (o_ld tk rfl rfl) ?_))
  refine l_ H5 eI rfl (o_len_s tk td9 rfl) fun v7 H6 => ?_
  refine mm tk (eI v2) rfl rfl ?_
  refine b_ H6 eErr rfl (fun v9 hv => OpP.of_call rfl rfl (.cons wr (.cons wr (.cons wr .nil))) (trouble_New_ok hv)) fun v9 hv9 H8 => ?_
  refine ma tk (eErr v9) rfl rfl (wpo_nil (awp_ret ?_))
  obtain rfl := oi H8
  exact ⟨_, (eErr v9), rfl, wr, .of_eq (encErr.cut _ _ _), hH.noT⟩
 ·refine awp_skip (sr rfl ?_)
  refine wpo_a (av := fun id => .ref id 0) rfl rfl rfl (h_alloc tk hH ty37 [eErr Err.nil] rfl) fun id10 τ ⟨hH, n11⟩ => ?_
  refine wpo_nil (sr rfl (mc tk (.fn (.func 57) [] [(.ref id10 0)]) rfl rfl (fun _ => rfl) (ma tk (.fn (.func 57) [] [(.ref id10 0)]) rfl rfl (wpo_nil (sr rfl (mm tk (.fn (.func 57) [] [(.ref id10 0)]) rfl rfl (mc tk (.fptr (c_api_Entry x0) 1) rfl rfl (fun _ => rfl) (m_ (eI x0.Version) rfl (o_ld tk rfl rfl) ?_))))))))
  refine wpo_cb H5 (fun x _ => .tup []) rfl rfl rfl (fun v13 hv => h_call1 hH [(0, (id10, [eErr v13]))] ⟨⟨_, rfl⟩, trivial⟩ rfl rfl (.cons wr (.cons wr (.cons wr (.cons wr .nil)))) (item_Check_1_c_ok hv _ (hH.at_ 0 rfl))) fun v13 _ τ hv13 H12 hH => ?_
  refine wpo_nil (sr rfl (mm tk (.fn (.func 57) [] [(.ref id10 0)]) rfl rfl (mc tk (.fptr (c_api_Entry x0) 2) rfl rfl (fun _ => rfl) (m_ (eI x0.AsOf) rfl (o_ld tk rfl rfl) (mc tk (.fptr (c_api_Entry x0) 1) rfl rfl (fun _ => rfl) (m_ (eI x0.Version) rfl (o_ld tk rfl rfl) ?_))))))
  refine wpo_cb H12 (fun x _ => .tup []) rfl rfl rfl (fun v15 hv => h_call1 hH [(0, (id10, [eErr v15]))] ⟨⟨_, rfl⟩, trivial⟩ rfl rfl (.cons wr (.cons wr (.cons wr (.cons wr .nil)))) (item_Check_1_c_ok hv _ (hH.at_ 0 rfl))) fun v15 _ τ hv15 H14 hH => ?_
  refine wpo_nil (sr rfl (mm tk (.fn (.func 57) [] [(.ref id10 0)]) rfl rfl (mc tk (.fptr (c_api_Entry x0) 3) rfl rfl (fun _ => rfl) (m_ (eI x0.Ends) rfl (o_ld tk rfl rfl) ?_))))
  refine wpo_cb H14 (fun x _ => .tup []) rfl rfl rfl (fun v17 hv => h_call1 hH [(0, (id10, [eErr v17]))] ⟨⟨_, rfl⟩, trivial⟩ rfl rfl (.cons wr (.cons wr (.cons wr (.cons wr .nil)))) (item_Check_1_c_ok hv _ (hH.at_ 0 rfl))) fun v17 _ τ hv17 H16 hH => ?_
  refine wpo_nil (awp_seq (awp_seq ?_))
  obtain ⟨s18, hs20, hj21⟩ := ob H16
  refine awp_cutn (fun fr τ => WkF fr (fm [(1, (.fptr (c_api_Entry x0) 0)), (4, (.ref id10 0)), (38, (eB s18))]) ∧ Holds σ [(id10, [eErr v17])] [] τ) ?_ ?_
  ·rintro fr τ ⟨hfr, hH⟩
   have H29 := hj21
   refine AWP.fm [(1, (.fptr (c_api_Entry x0) 0)), (4, (.ref id10 0)), (38, (eB s18))] hfr ?_
   refine awp_if H29 rfl (fun H30 => ?_) (fun H30 => ?_)
   ·refine awp_region rfl (mc tk (.fptr (c_api_Entry x0) 4) rfl rfl (fun _ => rfl) (m_ ((eL 1 (@eU .u8 8)) x0.Value) rfl (o_ld tk rfl rfl) ?_))
    refine l_ H30 eI rfl (o_len tk td31 rfl) fun v32 H31 => ?_
    refine b_ H31 eErr rfl (fun v34 hv => OpP.of_call rfl rfl (.cons wr (.cons wr (.cons wr .nil))) (trouble_New_ok hv)) fun v34 hv34 H33 => ?_
    obtain ⟨c36, hc37, H35⟩ := lt_ex H33
    refine wpo_z rfl rfl (h_st tk hH 0 rfl ty37 (by simp) rfl rfl wr (b := (eErr v34)) (encErr.flat _) (by rw [show (eErr _).cells = [eErr _] from encErr.one rfl _]; rfl) (nb rfl) [eErr c36] (by rw [← hc37, show (eErr _).cells = [eErr _] from encErr.one rfl _]; rfl) (hsp := nsp_err _)) fun τ hH => ?_
    refine wpo_nil (sr rfl (wpo_rd (a := (eErr c36)) rfl rfl rfl (h_ld tk hH 0 rfl rfl rfl (hsp := nsp_err _)) (ma tk (eErr c36) rfl rfl (wpo_nil (awp_ret ?_)))))
    obtain rfl := oi H35
    exact ⟨_, (eErr c36), rfl, wr, .of_eq (encErr.cut _ _ _), (hH.noT.drop n11)⟩
   ·refine awp_skip (sr rfl (wpo_rd (a := (eErr v17)) rfl rfl rfl (h_ld tk hH 0 rfl rfl rfl (hsp := nsp_err _)) (ma tk (eErr v17) rfl rfl (wpo_nil (awp_ret ?_)))))
    obtain rfl := oi H30
    exact ⟨_, (eErr v17), rfl, wr, .of_eq (encErr.cut _ _ _), (hH.noT.drop n11)⟩
  ·refine awp_region rfl (wpo_rd (a := (eErr v17)) rfl rfl rfl (h_ld tk hH 0 rfl rfl rfl (hsp := nsp_err _)) ?_)
   refine l_ hs20 eB rfl (o_err_eql tk rfl rfl rfl) fun v23 H22 => ?_
   refine mm tk (eB v23) rfl rfl ?_
   refine if_split H22 (fun hb H24 => ?_) (fun hb H24 => ?_)
   ·subst hb
    refine mc tk (.fptr (c_api_Entry x0) 4) rfl rfl (fun _ => rfl) (m_ ((eL 1 (@eU .u8 8)) x0.Value) rfl (o_ld tk rfl rfl) ?_)
    refine l_ H24 eI rfl (o_len tk td31 rfl) fun v26 H25 => ?_
    refine l_ H25 eB rfl (o_ar tk rfl rfl rfl) fun v28 H27 => ?_
    refine pt tk (eB v28) rfl rfl rfl (wpo_nil ?_)
    have e := oi H27
    subst e
    exact ⟨(wc (wc (wc (wkf_nil _)))), hH⟩
   ·subst hb
    refine k_ rfl (k_ rfl (k_ rfl (k_ rfl (pf tk (eB false) rfl rfl rfl (wpo_nil ?_)))))
    have e := oi H24
    subst e
    exact ⟨(wc (wc (wc (wkf_nil _)))), hH⟩
theorem item_Same_ok {x0 : api_Entry} {x1 : api_Entry} {r : Bool} (H : item_Same x0 x1 = some r) (σ : St)  : ACall Tryd.prog 43 [(e_api_Entry x0), (e_api_Entry x1)] σ (fun a τ => a = eB r ∧ τ = σ) := by
 unfold item_Same at H
 refine ACall.pure (acall_start tk Tryd.func43 (by decide) rfl (nb rfl) ?_)
 have hH := Holds.init σ
 refine sr rfl (m_ (.fptr (c_api_Entry x0) 0) rfl (o_boxf tk rfl wr (b := (e_api_Entry x0)) (enc33.flat _)) (m_ (.fptr (c_api_Entry x1) 0) rfl (o_boxf tk rfl wr (b := (e_api_Entry x1)) (enc33.flat _)) (ma tk (eB false) rfl rfl (wpo_nil (sr rfl (mc tk (.fptr (c_api_Entry x0) 0) rfl rfl (fun _ => rfl) (m_ (eS x0.Key) rfl (o_ld tk rfl rfl) (mc tk (.fptr (c_api_Entry x1) 0) rfl rfl (fun _ => rfl) ?_))))))))
 refine m_ (eS x1.Key) rfl (o_ld tk rfl rfl) ?_
 refine l_ H eB rfl (o_eql_s tk rfl rfl) fun v2 H1 => ?_
 refine mm tk (eB v2) rfl rfl ?_
 refine if_split H1 (fun hb H3 => ?_) (fun hb H3 => ?_)
 ·subst hb
  refine mc tk (.fptr (c_api_Entry x0) 1) rfl rfl (fun _ => rfl) (m_ (eI x0.Version) rfl (o_ld tk rfl rfl) (mc tk (.fptr (c_api_Entry x1) 1) rfl rfl (fun _ => rfl) (m_ (eI x1.Version) rfl (o_ld tk rfl rfl) ?_)))
  refine l_ H3 eB rfl (o_ar tk rfl rfl rfl) fun v5 H4 => ?_
  refine pt tk (eB v5) rfl rfl rfl (mm tk (eB v5) rfl rfl ?_)
  refine if_split H4 (fun hb H6 => ?_) (fun hb H6 => ?_)
  ·subst hb
   refine mc tk (.fptr (c_api_Entry x0) 2) rfl rfl (fun _ => rfl) (m_ (eI x0.AsOf) rfl (o_ld tk rfl rfl) (mc tk (.fptr (c_api_Entry x1) 2) rfl rfl (fun _ => rfl) (m_ (eI x1.AsOf) rfl (o_ld tk rfl rfl) ?_)))
   refine l_ H6 eB rfl (o_ar tk rfl rfl rfl) fun v8 H7 => ?_
   refine pt tk (eB v8) rfl rfl rfl (mm tk (eB v8) rfl rfl ?_)
   refine if_split H7 (fun hb H9 => ?_) (fun hb H9 => ?_)
   ·subst hb
    refine mc tk (.fptr (c_api_Entry x0) 3) rfl rfl (fun _ => rfl) (m_ (eI x0.Ends) rfl (o_ld tk rfl rfl) (mc tk (.fptr (c_api_Entry x1) 3) rfl rfl (fun _ => rfl) (m_ (eI x1.Ends) rfl (o_ld tk rfl rfl) ?_)))
    refine l_ H9 eB rfl (o_ar tk rfl rfl rfl) fun v11 H10 => ?_
    refine pt tk (eB v11) rfl rfl rfl (mm tk (eB v11) rfl rfl ?_)
    refine if_split H10 (fun hb H12 => ?_) (fun hb H12 => ?_)
    ·subst hb
     refine mc tk (.fptr (c_api_Entry x0) 4) rfl rfl (fun _ => rfl) (m_ ((eL 1 (@eU .u8 8)) x0.Value) rfl (o_ld tk rfl rfl) (m_ (eS x0.Value) rfl (o_b2s tk td31 td9 td5 rfl) (mc tk (.fptr (c_api_Entry x1) 4) rfl rfl (fun _ => rfl) (m_ ((eL 1 (@eU .u8 8)) x1.Value) rfl (o_ld tk rfl rfl) (m_ (eS x1.Value) rfl (o_b2s tk td31 td9 td5 rfl) ?_)))))
     refine l_ H12 eB rfl (o_eql_s tk rfl rfl) fun v14 H13 => ?_
     refine pt tk (eB v14) rfl rfl rfl (ma tk (eB v14) rfl rfl (wpo_nil (awp_ret ?_)))
     obtain rfl := oi H13
     exact ⟨_, (eB v14), rfl, wr, .of_eq ((enc_b td4 sz4).cut _ _ _), hH.noT⟩
    ·subst hb
     refine k_ rfl (k_ rfl (k_ rfl (k_ rfl (k_ rfl (k_ rfl (k_ rfl (pf tk (eB false) rfl rfl rfl (ma tk (eB false) rfl rfl ?_))))))))
     refine wpo_nil (awp_ret ?_)
     obtain rfl := oi H12
     exact ⟨_, (eB false), rfl, wr, .of_eq ((enc_b td4 sz4).cut _ _ _), hH.noT⟩
   ·subst hb
    refine k_ rfl (k_ rfl (k_ rfl (k_ rfl (k_ rfl (pf tk (eB false) rfl rfl rfl (mm tk (eB false) rfl rfl (k_ rfl (k_ rfl ?_))))))))
    refine k_ rfl (k_ rfl (k_ rfl (k_ rfl (k_ rfl (pf tk (eB false) rfl rfl rfl (ma tk (eB false) rfl rfl (wpo_nil (awp_ret ?_))))))))
    obtain rfl := oi H9
    exact ⟨_, (eB false), rfl, wr, .of_eq ((enc_b td4 sz4).cut _ _ _), hH.noT⟩
  ·subst hb
   refine k_ rfl (k_ rfl (k_ rfl (k_ rfl (k_ rfl (pf tk (eB false) rfl rfl rfl (mm tk (eB false) rfl rfl (k_ rfl (k_ rfl ?_))))))))
   refine k_ rfl (k_ rfl (k_ rfl (pf tk (eB false) rfl rfl rfl (mm tk (eB false) rfl rfl (k_ rfl (k_ rfl (k_ rfl (k_ rfl ?_))))))))
   refine k_ rfl (k_ rfl (k_ rfl (pf tk (eB false) rfl rfl rfl (ma tk (eB false) rfl rfl (wpo_nil (awp_ret ?_))))))
   obtain rfl := oi H6
   exact ⟨_, (eB false), rfl, wr, .of_eq ((enc_b td4 sz4).cut _ _ _), hH.noT⟩
 ·subst hb
  refine k_ rfl (k_ rfl (k_ rfl (k_ rfl (k_ rfl (pf tk (eB false) rfl rfl rfl (mm tk (eB false) rfl rfl (k_ rfl (k_ rfl ?_))))))))
  refine k_ rfl (k_ rfl (k_ rfl (pf tk (eB false) rfl rfl rfl (mm tk (eB false) rfl rfl (k_ rfl (k_ rfl (k_ rfl (k_ rfl ?_))))))))
  refine k_ rfl (pf tk (eB false) rfl rfl rfl (mm tk (eB false) rfl rfl (k_ rfl (k_ rfl (k_ rfl (k_ rfl (k_ rfl (k_ rfl ?_))))))))
  refine k_ rfl (pf tk (eB false) rfl rfl rfl (ma tk (eB false) rfl rfl (wpo_nil (awp_ret ?_))))
  obtain rfl := oi H3
  exact ⟨_, (eB false), rfl, wr, .of_eq ((enc_b td4 sz4).cut _ _ _), hH.noT⟩
theorem wire_Check_ok {x0 : api_Msg} {r : Err} (H : wire_Check x0 = some r) (σ : St)  : ACall Tryd.prog 28 [(e_api_Msg x0)] σ (fun a τ => a = eErr r ∧ τ = σ) := by
 unfold wire_Check at H
 refine ACall.pure (acall_start tk Tryd.func28 (by decide) rfl (nb rfl) ?_)
 have hH := Holds.init σ
 refine sr rfl (m_ (.fptr (c_api_Msg x0) 0) rfl (o_boxf tk rfl wr (b := (e_api_Msg x0)) (enc35.flat _)) (ma tk (eErr Err.nil) rfl rfl (wpo_nil (awp_seq (awp_seq ?_)))))
 obtain ⟨s1, hs3, hj4⟩ := ob H
 refine awp_cutn (fun fr τ => WkF fr (fm [(1, (.fptr (c_api_Msg x0) 0)), (17, (eB s1))]) ∧ Holds σ [] [] τ) ?_ ?_
 ·rintro fr τ ⟨hfr, hH⟩
  have H10 := hj4
  refine AWP.fm [(1, (.fptr (c_api_Msg x0) 0)), (17, (eB s1))] hfr ?_
  refine awp_if H10 rfl (fun H11 => ?_) (fun H11 => ?_)
  ·refine sr rfl (mc tk (.fptr (c_api_Msg x0) 0) rfl rfl (fun _ => rfl) (m_ (eI x0.Kind) rfl (o_ld tk rfl rfl) ?_))
   refine b_ H11 eErr rfl (fun v13 hv => OpP.of_call rfl rfl (.cons wr (.cons wr (.cons wr .nil))) (trouble_New_ok hv)) fun v13 hv13 H12 => ?_
   refine ma tk (eErr v13) rfl rfl (wpo_nil (awp_ret ?_))
   obtain rfl := oi H12
   exact ⟨_, (eErr v13), rfl, wr, .of_eq (encErr.cut _ _ _), hH.noT⟩
  ·refine awp_skip (awp_seq ?_)
   refine awp_drawS mixed [] rfl (by decide +kernel) rfl rfl ?_
   refine wpdS_mv (a := (.fptr (c_api_Msg x0) 1)) rfl rfl rfl (o_c tk false rfl (fun _ => rfl)) (wpdS_mv (a := (eI x0.From)) rfl rfl rfl (o_ld tk rfl rfl) (wpdS_mv (a := (.fptr (c_api_Msg x0) 2)) rfl rfl rfl (o_c tk false rfl (fun _ => rfl)) (wpdS_mv (a := (eI x0.To)) rfl rfl rfl (o_ld tk rfl rfl) (wpdS_mv (a := (eI x0.From)) rfl rfl rfl (o_as tk rfl (Wk.refl _)) (wpdS_mv (a := (eI x0.To)) rfl rfl rfl (o_as tk rfl (Wk.refl _)) (wpdS_nil (awp_seq (sr rfl ?_))))))))
   refine mc tk (.fptr (c_api_Msg x0) 0) rfl rfl (fun _ => rfl) (m_ (eI x0.Kind) rfl (o_ld tk rfl rfl) ?_)
   refine b_ H11 eB rfl (fun v15 hv => OpP.of_call rfl rfl (.cons wr .nil) (wire_down_ok hv)) fun v15 hv15 H14 => ?_
   refine wpo_nil ?_
   obtain ⟨s16, hs18, hj19⟩ := ob H14
   refine awp_cutn (fun fr τ => WkF fr (fm [(1, (.fptr (c_api_Msg x0) 0)), (3, (eI s16.1)), (4, (eI s16.2))]) ∧ Holds σ [] [] τ) ?_ ?_
   ·rintro fr τ ⟨hfr, hH⟩
    have H21 := hj19
    refine AWP.fm [(1, (.fptr (c_api_Msg x0) 0)), (3, (eI s16.1)), (4, (eI s16.2))] hfr ?_
    refine awp_seq (awp_block (awp_seq ?_))
    obtain ⟨s22, hs24, hj25⟩ := ob H21
    refine awp_cutn (fun fr τ => WkF fr (fm [(1, (.fptr (c_api_Msg x0) 0)), (3, (eI s16.1)), (30, (eB s22))]) ∧ Holds σ [] [] τ) ?_ ?_
    ·rintro fr τ ⟨hfr, hH⟩
     have H34 := hj25
     refine AWP.fm [(1, (.fptr (c_api_Msg x0) 0)), (3, (eI s16.1)), (30, (eB s22))] hfr ?_
     refine awp_if H34 rfl (fun H35 => ?_) (fun H35 => ?_)
     ·refine sr rfl (mm tk (eI s16.1) rfl rfl ?_)
      refine b_ H35 eErr rfl (fun v37 hv => OpP.of_call rfl rfl (.cons wr (.cons wr (.cons wr .nil))) (trouble_New_ok hv)) fun v37 hv37 H36 => ?_
      refine ma tk (eErr v37) rfl rfl (wpo_nil (awp_ret ?_))
      obtain rfl := oi H36
      exact ⟨_, (eErr v37), rfl, wr, .of_eq (encErr.cut _ _ _), hH.noT⟩
     ·refine awp_seq ?_
      obtain ⟨s38, hs40, hj41⟩ := ob H35
      refine awp_cutn (fun fr τ => WkF fr (fm [(1, (.fptr (c_api_Msg x0) 0)), (43, (eB s38))]) ∧ Holds σ [] [] τ) ?_ ?_
      ·rintro fr τ ⟨hfr, hH⟩
       have H47 := hj41
       refine AWP.fm [(1, (.fptr (c_api_Msg x0) 0)), (43, (eB s38))] hfr ?_
       refine awp_if H47 rfl (fun H48 => ?_) (fun H48 => ?_)
       ·refine sr rfl (mc tk (.fptr (c_api_Msg x0) 3) rfl rfl (fun _ => rfl) (m_ (eI x0.Epoch) rfl (o_ld tk rfl rfl) ?_))
        refine b_ H48 eErr rfl (fun v50 hv => OpP.of_call rfl rfl (.cons wr (.cons wr (.cons wr .nil))) (trouble_New_ok hv)) fun v50 hv50 H49 => ?_
        refine ma tk (eErr v50) rfl rfl (wpo_nil (awp_ret ?_))
        obtain rfl := oi H49
        exact ⟨_, (eErr v50), rfl, wr, .of_eq (encErr.cut _ _ _), hH.noT⟩
       ·refine awp_skip (sr rfl (m_ (e_api_Msg x0) rfl (o_ld tk rfl rfl) ?_))
        refine wpo_a (av := fun id => .ref id 0) rfl rfl rfl (h_allocw tk hH ty35 (c_api_Msg z_api_Msg) (.cons wr (.cons wr (.cons wr (.cons wr (.cons wr (.cons wr (.cons wr (.cons wr (.cons wr (.cons (by exact wk_nils _) (.cons wr .nil)))))))))))) fun id51 τ ⟨hH, n52⟩ => ?_
        obtain ⟨c54, hc55, H53⟩ := lt_ex H48
        refine wpo_z rfl rfl (h_st tk hH 0 rfl ty35 (by simp) rfl rfl wr (b := (e_api_Msg x0)) (enc35.flat _) rfl (nb rfl) (c_api_Msg c54) (by rw [← hc55]; rfl)) fun τ hH => ?_
        refine wpo_nil (sr rfl (mc tk (.ref id51 0) rfl rfl (fun _ => rfl) ?_))
        obtain ⟨c57, hc58, H56⟩ := lt_ex H53
        refine wpo_z rfl rfl (h_st tk hH 0 rfl ty3 (by simp) rfl rfl wr (b := (eI (0 : Int))) rfl rfl (nb rfl) (c_api_Msg c57) (by rw [← hc58]; rfl)) fun τ hH => ?_
        refine mc tk (.ref id51 1) rfl rfl (fun _ => rfl) ?_
        obtain ⟨c60, hc61, H59⟩ := lt_ex H56
        refine wpo_z rfl rfl (h_st tk hH 0 rfl ty3 (by simp) rfl rfl wr (b := (eI (0 : Int))) rfl rfl (nb rfl) (c_api_Msg c60) (by rw [← hc61]; rfl)) fun τ hH => ?_
        refine mc tk (.ref id51 2) rfl rfl (fun _ => rfl) ?_
        obtain ⟨c63, hc64, H62⟩ := lt_ex H59
        refine wpo_z rfl rfl (h_st tk hH 0 rfl ty3 (by simp) rfl rfl wr (b := (eI (0 : Int))) rfl rfl (nb rfl) (c_api_Msg c63) (by rw [← hc64]; rfl)) fun τ hH => ?_
        refine mc tk (.ref id51 3) rfl rfl (fun _ => rfl) ?_
        obtain ⟨c66, hc67, H65⟩ := lt_ex H62
        refine wpo_z rfl rfl (h_st tk hH 0 rfl ty3 (by simp) rfl rfl wr (b := (eI (0 : Int))) rfl rfl (nb rfl) (c_api_Msg c66) (by rw [← hc67]; rfl)) fun τ hH => ?_
        refine wpo_nil (awp_seq (sr rfl (mc tk (.fptr (c_api_Msg x0) 0) rfl rfl (fun _ => rfl) (m_ (eI x0.Kind) rfl (o_ld tk rfl rfl) ?_))))
        refine b_ H65 eS rfl (fun v69 hv => OpP.of_call rfl rfl (.cons wr .nil) (wire_parts_ok hv)) fun v69 hv69 H68 => ?_
        refine wpo_a (av := fun id => .spc id) rfl rfl rfl (h_range tk hH td9 rfl) fun id70 τ ⟨hH, n71⟩ => ?_
        refine wpo_nil (awp_block ?_)
        obtain ⟨o74, hs75, hj76⟩ := ob H68
        refine awp_cutx 1 (fun fr τ => ∃ s81 : (List (BitVec 8) × Nat) × api_Msg, o74 = .inl s81 ∧ WkF fr (fm [(1, (.fptr (c_api_Msg x0) 0)), (5, (.ref id51 0))]) ∧ Holds σ [(id70, (cIt s81.1)), (id51, (c_api_Msg s81.2))] [] τ) ?_ ?_
        ·rintro fr τ ⟨s81, rfl, hfr, hH⟩
         have H166 := hj76
         simp only [Sum.elim_inl] at H166
         refine AWP.fm [(1, (.fptr (c_api_Msg x0) 0)), (5, (.ref id51 0))] hfr ?_
         refine awp_seq (awp_seq ?_)
         obtain ⟨s167, hs169, hj170⟩ := ob H166
         refine awp_cutn (fun fr τ => WkF fr (fm [(1, (.fptr (c_api_Msg x0) 0)), (148, (eB s167))]) ∧ Holds σ [(id70, (cIt s81.1)), (id51, (c_api_Msg s81.2))] [] τ) ?_ ?_
         ·rintro fr τ ⟨hfr, hH⟩
          have H179 := hj170
          refine AWP.fm [(1, (.fptr (c_api_Msg x0) 0)), (148, (eB s167))] hfr ?_
          refine awp_if H179 rfl (fun H180 => ?_) (fun H180 => ?_)
          ·refine sr rfl (mc tk (.fptr (c_api_Msg x0) 0) rfl rfl (fun _ => rfl) (m_ (eI x0.Kind) rfl (o_ld tk rfl rfl) ?_))
           refine b_ H180 eErr rfl (fun v182 hv => OpP.of_call rfl rfl (.cons wr (.cons wr (.cons wr .nil))) (trouble_New_ok hv)) fun v182 hv182 H181 => ?_
           refine ma tk (eErr v182) rfl rfl (wpo_nil (awp_ret ?_))
           obtain rfl := oi H181
           exact ⟨_, (eErr v182), rfl, wr, .of_eq (encErr.cut _ _ _), ((hH.noT.drop n71).drop n52)⟩
          ·refine awp_skip (sr rfl (ma tk (eErr Err.nil) rfl rfl (wpo_nil (awp_ret ?_))))
           obtain rfl := oi H180
           exact ⟨_, (eErr Err.nil), rfl, wr, .of_eq (encErr.cut _ _ _), ((hH.noT.drop n71).drop n52)⟩
         ·refine awp_region rfl (mc tk (.ref id51 4) rfl rfl (fun _ => rfl) (wpo_rd (a := (eI s81.2.Id)) rfl rfl rfl (h_ld tk hH 1 rfl rfl rfl) ?_))
          refine l_ hs169 eB rfl (o_ar tk rfl rfl rfl) fun v172 H171 => ?_
          refine mm tk (eB v172) rfl rfl ?_
          refine if_split H171 (fun hb H173 => ?_) (fun hb H173 => ?_)
          ·subst hb
           refine k_ rfl (k_ rfl (pt tk (eB true) rfl rfl rfl (mm tk (eB true) rfl rfl (k_ rfl (k_ rfl (k_ rfl (k_ rfl (k_ rfl ?_))))))))
           refine pt tk (eB true) rfl rfl rfl (wpo_nil ?_)
           have e := oi H173
           subst e
           exact ⟨(wc (wc (wkf_nil _))), hH⟩
          ·subst hb
           refine mc tk (.ref id51 10) rfl rfl (fun _ => rfl) (wpo_rd (a := (eB s81.2.Found)) rfl rfl rfl (h_ld tk hH 1 rfl rfl rfl) (pf tk (eB s81.2.Found) rfl rfl rfl (mm tk (eB s81.2.Found) rfl rfl ?_)))
           refine if_split H173 (fun hb H174 => ?_) (fun hb H174 => ?_)
           ·rw [hb]
            refine k_ rfl (k_ rfl (k_ rfl (k_ rfl (k_ rfl (pt tk (eB true) rfl rfl rfl (wpo_nil ?_))))))
            have e := oi H174
            subst e
            exact ⟨(wc (wc (wkf_nil _))), hH⟩
           ·rw [hb]
            refine mc tk (.ref id51 5) rfl rfl (fun _ => rfl) (wpo_rd (a := (e_api_Entry s81.2.X)) rfl rfl rfl (h_ld tk hH 1 rfl rfl rfl) (mc tk (.agg [(eS (⟨([] : List (BitVec 8)), (0 : Int), (0 : Int), (0 : Int), ([] : List (BitVec 8))⟩ : api_Entry).Key), (eI (⟨([] : List (BitVec 8)), (0 : Int), (0 : Int), (0 : Int), ([] : List (BitVec 8))⟩ : api_Entry).Version), (eI (⟨([] : List (BitVec 8)), (0 : Int), (0 : Int), (0 : Int), ([] : List (BitVec 8))⟩ : api_Entry).AsOf), (eI (⟨([] : List (BitVec 8)), (0 : Int), (0 : Int), (0 : Int), ([] : List (BitVec 8))⟩ : api_Entry).Ends), AV.nils]) rfl rfl (fun _ => rfl) ?_))
            refine b_ H174 eB rfl (fun v176 hv => OpP.of_call rfl rfl (.cons wr (.cons (wk_agg (.cons wr (.cons wr (.cons wr (.cons wr (.cons (wk_nils _) .nil)))))) .nil)) (item_Same_ok hv)) fun v176 hv176 H175 => ?_
            refine l_ H175 eB rfl (o_un tk rfl rfl) fun v178 H177 => ?_
            refine pf tk (eB v178) rfl rfl rfl (wpo_nil ?_)
            have e := oi H177
            subst e
            exact ⟨(wc (wc (wkf_nil _))), hH⟩
        ·refine awp_loopO (body := fun s => wire_Check_b0 x0 s.1 s.2) hs75 (fun (s : (List (BitVec 8) × Nat) × api_Msg) fr τ => WkF fr (fm [(1, (.fptr (c_api_Msg x0) 0)), (5, (.ref id51 0)), (63, (.spc id70))]) ∧ Holds σ [(id70, (cIt s.1)), (id51, (c_api_Msg s.2))] [] τ) ⟨(wc (wc (wc (wkf_nil _)))), hH⟩ ?_
         rintro ⟨c72, c73⟩ fr τ y77 ⟨hfr, hH⟩ hb79 hy80
         have H82 : wire_Check_b0 x0 c72 c73 = some y77 := hb79
         unfold wire_Check_b0 at H82
         refine AWP.fm [(1, (.fptr (c_api_Msg x0) 0)), (5, (.ref id51 0)), (63, (.spc id70))] hfr ?_
         have hH : Holds σ [(id70, (cIt c72)), (id51, (c_api_Msg c73))] [] τ := hH
         refine sr rfl ?_
         obtain ⟨v84, hv85, H83⟩ := ob H82
         rcases v84 with _ | c86
         ·rw [Option.elim_none] at H83
          refine wpo_a (av := fun _ => .tup [eB false]) rfl rfl rfl (h_next0 hH 0 hv85 rfl rfl) fun _ τ hH => ?_
          refine m_ (eB false) rfl (o_ext tk rfl rfl) (wpo_nil (awp_seq ?_))
          refine awp_false rfl ?_
          refine awp_exit ?_
          have hz := hy80 _ (inj_inr H83)
          exact ⟨⟨_, inj_inr H83⟩, (c72, c73), hz.symm, (wc (wc (wkf_nil _))), hH⟩
         ·rw [Option.elim_some] at H83
          refine wpo_a (av := fun _ => .tup [eB true, eI (c72.2 : Int), eK .i32 c86]) rfl rfl rfl (h_next1 hH 0 hv85 rfl rfl) fun _ τ (hH : Holds σ [(id70, (cIt (c72.1, c72.2 + 1))), (id51, (c_api_Msg c73))] [] τ) => ?_
          refine m_ (eB true) rfl (o_ext tk rfl rfl) (wpo_nil (awp_seq ?_))
          refine awp_true rfl ?_
          refine awp_skip (awp_block (sr rfl (m_ ((eK .i32) c86) rfl (o_ext tk rfl rfl) (ma tk ((eK .i32) c86) rfl rfl (wpo_nil (sr rfl (mm tk ((eK .i32) c86) rfl rfl (wpo_nil ?_))))))))
          refine awp_block (sr rfl ?_)
          refine l_ H83 eB rfl (o_ar tk rfl rfl rfl) fun v88 H87 => ?_
          refine ma tk (eB v88) rfl rfl (wpo_nil ?_)
          refine awp_if H87 rfl (fun H89 => ?_) (fun H89 => ?_)
          ·refine awp_seq (awp_seq ?_)
           obtain ⟨s90, hs92, hj93⟩ := ob H89
           refine awp_cutn (fun fr τ => WkF fr (fm [(1, (.fptr (c_api_Msg x0) 0)), (5, (.ref id51 0)), (63, (.spc id70)), (77, (eB s90))]) ∧ Holds σ [(id70, (cIt (c72.1, c72.2 + 1))), (id51, (c_api_Msg c73))] [] τ) ?_ ?_
           ·rintro fr τ ⟨hfr, hH⟩
            have H99 := hj93
            refine AWP.fm [(1, (.fptr (c_api_Msg x0) 0)), (5, (.ref id51 0)), (63, (.spc id70)), (77, (eB s90))] hfr ?_
            refine awp_if H99 rfl (fun H100 => ?_) (fun H100 => ?_)
            ·refine sr rfl (mc tk (.fptr (c_api_Msg x0) 4) rfl rfl (fun _ => rfl) (m_ (eI x0.Id) rfl (o_ld tk rfl rfl) ?_))
             refine b_ H100 eErr rfl (fun v102 hv => OpP.of_call rfl rfl (.cons wr (.cons wr (.cons wr .nil))) (trouble_New_ok hv)) fun v102 hv102 H101 => ?_
             refine ma tk (eErr v102) rfl rfl (wpo_nil (awp_ret ?_))
             have hz := hy80 _ (inj_inr H101)
             refine ⟨⟨_, inj_inr H101⟩, ?_⟩
             rw [← hz] at hj76
             have H103 := (show some _ = some _ from hj76)
             obtain rfl := oi H103
             exact ⟨_, (eErr v102), rfl, wr, .of_eq (encErr.cut _ _ _), ((hH.noT.drop n71).drop n52)⟩
            ·refine awp_skip (awp_region rfl (mc tk (.ref id51 4) rfl rfl (fun _ => rfl) ?_))
             obtain ⟨c105, hc106, H104⟩ := lt_ex H100
             refine wpo_z rfl rfl (h_st tk hH 1 rfl ty3 (by simp) rfl rfl wr (b := (eI (0 : Int))) rfl rfl (nb rfl) (c_api_Msg c105) (by rw [← hc106]; rfl)) fun τ hH => ?_
             refine wpo_nil ?_
             exact ⟨((c72.1, c72.2 + 1), c105), inj_inl H104, (wc (wc (wc (wkf_nil _)))), hH⟩
           ·refine awp_region rfl (mc tk (.fptr (c_api_Msg x0) 4) rfl rfl (fun _ => rfl) (m_ (eI x0.Id) rfl (o_ld tk rfl rfl) ?_))
            refine l_ hs92 eB rfl (o_ar tk rfl rfl rfl) fun v95 H94 => ?_
            refine mm tk (eB v95) rfl rfl ?_
            refine if_split H94 (fun hb H96 => ?_) (fun hb H96 => ?_)
            ·subst hb
             refine k_ rfl (k_ rfl (k_ rfl (pt tk (eB true) rfl rfl rfl (wpo_nil ?_))))
             have e := oi H96
             subst e
             exact ⟨(wc (wc (wc (wc (wkf_nil _))))), hH⟩
            ·subst hb
             refine mc tk (.fptr (c_api_Msg x0) 4) rfl rfl (fun _ => rfl) (m_ (eI x0.Id) rfl (o_ld tk rfl rfl) ?_)
             refine l_ H96 eB rfl (o_ar tk rfl rfl rfl) fun v98 H97 => ?_
             refine pf tk (eB v98) rfl rfl rfl (wpo_nil ?_)
             have e := oi H97
             subst e
             exact ⟨(wc (wc (wc (wc (wkf_nil _))))), hH⟩
          ·refine sr rfl ?_
           refine l_ H89 eB rfl (o_ar tk rfl rfl rfl) fun v108 H107 => ?_
           refine ma tk (eB v108) rfl rfl (wpo_nil ?_)
           refine awp_if H107 rfl (fun H109 => ?_) (fun H109 => ?_)
           ·refine awp_seq (sr rfl (mc tk (.fptr (c_api_Msg x0) 5) rfl rfl (fun _ => rfl) (mc tk (.fptr (c_api_Msg x0) 5) rfl rfl (fun _ => rfl) (m_ (eS x0.X.Key) rfl (o_ld tk rfl rfl) ?_))))
            refine b_ H109 eI rfl (fun v111 hv => OpP.of_call rfl rfl (.cons wr .nil) (octets_Key_ok hv)) fun v111 hv111 H110 => ?_
            refine ma tk (eI v111) rfl rfl (wpo_nil (sr rfl (mm tk (eI v111) rfl rfl ?_)))
            refine l_ H110 eB rfl (o_ar tk rfl rfl rfl) fun v113 H112 => ?_
            refine wpo_nil ?_
            refine awp_if H112 rfl (fun H114 => ?_) (fun H114 => ?_)
            ·refine sr rfl (mc tk (.fptr (c_api_Msg x0) 5) rfl rfl (fun _ => rfl) (mc tk (.fptr (c_api_Msg x0) 5) rfl rfl (fun _ => rfl) (m_ (eS x0.X.Key) rfl (o_ld tk rfl rfl) ?_)))
             refine l_ H114 eI rfl (o_len_s tk td9 rfl) fun v116 H115 => ?_
             refine mm tk (eI v111) rfl rfl ?_
             refine b_ H115 eErr rfl (fun v118 hv => OpP.of_call rfl rfl (.cons wr (.cons wr (.cons wr .nil))) (trouble_New_ok hv)) fun v118 hv118 H117 => ?_
             refine ma tk (eErr v118) rfl rfl (wpo_nil (awp_ret ?_))
             have hz := hy80 _ (inj_inr H117)
             refine ⟨⟨_, inj_inr H117⟩, ?_⟩
             rw [← hz] at hj76
             have H119 := (show some _ = some _ from hj76)
             obtain rfl := oi H119
             exact ⟨_, (eErr v118), rfl, wr, .of_eq (encErr.cut _ _ _), ((hH.noT.drop n71).drop n52)⟩
            ·refine awp_skip (awp_region rfl (mc tk (.ref id51 5) rfl rfl (fun _ => rfl) (mc tk (.ref id51 5) rfl rfl (fun _ => rfl) ?_)))
             obtain ⟨c121, hc122, H120⟩ := lt_ex H114
             refine wpo_z rfl rfl (h_st tk hH 1 rfl ty9 (by simp) rfl rfl wr (b := (eS ([] : List (BitVec 8)))) rfl rfl (nb rfl) (c_api_Msg c121) (by rw [← hc122]; rfl)) fun τ hH => ?_
             refine wpo_nil ?_
             exact ⟨((c72.1, c72.2 + 1), c121), inj_inl H120, (wc (wc (wc (wkf_nil _)))), hH⟩
           ·refine sr rfl ?_
            refine l_ H109 eB rfl (o_ar tk rfl rfl rfl) fun v124 H123 => ?_
            refine ma tk (eB v124) rfl rfl (wpo_nil ?_)
            refine awp_if H123 rfl (fun H125 => ?_) (fun H125 => ?_)
            ·refine awp_seq (awp_seq ?_)
             obtain ⟨s126, hs128, hj129⟩ := ob H125
             refine awp_cutn (fun fr τ => WkF fr (fm [(1, (.fptr (c_api_Msg x0) 0)), (5, (.ref id51 0)), (63, (.spc id70)), (109, (eB s126))]) ∧ Holds σ [(id70, (cIt (c72.1, c72.2 + 1))), (id51, (c_api_Msg c73))] [] τ) ?_ ?_
             ·rintro fr τ ⟨hfr, hH⟩
              have H135 := hj129
              refine AWP.fm [(1, (.fptr (c_api_Msg x0) 0)), (5, (.ref id51 0)), (63, (.spc id70)), (109, (eB s126))] hfr ?_
              refine awp_if H135 rfl (fun H136 => ?_) (fun H136 => ?_)
              ·refine sr rfl (mc tk (.fptr (c_api_Msg x0) 5) rfl rfl (fun _ => rfl) (mc tk (.fptr (c_api_Msg x0) 7) rfl rfl (fun _ => rfl) (m_ (eI x0.X.AsOf) rfl (o_ld tk rfl rfl) ?_)))
               refine b_ H136 eErr rfl (fun v138 hv => OpP.of_call rfl rfl (.cons wr (.cons wr (.cons wr .nil))) (trouble_New_ok hv)) fun v138 hv138 H137 => ?_
               refine ma tk (eErr v138) rfl rfl (wpo_nil (awp_ret ?_))
               have hz := hy80 _ (inj_inr H137)
               refine ⟨⟨_, inj_inr H137⟩, ?_⟩
               rw [← hz] at hj76
               have H139 := (show some _ = some _ from hj76)
               obtain rfl := oi H139
               exact ⟨_, (eErr v138), rfl, wr, .of_eq (encErr.cut _ _ _), ((hH.noT.drop n71).drop n52)⟩
              ·refine awp_skip (awp_region rfl (mc tk (.ref id51 5) rfl rfl (fun _ => rfl) (mc tk (.ref id51 7) rfl rfl (fun _ => rfl) ?_)))
               obtain ⟨c141, hc142, H140⟩ := lt_ex H136
               refine wpo_z rfl rfl (h_st tk hH 1 rfl ty3 (by simp) rfl rfl wr (b := (eI (0 : Int))) rfl rfl (nb rfl) (c_api_Msg c141) (by rw [← hc142]; rfl)) fun τ hH => ?_
               refine wpo_nil ?_
               exact ⟨((c72.1, c72.2 + 1), c141), inj_inl H140, (wc (wc (wc (wkf_nil _)))), hH⟩
             ·refine awp_region rfl (mc tk (.fptr (c_api_Msg x0) 5) rfl rfl (fun _ => rfl) (mc tk (.fptr (c_api_Msg x0) 7) rfl rfl (fun _ => rfl) (m_ (eI x0.X.AsOf) rfl (o_ld tk rfl rfl) ?_)))
              refine l_ hs128 eB rfl (o_ar tk rfl rfl rfl) fun v131 H130 => ?_
              refine mm tk (eB v131) rfl rfl ?_
              refine if_split H130 (fun hb H132 => ?_) (fun hb H132 => ?_)
              ·subst hb
               refine k_ rfl (k_ rfl (k_ rfl (k_ rfl (pt tk (eB true) rfl rfl rfl (wpo_nil ?_)))))
               have e := oi H132
               subst e
               exact ⟨(wc (wc (wc (wc (wkf_nil _))))), hH⟩
              ·subst hb
               refine mc tk (.fptr (c_api_Msg x0) 5) rfl rfl (fun _ => rfl) (mc tk (.fptr (c_api_Msg x0) 7) rfl rfl (fun _ => rfl) (m_ (eI x0.X.AsOf) rfl (o_ld tk rfl rfl) ?_))
               refine l_ H132 eB rfl (o_ar tk rfl rfl rfl) fun v134 H133 => ?_
               refine pf tk (eB v134) rfl rfl rfl (wpo_nil ?_)
               have e := oi H133
               subst e
               exact ⟨(wc (wc (wc (wc (wkf_nil _))))), hH⟩
            ·refine sr rfl ?_
             refine l_ H125 eB rfl (o_ar tk rfl rfl rfl) fun v144 H143 => ?_
             refine ma tk (eB v144) rfl rfl (wpo_nil ?_)
             refine awp_if H143 rfl (fun H145 => ?_) (fun H145 => ?_)
             ·refine awp_region rfl (mc tk (.ref id51 10) rfl rfl (fun _ => rfl) ?_)
              obtain ⟨c147, hc148, H146⟩ := lt_ex H145
              refine wpo_z rfl rfl (h_st tk hH 1 rfl ty4 (by simp) rfl rfl wr (b := (eB false)) rfl rfl (nb rfl) (c_api_Msg c147) (by rw [← hc148]; rfl)) fun τ hH => ?_
              refine wpo_nil ?_
              exact ⟨((c72.1, c72.2 + 1), c147), inj_inl H146, (wc (wc (wc (wkf_nil _)))), hH⟩
             ·refine sr rfl ?_
              refine l_ H145 eB rfl (o_ar tk rfl rfl rfl) fun v150 H149 => ?_
              refine ma tk (eB v150) rfl rfl (wpo_nil ?_)
              refine awp_if H149 rfl (fun H151 => ?_) (fun H151 => ?_)
              ·refine awp_seq (sr rfl (mc tk (.fptr (c_api_Msg x0) 10) rfl rfl (fun _ => rfl) (m_ (eB x0.Found) rfl (o_ld tk rfl rfl) ?_)))
               refine l_ H151 eB rfl (o_un tk rfl rfl) fun v153 H152 => ?_
               refine wpo_nil ?_
               refine awp_if H152 rfl (fun H154 => ?_) (fun H154 => ?_)
               ·refine awp_exit ?_
                exact ⟨((c72.1, c72.2 + 1), c73), inj_inl H154, (wc (wc (wc (wkf_nil _)))), hH⟩
               ·refine awp_skip (awp_seq (sr rfl (mc tk (.fptr (c_api_Msg x0) 5) rfl rfl (fun _ => rfl) (m_ (e_api_Entry x0.X) rfl (o_ld tk rfl rfl) ?_))))
                refine b_ H154 eErr rfl (fun v156 hv => OpP.of_call rfl rfl (.cons wr .nil) (item_Check_ok hv)) fun v156 hv156 H155 => ?_
                refine ma tk (eErr v156) rfl rfl (wpo_nil (sr rfl (mm tk (eErr v156) rfl rfl ?_)))
                refine l_ H155 eB rfl (o_err_neq tk rfl rfl rfl) fun v158 H157 => ?_
                refine wpo_nil ?_
                refine awp_if H157 rfl (fun H159 => ?_) (fun H159 => ?_)
                ·refine sr rfl (mc tk (.fptr (c_api_Msg x0) 4) rfl rfl (fun _ => rfl) (m_ (eI x0.Id) rfl (o_ld tk rfl rfl) (mm tk (eErr v156) rfl rfl ?_)))
                 refine b_ H159 eErr rfl (fun v161 hv => OpP.of_call rfl rfl (.cons wr (.cons wr (.cons wr .nil))) (trouble_Wrap_ok hv)) fun v161 hv161 H160 => ?_
                 refine ma tk (eErr v161) rfl rfl (wpo_nil (awp_ret ?_))
                 have hz := hy80 _ (inj_inr H160)
                 refine ⟨⟨_, inj_inr H160⟩, ?_⟩
                 rw [← hz] at hj76
                 have H162 := (show some _ = some _ from hj76)
                 obtain rfl := oi H162
                 exact ⟨_, (eErr v161), rfl, wr, .of_eq (encErr.cut _ _ _), ((hH.noT.drop n71).drop n52)⟩
                ·refine awp_skip (awp_region rfl (mc tk (.agg [(eS (⟨([] : List (BitVec 8)), (0 : Int), (0 : Int), (0 : Int), ([] : List (BitVec 8))⟩ : api_Entry).Key), (eI (⟨([] : List (BitVec 8)), (0 : Int), (0 : Int), (0 : Int), ([] : List (BitVec 8))⟩ : api_Entry).Version), (eI (⟨([] : List (BitVec 8)), (0 : Int), (0 : Int), (0 : Int), ([] : List (BitVec 8))⟩ : api_Entry).AsOf), (eI (⟨([] : List (BitVec 8)), (0 : Int), (0 : Int), (0 : Int), ([] : List (BitVec 8))⟩ : api_Entry).Ends), AV.nils]) rfl rfl (fun _ => rfl) (mc tk (.ref id51 5) rfl rfl (fun _ => rfl) ?_)))
                 obtain ⟨c164, hc165, H163⟩ := lt_ex H159
                 refine wpo_z rfl rfl (h_st (y := (.agg [(eS (⟨([] : List (BitVec 8)), (0 : Int), (0 : Int), (0 : Int), ([] : List (BitVec 8))⟩ : api_Entry).Key), (eI (⟨([] : List (BitVec 8)), (0 : Int), (0 : Int), (0 : Int), ([] : List (BitVec 8))⟩ : api_Entry).Version), (eI (⟨([] : List (BitVec 8)), (0 : Int), (0 : Int), (0 : Int), ([] : List (BitVec 8))⟩ : api_Entry).AsOf), (eI (⟨([] : List (BitVec 8)), (0 : Int), (0 : Int), (0 : Int), ([] : List (BitVec 8))⟩ : api_Entry).Ends), AV.nils])) tk hH 1 rfl ty33 (by simp) rfl rfl (wk_agg (.cons wr (.cons wr (.cons wr (.cons wr (.cons (wk_nils _) .nil)))))) (b := (e_api_Entry (⟨([] : List (BitVec 8)), (0 : Int), (0 : Int), (0 : Int), ([] : List (BitVec 8))⟩ : api_Entry))) (enc33.flat _) rfl (nb rfl) (c_api_Msg c164) (by rw [← hc165]; rfl)) fun τ hH => ?_
                 refine wpo_nil ?_
                 exact ⟨((c72.1, c72.2 + 1), c164), inj_inl H163, (wc (wc (wc (wkf_nil _)))), hH⟩
              ·refine awp_skip ?_
               exact ⟨((c72.1, c72.2 + 1), c73), inj_inl H151, (wc (wc (wc (wkf_nil _)))), hH⟩
      ·refine awp_region rfl (mc tk (.fptr (c_api_Msg x0) 3) rfl rfl (fun _ => rfl) (m_ (eI x0.Epoch) rfl (o_ld tk rfl rfl) ?_))
       refine l_ hs40 eB rfl (o_ar tk rfl rfl rfl) fun v43 H42 => ?_
       refine mm tk (eB v43) rfl rfl ?_
       refine if_split H42 (fun hb H44 => ?_) (fun hb H44 => ?_)
       ·subst hb
        refine k_ rfl (k_ rfl (k_ rfl (pt tk (eB true) rfl rfl rfl (ma tk (eB true) rfl rfl (wpo_nil ?_)))))
        have e := oi H44
        subst e
        exact ⟨(wc (wc (wkf_nil _))), hH⟩
       ·subst hb
        refine mc tk (.fptr (c_api_Msg x0) 3) rfl rfl (fun _ => rfl) (m_ (eI x0.Epoch) rfl (o_ld tk rfl rfl) ?_)
        refine l_ H44 eB rfl (o_ar tk rfl rfl rfl) fun v46 H45 => ?_
        refine pf tk (eB v46) rfl rfl rfl (ma tk (eB v46) rfl rfl (wpo_nil ?_))
        have e := oi H45
        subst e
        exact ⟨(wc (wc (wkf_nil _))), hH⟩
    ·refine awp_region rfl (mm tk (eI s16.1) rfl rfl ?_)
     refine l_ hs24 eB rfl (o_ar tk rfl rfl rfl) fun v27 H26 => ?_
     refine mm tk (eB v27) rfl rfl ?_
     refine if_split H26 (fun hb H28 => ?_) (fun hb H28 => ?_)
     ·subst hb
      refine k_ rfl (k_ rfl (pt tk (eB true) rfl rfl rfl (mm tk (eB true) rfl rfl (k_ rfl (k_ rfl (pt tk (eB true) rfl rfl rfl (ma tk (eB true) rfl rfl (wpo_nil ?_))))))))
      have e := oi H28
      subst e
      exact ⟨(wc (wc (wc (wkf_nil _)))), hH⟩
     ·subst hb
      refine mm tk (eI s16.1) rfl rfl ?_
      refine l_ H28 eB rfl (o_ar tk rfl rfl rfl) fun v30 H29 => ?_
      refine pf tk (eB v30) rfl rfl rfl (mm tk (eB v30) rfl rfl ?_)
      refine if_split H29 (fun hb H31 => ?_) (fun hb H31 => ?_)
      ·subst hb
       refine k_ rfl (k_ rfl (pt tk (eB true) rfl rfl rfl (ma tk (eB true) rfl rfl (wpo_nil ?_))))
       have e := oi H31
       subst e
       exact ⟨(wc (wc (wc (wkf_nil _)))), hH⟩
      ·subst hb
       refine mm tk (eI s16.2) rfl rfl ?_
       refine l_ H31 eB rfl (o_ar tk rfl rfl rfl) fun v33 H32 => ?_
       refine pf tk (eB v33) rfl rfl rfl (ma tk (eB v33) rfl rfl (wpo_nil ?_))
       have e := oi H32
       subst e
       exact ⟨(wc (wc (wc (wkf_nil _)))), hH⟩
   ·refine awp_if hs18 rfl (fun H20 => ?_) (fun H20 => ?_)
    ·refine awp_region rfl (mm tk (eI x0.To) rfl rfl (mm tk (eI x0.From) rfl rfl (ma tk (eI x0.To) rfl rfl (ma tk (eI x0.From) rfl rfl (wpo_nil ?_)))))
     have e := oi H20
     subst e
     exact ⟨(wc (wc (wc (wkf_nil _)))), hH⟩
    ·refine awp_skip ?_
     have e := oi H20
     subst e
     exact ⟨(wc (wc (wc (wkf_nil _)))), hH⟩
 ·refine awp_region rfl (mc tk (.fptr (c_api_Msg x0) 0) rfl rfl (fun _ => rfl) (m_ (eI x0.Kind) rfl (o_ld tk rfl rfl) ?_))
  refine l_ hs3 eB rfl (o_ar tk rfl rfl rfl) fun v6 H5 => ?_
  refine mm tk (eB v6) rfl rfl ?_
  refine if_split H5 (fun hb H7 => ?_) (fun hb H7 => ?_)
  ·subst hb
   refine k_ rfl (k_ rfl (k_ rfl (pt tk (eB true) rfl rfl rfl (wpo_nil ?_))))
   have e := oi H7
   subst e
   exact ⟨(wc (wc (wkf_nil _))), hH⟩
  ·subst hb
   refine mc tk (.fptr (c_api_Msg x0) 0) rfl rfl (fun _ => rfl) (m_ (eI x0.Kind) rfl (o_ld tk rfl rfl) ?_)
   refine l_ H7 eB rfl (o_ar tk rfl rfl rfl) fun v9 H8 => ?_
   refine pf tk (eB v9) rfl rfl rfl (wpo_nil ?_)
   have e := oi H8
   subst e
   exact ⟨(wc (wc (wkf_nil _))), hH⟩
theorem checksum_Four_ok {x0 : BitVec 32} {r : (List (BitVec 8))} (H : checksum_Four x0 = some r) (σ : St)  : ACall Tryd.prog 44 [((@eU .u32 32) x0)] σ (fun a τ => a = (eA (@eU .u8 8)) r ∧ τ = σ) := by
 unfold checksum_Four at H
 refine ACall.pure (acall_start tk Tryd.func44 (by decide) rfl (nb rfl) ?_)
 have hH := Holds.init σ
 refine sr rfl ?_
 refine wpo_a (av := fun id => .ref id 0) rfl rfl rfl (h_alloc tk hH ty94 (cL (@eU .u8 8) (List.replicate 4 0#8)) rfl) fun id1 τ ⟨hH, n2⟩ => ?_
 refine wpo_nil (sr rfl (mm tk ((@eU .u32 32) x0) rfl rfl ?_))
 refine l_ H (@eU .u8 8) rfl (o_cv_uu tk td96 td5 rfl rfl) fun v4 H3 => ?_
 refine mm tk ((@eU .u32 32) x0) rfl rfl ?_
 refine l_ H3 (@eU .u32 32) rfl (o_shr_u tk rfl (y := (8 : Int)) rfl rfl rfl) fun v6 H5 => ?_
 refine l_ H5 (@eU .u8 8) rfl (o_cv_uu tk td96 td5 rfl rfl) fun v8 H7 => ?_
 refine mm tk ((@eU .u32 32) x0) rfl rfl ?_
 refine l_ H7 (@eU .u32 32) rfl (o_shr_u tk rfl (y := (16 : Int)) rfl rfl rfl) fun v10 H9 => ?_
 refine l_ H9 (@eU .u8 8) rfl (o_cv_uu tk td96 td5 rfl rfl) fun v12 H11 => ?_
 refine mm tk ((@eU .u32 32) x0) rfl rfl ?_
 refine l_ H11 (@eU .u32 32) rfl (o_shr_u tk rfl (y := (24 : Int)) rfl rfl rfl) fun v14 H13 => ?_
 refine l_ H13 (@eU .u8 8) rfl (o_cv_uu tk td96 td5 rfl rfl) fun v16 H15 => ?_
 refine l_ H15 (eA (@eU .u8 8)) rfl (o_c tk false rfl (fun _ => rfl)) fun v18 H17 => ?_
 obtain ⟨c20, hc21, H19⟩ := ob H17
 refine wpo_z rfl rfl (h_stw tk hH 0 hc21 rfl (enc_u td5 sz5) ty94 rfl (by simp) rfl rfl) fun τ hH => ?_
 refine wpo_nil (awp_ret ?_)
 obtain ⟨w22, hw22, H23⟩ := ob H19
 obtain ⟨hw22, rfl⟩ := whole_some hw22
 obtain rfl := oi H23
 exact ⟨_, ((eA (@eU .u8 8)) w22), (ares_1 (ares_cell hH 0 rfl rfl (acut_whole (enc_u td5 sz5) td94 sz94 rfl (hw22)) (hsp := spcl_cL (enc_u td5 sz5) _))), wr, .of_eq ((cut_eA (enc_u td5 sz5).cut) _ _ _), (hH.noT.drop n2)⟩
theorem checksum_column_ok {x0 : BitVec 8} {r : (BitVec 32)} (H : checksum_column x0 = some r) (σ : St)  : ACall Tryd.prog 61 [((@eU .u8 8) x0)] σ (fun a τ => a = (@eU .u32 32) r ∧ τ = σ) := by
 unfold checksum_column at H
 refine ACall.pure (acall_start tk Tryd.func61 (by decide) rfl (nb rfl) ?_)
 have hH := Holds.init σ
 refine sr rfl (ma tk ((@eU .u32 32) 0#32) rfl rfl (wpo_nil (sr rfl (mm tk ((@eU .u8 8) x0) rfl rfl ?_))))
 refine l_ H (@eU .u32 32) rfl (o_cv_uu tk td5 td96 rfl rfl) fun v2 H1 => ?_
 refine ma tk ((@eU .u32 32) v2) rfl rfl (wpo_nil (awp_seq (sr rfl (mm tk (eI (0 : Int)) rfl rfl (wpo_nil (awp_block ?_))))))
 obtain ⟨s12, hs6, hj7⟩ := ob H1
 refine awp_cutx 0 (fun fr τ => WkF fr (fm [(3, ((@eU .u32 32) s12))]) ∧ Holds σ [] [] τ) ?_ ?_
 ·rintro fr τ ⟨hfr, hH⟩
  have H32 := hj7
  refine AWP.fm [(3, ((@eU .u32 32) s12))] hfr ?_
  refine sr rfl (mm tk ((@eU .u32 32) s12) rfl rfl (ma tk ((@eU .u32 32) s12) rfl rfl (wpo_nil (awp_ret ?_))))
  obtain rfl := oi H32
  exact ⟨_, ((@eU .u32 32) s12), rfl, wr, .of_eq ((enc_u td96 sz96).cut _ _ _), hH.noT⟩
 ·refine awp_loopO (body := fun s => checksum_column_b0 s.1 s.2) hs6 (fun (s : (BitVec 32) × Int) fr τ => WkF fr (fm [(3, ((@eU .u32 32) s.1)), (6, (eI s.2))]) ∧ Holds σ [] [] τ) ⟨(wc (wc (wkf_nil _))), hH⟩ ?_
  rintro ⟨c3, c4⟩ fr τ y8 ⟨hfr, hH⟩ hb10 hy11
  have H13 : checksum_column_b0 c3 c4 = some y8 := hb10
  unfold checksum_column_b0 at H13
  refine AWP.fm [(3, ((@eU .u32 32) c3)), (6, (eI c4))] hfr ?_
  have hH : Holds σ [] [] τ := hH
  refine sr rfl ?_
  refine l_ H13 eB rfl (o_ar tk rfl rfl rfl) fun v15 H14 => ?_
  refine wpo_nil (awp_seq ?_)
  refine awp_if H14 rfl (fun H16 => ?_) (fun H16 => ?_)
  ·refine awp_skip (awp_seq (awp_block (sr rfl (mm tk ((@eU .u32 32) c3) rfl rfl ?_))))
   refine l_ H16 (@eU .u32 32) rfl (o_and_u tk rfl rfl rfl) fun v18 H17 => ?_
   refine l_ H17 eB rfl (o_eql_u tk rfl rfl) fun v20 H19 => ?_
   refine wpo_nil ?_
   refine awp_if H19 rfl (fun H21 => ?_) (fun H21 => ?_)
   ·refine awp_region rfl (mm tk ((@eU .u32 32) c3) rfl rfl ?_)
    refine l_ H21 (@eU .u32 32) rfl (o_shr_u tk rfl (y := (1 : Int)) rfl rfl rfl) fun v23 H22 => ?_
    refine l_ H22 (@eU .u32 32) rfl (o_xor_u tk rfl rfl rfl) fun v25 H24 => ?_
    refine ma tk ((@eU .u32 32) v25) rfl rfl (wpo_nil (awp_region rfl ?_))
    refine l_ H24 eI rfl (o_ar tk rfl rfl rfl) fun v27 H26 => ?_
    refine mm tk (eI v27) rfl rfl (wpo_nil ?_)
    exact ⟨(v25, v27), inj_inl H26, (wc (wc (wkf_nil _))), hH⟩
   ·refine awp_region rfl (mm tk ((@eU .u32 32) c3) rfl rfl ?_)
    refine l_ H21 (@eU .u32 32) rfl (o_shr_u tk rfl (y := (1 : Int)) rfl rfl rfl) fun v29 H28 => ?_
    refine ma tk ((@eU .u32 32) v29) rfl rfl (wpo_nil (awp_region rfl ?_))
    refine l_ H28 eI rfl (o_ar tk rfl rfl rfl) fun v31 H30 => ?_
    refine mm tk (eI v31) rfl rfl (wpo_nil ?_)
    exact ⟨(v29, v31), inj_inl H30, (wc (wc (wkf_nil _))), hH⟩
  ·refine awp_exit ?_
   have hz := hy11 _ (inj_inr H16)
   subst hz
   exact ⟨⟨_, inj_inr H16⟩, (wc (wkf_nil _)), hH⟩
theorem checksum_More_ok {x0 : BitVec 32} {x1 : List (BitVec 8)} {r : (BitVec 32)} (H : checksum_More x0 x1 = some r) (σ : St)  : ACall Tryd.prog 58 [((@eU .u32 32) x0), ((eL 1 (@eU .u8 8)) x1)] σ (fun a τ => a = (@eU .u32 32) r ∧ τ = σ) := by
 unfold checksum_More at H
 refine ACall.pure (acall_start tk Tryd.func58 (by decide) rfl (nb rfl) ?_)
 have hH := Holds.init σ
 refine sr rfl (ma tk ((@eU .u32 32) 0#32) rfl rfl (wpo_nil (sr rfl (mm tk ((@eU .u32 32) x0) rfl rfl ?_))))
 refine l_ H (@eU .u32 32) rfl (o_not_u tk rfl rfl) fun v2 H1 => ?_
 refine ma tk ((@eU .u32 32) v2) rfl rfl (wpo_nil (awp_seq (sr rfl (mm tk ((eL 1 (@eU .u8 8)) x1) rfl rfl ?_))))
 refine l_ H1 eI rfl (o_len tk td31 rfl) fun v4 H3 => ?_
 refine mm tk (eI (0 : Int)) rfl rfl (wpo_nil (awp_block ?_))
 obtain ⟨s14, hs8, hj9⟩ := ob H3
 refine awp_cutx 0 (fun fr τ => WkF fr (fm [(5, ((@eU .u32 32) s14))]) ∧ Holds σ [] [] τ) ?_ ?_
 ·rintro fr τ ⟨hfr, hH⟩
  have H33 := hj9
  refine AWP.fm [(5, ((@eU .u32 32) s14))] hfr ?_
  refine sr rfl (mm tk ((@eU .u32 32) s14) rfl rfl ?_)
  refine l_ H33 (@eU .u32 32) rfl (o_not_u tk rfl rfl) fun v35 H34 => ?_
  refine ma tk ((@eU .u32 32) v35) rfl rfl (wpo_nil (awp_ret ?_))
  obtain rfl := oi H34
  exact ⟨_, ((@eU .u32 32) v35), rfl, wr, .of_eq ((enc_u td96 sz96).cut _ _ _), hH.noT⟩
 ·refine awp_loopO (body := fun s => checksum_More_b0 x1 v4 s.1 s.2) hs8 (fun (s : (BitVec 32) × Int) fr τ => WkF fr (fm [(5, ((@eU .u32 32) s.1)), (10, ((eL 1 (@eU .u8 8)) x1)), (11, (eI v4)), (12, (eI s.2))]) ∧ Holds σ [] [] τ) ⟨(wc (wc (wc (wc (wkf_nil _))))), hH⟩ ?_
  rintro ⟨c5, c6⟩ fr τ y10 ⟨hfr, hH⟩ hb12 hy13
  have H15 : checksum_More_b0 x1 v4 c5 c6 = some y10 := hb12
  unfold checksum_More_b0 at H15
  refine AWP.fm [(5, ((@eU .u32 32) c5)), (10, ((eL 1 (@eU .u8 8)) x1)), (11, (eI v4)), (12, (eI c6))] hfr ?_
  have hH : Holds σ [] [] τ := hH
  refine sr rfl ?_
  refine l_ H15 eB rfl (o_ar tk rfl rfl rfl) fun v17 H16 => ?_
  refine wpo_nil (awp_seq ?_)
  refine awp_if H16 rfl (fun H18 => ?_) (fun H18 => ?_)
  ·refine awp_skip (awp_seq (awp_block (sr rfl ?_)))
   refine b_ H18 (fun y => .fptr ((@eU .u8 8) y).cells 0) rfl (fun v20 hv => o_ixa tk hv td31 (enc_u td5 sz5) rfl rfl) fun v20 hv20 H19 => ?_
   refine m_ ((@eU .u8 8) v20) rfl (o_ld_e tk (enc_u td5 sz5) rfl rfl) (ma tk ((@eU .u8 8) v20) rfl rfl (wpo_nil (awp_region rfl (mm tk ((@eU .u32 32) c5) rfl rfl ?_))))
   refine l_ H19 (@eU .u32 32) rfl (o_shr_u tk rfl (y := (8 : Int)) rfl rfl rfl) fun v22 H21 => ?_
   refine mm tk ((@eU .u32 32) c5) rfl rfl ?_
   refine l_ H21 (@eU .u8 8) rfl (o_cv_uu tk td96 td5 rfl rfl) fun v24 H23 => ?_
   refine mm tk ((@eU .u8 8) v20) rfl rfl ?_
   refine l_ H23 (@eU .u8 8) rfl (o_xor_u tk rfl rfl rfl) fun v26 H25 => ?_
   refine b_ H25 (@eU .u32 32) rfl (fun v28 hv => OpP.of_call rfl rfl (.cons wr .nil) (checksum_column_ok hv)) fun v28 hv28 H27 => ?_
   refine l_ H27 (@eU .u32 32) rfl (o_xor_u tk rfl rfl rfl) fun v30 H29 => ?_
   refine ma tk ((@eU .u32 32) v30) rfl rfl (wpo_nil (awp_region rfl ?_))
   refine l_ H29 eI rfl (o_ar tk rfl rfl rfl) fun v32 H31 => ?_
   refine mm tk (eI v32) rfl rfl (wpo_nil ?_)
   exact ⟨(v30, v32), inj_inl H31, (wc (wc (wc (wc (wkf_nil _))))), hH⟩
  ·refine awp_exit ?_
   have hz := hy13 _ (inj_inr H18)
   subst hz
   exact ⟨⟨_, inj_inr H18⟩, (wc (wkf_nil _)), hH⟩
theorem checksum_Sum_ok {x0 : List (BitVec 8)} {r : (BitVec 32)} (H : checksum_Sum x0 = some r) (σ : St)  : ACall Tryd.prog 45 [((eL 1 (@eU .u8 8)) x0)] σ (fun a τ => a = (@eU .u32 32) r ∧ τ = σ) := by
 unfold checksum_Sum at H
 refine ACall.pure (acall_start tk Tryd.func45 (by decide) rfl (nb rfl) ?_)
 have hH := Holds.init σ
 refine sr rfl (ma tk ((@eU .u32 32) 0#32) rfl rfl (wpo_nil (sr rfl (mm tk ((eL 1 (@eU .u8 8)) x0) rfl rfl ?_))))
 refine b_ H (@eU .u32 32) rfl (fun v2 hv => OpP.of_call rfl rfl (.cons wr (.cons wr .nil)) (checksum_More_ok hv)) fun v2 hv2 H1 => ?_
 refine ma tk ((@eU .u32 32) v2) rfl rfl (wpo_nil (awp_ret ?_))
 obtain rfl := oi H1
 exact ⟨_, ((@eU .u32 32) v2), rfl, wr, .of_eq ((enc_u td96 sz96).cut _ _ _), hH.noT⟩
theorem checksum_Fits_ok {x0 : List (BitVec 8)} {r : Bool} (H : checksum_Fits x0 = some r) (σ : St)  : ACall Tryd.prog 46 [((eL 1 (@eU .u8 8)) x0)] σ (fun a τ => a = eB r ∧ τ = σ) := by
 unfold checksum_Fits at H
 refine ACall.pure (acall_start tk Tryd.func46 (by decide) rfl (nb rfl) ?_)
 have hH := Holds.init σ
 refine sr rfl (ma tk (eB false) rfl rfl (wpo_nil (sr rfl (mm tk ((eL 1 (@eU .u8 8)) x0) rfl rfl ?_))))
 refine l_ H eI rfl (o_len tk td31 rfl) fun v2 H1 => ?_
 refine l_ H1 eI rfl (o_ar tk rfl rfl rfl) fun v4 H3 => ?_
 refine ma tk (eI v4) rfl rfl (wpo_nil (awp_seq (sr rfl (mm tk (eI v4) rfl rfl ?_))))
 refine l_ H3 eB rfl (o_ar tk rfl rfl rfl) fun v6 H5 => ?_
 refine wpo_nil ?_
 refine awp_if H5 rfl (fun H7 => ?_) (fun H7 => ?_)
 ·refine sr rfl (ma tk (eB false) rfl rfl (wpo_nil (awp_ret ?_)))
  obtain rfl := oi H7
  exact ⟨_, (eB false), rfl, wr, .of_eq ((enc_b td4 sz4).cut _ _ _), hH.noT⟩
 ·refine awp_skip (awp_seq ?_)
  refine awp_drawS mixed [] rfl (by decide +kernel) rfl rfl ?_
  refine wpdS_mv (a := ((eL 1 (@eU .u8 8)) x0)) rfl rfl rfl (o_mv tk rfl (Wk.refl _)) (wpdS_mv (a := (eI v4)) rfl rfl rfl (o_mv tk rfl (Wk.refl _)) ?_)
  refine wpdS_bd H7 (eL 1 (@eU .u8 8)) rfl rfl rfl (fun v9 hv => o_cutTo tk hv td31 (enc_u td5 sz5) rfl rfl) fun v9 hv9 H8 => ?_
  refine wpdS_bd H8 (@eU .u32 32) rfl rfl rfl (fun v11 hv => OpP.of_call rfl rfl (.cons wr .nil) (checksum_Sum_ok hv)) fun v11 hv11 H10 => ?_
  refine wpdS_bd H10 (eA (@eU .u8 8)) rfl rfl rfl (fun v13 hv => OpP.of_call rfl rfl (.cons wr .nil) (checksum_Four_ok hv)) fun v13 hv13 H12 => ?_
  refine wpdS_mv (a := ((eL 1 (@eU .u8 8)) x0)) rfl rfl rfl (o_mv tk rfl (Wk.refl _)) (wpdS_mv (a := (eI v4)) rfl rfl rfl (o_mv tk rfl (Wk.refl _)) ?_)
  refine wpdS_bd H12 (eL 1 (@eU .u8 8)) rfl rfl rfl (fun v15 hv => o_cutFrom tk hv td31 (enc_u td5 sz5) rfl rfl) fun v15 hv15 H14 => ?_
  refine wpdS_bd H14 (fun z => .fptr (cL (@eU .u8 8) z) 0) rfl rfl rfl (fun v17 hv => o_arr tk hv td94 (enc_u td5 sz5) (by decide) rfl) fun v17 hv17 H16 => ?_
  refine wpdS_bd H16 (eA (@eU .u8 8)) rfl rfl rfl (fun v19 hv => o_ldw tk hv (enc_u td5 sz5) td94 sz94 rfl rfl) fun v19 hv19 H18 => ?_
  refine wpdS_bd H18 eB rfl rfl rfl (fun v21 hv => om_eql_a tk hv td94 td5 sz5 rfl rfl) fun v21 hv21 H20 => ?_
  refine wpdS_mv (a := (eB v21)) rfl rfl rfl (o_as tk rfl (Wk.refl _)) (wpdS_nil (awp_ret ?_))
  obtain rfl := oi H20
  exact ⟨_, (eB v21), rfl, wr, .of_eq ((enc_b td4 sz4).cut _ _ _), hH.noT⟩
theorem octets_Read_ok {x0 : List (BitVec 8)} {r : octets_Reader} (H : octets_Read x0 = some r) (σ : St)  : ACall Tryd.prog 47 [((eL 1 (@eU .u8 8)) x0)] σ (fun a τ => a = .ref σ.objs.length 0 ∧ τ = ⟨σ.objs ++ [(c_octets_Reader r)], σ.opn, σ.gl⟩) := by
 unfold octets_Read at H
 refine ACall.new (fun ρ κ => c_octets_Reader_cut ρ κ r) (acall_start tk Tryd.func47 (by decide) rfl (nb rfl) ?_)
 have hH := Holds.init σ
 refine sr rfl (ma tk .nilp rfl rfl (wpo_nil (sr rfl (mc tk (eF 1 (@eU .u8 8) ([] : List (BitVec 8))) rfl rfl (fun _ => rfl) (mm tk ((eL 1 (@eU .u8 8)) x0) rfl rfl ?_)))))
 obtain ⟨v2, hv3, H1⟩ := ob H
 refine wpo_a (av := fun t => eT t 1 (@eU .u8 8) v2) rfl rfl rfl (h_app0 tk hH hv3 td31 ty5 rfl (by decide) (.inr rfl) (src_l td31 rfl)) fun tk4 τ hH => ?_
 refine l_ H1 e_octets_Reader rfl (OpP.wk (wkf_up (t := 5) (a := ((eL 1 (@eU .u8 8)) v2)) wk_no) (o_c tk false rfl (fun _ => rfl))) fun v6 H5 => ?_
 refine wpo_a (av := fun id => .ref id 0) rfl rfl rfl (h_box tk hH rfl wr (b := (e_octets_Reader v6)) (enc123.flat _) (c_octets_Reader v6) rfl) fun id7 τ ⟨hH, n8⟩ => ?_
 refine ma tk (.ref id7 0) rfl rfl (wpo_nil (awp_ret ?_))
 obtain rfl := oi H5
 exact ⟨_, .ref id7 0, rfl, .of_eq rfl, id7, rfl, n8, hH.noT⟩
theorem octets_Reader_Fail_ok {x0 : octets_Reader} {x1 : Int} {r : octets_Reader} (H : octets_Reader_Fail x0 x1 = some r) (σ : St) {p0 : Nat} (h0 : σ.objs[p0]? = some (c_octets_Reader x0)) : ACall Tryd.prog 59 [(.ref p0 0), (eI x1)] σ (fun a τ => a = .tup [] ∧ τ = σ.puts [(p0, (c_octets_Reader r))]) := by
 unfold octets_Reader_Fail at H
 refine ACall.out [(p0, (c_octets_Reader r))] (by simp only [List.mem_cons, List.not_mem_nil, or_false]; rintro _ (rfl) ρ κ <;> exact c_octets_Reader_cut ρ κ _) (acall_start tk Tryd.func59 (by decide) rfl (nb rfl) ?_)
 have hH := Holds.init σ
 have hH := hH.bring h0 (fun _ h => by cases h)
 refine sr rfl (mm tk (.ref p0 0) rfl rfl (mc tk (.ref p0 0) rfl rfl (fun _ => rfl) (mc tk (.ref p0 2) rfl rfl (fun _ => rfl) (wpo_rd (a := (eI x0.code)) rfl rfl rfl (h_ld tk hH 0 rfl rfl rfl) ?_))))
 refine l_ H eB rfl (o_ar tk rfl rfl rfl) fun v2 H1 => ?_
 refine wpo_nil ?_
 refine awp_if H1 rfl (fun H3 => ?_) (fun H3 => ?_)
 ·refine awp_region rfl (mm tk (.ref p0 0) rfl rfl (mm tk (eI x1) rfl rfl (mc tk (.ref p0 0) rfl rfl (fun _ => rfl) (mc tk (.ref p0 2) rfl rfl (fun _ => rfl) ?_))))
  obtain ⟨c5, hc6, H4⟩ := lt_ex H3
  refine wpo_z rfl rfl (h_st tk hH 0 rfl ty46 (by simp) rfl rfl wr (b := (eI x1)) rfl rfl (nb rfl) (c_octets_Reader c5) (by rw [← hc6]; rfl)) fun τ hH => ?_
  refine wpo_nil ?_
  obtain rfl := oi H4
  exact ⟨_, (.tup []), rfl, wr, .of_eq rfl, hH.noT⟩
 ·refine awp_skip ?_
  obtain rfl := oi H3
  exact ⟨_, (.tup []), rfl, wr, .of_eq rfl, hH.noT⟩
theorem octets_Reader_Number_ok {x0 : octets_Reader} {x1 : Int} {r : Int × octets_Reader} (H : octets_Reader_Number x0 x1 = some r) (σ : St) {p0 : Nat} (h0 : σ.objs[p0]? = some (c_octets_Reader x0)) : ACall Tryd.prog 48 [(.ref p0 0), (eI x1)] σ (fun a τ => a = eI r.1 ∧ τ = σ.puts [(p0, (c_octets_Reader r.2))]) := by
 unfold octets_Reader_Number at H
 refine ACall.out [(p0, (c_octets_Reader r.2))] (by simp only [List.mem_cons, List.not_mem_nil, or_false]; rintro _ (rfl) ρ κ <;> exact c_octets_Reader_cut ρ κ _) (acall_start tk Tryd.func48 (by decide) rfl (nb rfl) ?_)
 have hH := Holds.init σ
 have hH := hH.bring h0 (fun _ h => by cases h)
 refine sr rfl (ma tk (eI (0 : Int)) rfl rfl (wpo_nil (awp_seq ?_)))
 refine awp_drawS mixed [] rfl (by decide +kernel) rfl rfl ?_
 refine wpdS_mv (a := (.ref p0 0)) rfl rfl rfl (o_mv tk rfl (Wk.refl _)) (wpdS_mv (a := (.ref p0 0)) rfl rfl rfl (o_c tk false rfl (fun _ => rfl)) (wpdS_mv (a := (.ref p0 1)) rfl rfl rfl (o_c tk false rfl (fun _ => rfl)) (wpdS_rd (a := (eI x0.at_)) rfl (by decide +kernel) rfl rfl (h_ld tk hH 0 rfl rfl rfl) (wpdS_mv (a := (eI (0 : Int))) rfl rfl rfl (o_as tk rfl (Wk.refl _)) (wpdS_mv (a := (eI x0.at_)) rfl rfl rfl (o_as tk rfl (Wk.refl _)) (wpdS_nil (awp_seq (awp_block ?_))))))))
 obtain ⟨o4, hs5, hj6⟩ := ob H
 refine awp_cutx 0 (fun fr τ => ∃ s11 : octets_Reader, o4 = .inl s11 ∧ WkF fr (fm []) ∧ Holds σ [(p0, (c_octets_Reader s11))] [] τ) ?_ ?_
 ·rintro fr τ ⟨s11, rfl, hfr, hH⟩
  have H78 := hj6
  simp only [Sum.elim_inl] at H78
  refine AWP.fm [] hfr ?_
  refine sr rfl (ma tk (eI (0 : Int)) rfl rfl (wpo_nil (awp_ret ?_)))
  obtain rfl := oi H78
  exact ⟨_, (eI (0 : Int)), rfl, wr, .of_eq ((enc_i64 td3 sz3).cut _ _ _), hH.noT⟩
 ·refine awp_loopO (body := fun s => octets_Reader_Number_b0 x1 s.1 s.2.1 s.2.2) hs5 (fun (s : Int × Int × octets_Reader) fr τ => WkF fr (fm [(0, (.ref p0 0)), (1, (eI x1)), (5, (eI s.1)), (6, (eI s.2.1))]) ∧ Holds σ [(p0, (c_octets_Reader s.2.2))] [] τ) ⟨(wc (wc (wc (wc (wkf_nil _))))), hH⟩ ?_
  rintro ⟨c1, c2, c3⟩ fr τ y7 ⟨hfr, hH⟩ hb9 hy10
  have H12 : octets_Reader_Number_b0 x1 c1 c2 c3 = some y7 := hb9
  unfold octets_Reader_Number_b0 at H12
  refine AWP.fm [(0, (.ref p0 0)), (1, (eI x1)), (5, (eI c1)), (6, (eI c2))] hfr ?_
  have hH : Holds σ [(p0, (c_octets_Reader c3))] [] τ := hH
  refine awp_seq (sr rfl (mm tk (.ref p0 0) rfl rfl (mc tk (.ref p0 0) rfl rfl (fun _ => rfl) (mc tk (.ref p0 2) rfl rfl (fun _ => rfl) (wpo_rd (a := (eI c3.code)) rfl rfl rfl (h_ld tk hH 0 rfl rfl rfl) ?_)))))
  refine l_ H12 eB rfl (o_ar tk rfl rfl rfl) fun v14 H13 => ?_
  refine wpo_nil ?_
  refine awp_if H13 rfl (fun H15 => ?_) (fun H15 => ?_)
  ·refine awp_skip (awp_block (awp_seq (sr rfl (mm tk (eI c2) rfl rfl (mm tk (.ref p0 0) rfl rfl (mc tk (.ref p0 0) rfl rfl (fun _ => rfl) (mc tk (.ref p0 0) rfl rfl (fun _ => rfl) (wpo_rd (a := ((eL 1 (@eU .u8 8)) c3.b)) rfl rfl rfl (h_ld tk hH 0 rfl rfl rfl) ?_))))))))
   refine l_ H15 eI rfl (o_len tk td31 rfl) fun v17 H16 => ?_
   refine l_ H16 eB rfl (o_ar tk rfl rfl rfl) fun v19 H18 => ?_
   refine wpo_nil ?_
   refine awp_if H18 rfl (fun H20 => ?_) (fun H20 => ?_)
   ·refine sr rfl (mm tk (.ref p0 0) rfl rfl ?_)
    refine wpo_cb H20 (fun x _ => .tup []) rfl rfl rfl (fun v22 hv => h_call1 hH [(0, (p0, (c_octets_Reader v22)))] ⟨⟨_, rfl⟩, trivial⟩ rfl rfl (.cons wr (.cons wr .nil)) (octets_Reader_Fail_ok hv _ (hH.at_ 0 rfl))) fun v22 _ τ hv22 H21 hH => ?_
    refine wpo_nil (awp_exit ?_)
    have hz := hy10 _ (inj_inr H21)
    exact ⟨⟨_, inj_inr H21⟩, v22, hz.symm, (wkf_nil _), hH⟩
   ·refine awp_skip (sr rfl (mm tk (.ref p0 0) rfl rfl (mc tk (.ref p0 0) rfl rfl (fun _ => rfl) (mc tk (.ref p0 0) rfl rfl (fun _ => rfl) (wpo_rd (a := ((eL 1 (@eU .u8 8)) c3.b)) rfl rfl rfl (h_ld tk hH 0 rfl rfl rfl) (mm tk (eI c2) rfl rfl ?_))))))
    refine b_ H20 (fun y => .fptr ((@eU .u8 8) y).cells 0) rfl (fun v24 hv => o_ixa tk hv td31 (enc_u td5 sz5) rfl rfl) fun v24 hv24 H23 => ?_
    refine m_ ((@eU .u8 8) v24) rfl (o_ld_e tk (enc_u td5 sz5) rfl rfl) (ma tk ((@eU .u8 8) v24) rfl rfl (wpo_nil (sr rfl (mm tk (eI c2) rfl rfl ?_))))
    refine l_ H23 eI rfl (o_ar tk rfl rfl rfl) fun v26 H25 => ?_
    refine ma tk (eI v26) rfl rfl (wpo_nil (awp_block (awp_seq ?_)))
    obtain ⟨s27, hs29, hj30⟩ := ob H25
    refine awp_cutn (fun fr τ => WkF fr (fm [(0, (.ref p0 0)), (1, (eI x1)), (5, (eI c1)), (6, (eI v26)), (7, ((@eU .u8 8) v24)), (50, (eB s27))]) ∧ Holds σ [(p0, (c_octets_Reader c3))] [] τ) ?_ ?_
    ·rintro fr τ ⟨hfr, hH⟩
     have H41 := hj30
     refine AWP.fm [(0, (.ref p0 0)), (1, (eI x1)), (5, (eI c1)), (6, (eI v26)), (7, ((@eU .u8 8) v24)), (50, (eB s27))] hfr ?_
     refine awp_if H41 rfl (fun H42 => ?_) (fun H42 => ?_)
     ·refine awp_region rfl (mm tk (.ref p0 0) rfl rfl ?_)
      refine wpo_cb H42 (fun x _ => .tup []) rfl rfl rfl (fun v44 hv => h_call1 hH [(0, (p0, (c_octets_Reader v44)))] ⟨⟨_, rfl⟩, trivial⟩ rfl rfl (.cons wr (.cons wr .nil)) (octets_Reader_Fail_ok hv _ (hH.at_ 0 rfl))) fun v44 _ τ hv44 H43 hH => ?_
      refine wpo_nil ?_
      exact ⟨(c1, v26, v44), inj_inl H43, (wc (wc (wc (wc (wkf_nil _))))), hH⟩
     ·refine sr rfl (mm tk (eI c1) rfl rfl (mm tk (eI x1) rfl rfl ?_))
      refine l_ H42 eI rfl (o_shr tk (y := (7 : Int)) rfl rfl rfl) fun v46 H45 => ?_
      refine l_ H45 eB rfl (o_ar tk rfl rfl rfl) fun v48 H47 => ?_
      refine ma tk (eB v48) rfl rfl (wpo_nil ?_)
      refine awp_if H47 rfl (fun H49 => ?_) (fun H49 => ?_)
      ·refine awp_region rfl (mm tk (.ref p0 0) rfl rfl ?_)
       refine wpo_cb H49 (fun x _ => .tup []) rfl rfl rfl (fun v51 hv => h_call1 hH [(0, (p0, (c_octets_Reader v51)))] ⟨⟨_, rfl⟩, trivial⟩ rfl rfl (.cons wr (.cons wr .nil)) (octets_Reader_Fail_ok hv _ (hH.at_ 0 rfl))) fun v51 _ τ hv51 H50 hH => ?_
       refine wpo_nil ?_
       exact ⟨(c1, v26, v51), inj_inl H50, (wc (wc (wc (wc (wkf_nil _))))), hH⟩
      ·refine sr rfl (mm tk ((@eU .u8 8) v24) rfl rfl ?_)
       refine l_ H49 eB rfl (o_geq_u tk rfl rfl) fun v53 H52 => ?_
       refine ma tk (eB v53) rfl rfl (wpo_nil ?_)
       refine awp_if H52 rfl (fun H54 => ?_) (fun H54 => ?_)
       ·refine sr rfl (mm tk (eI c1) rfl rfl ?_)
        refine l_ H54 eI rfl (o_shl tk (y := (7 : Int)) rfl rfl rfl) fun v56 H55 => ?_
        refine mm tk ((@eU .u8 8) v24) rfl rfl ?_
        refine l_ H55 (@eU .u8 8) rfl (o_and_u tk rfl rfl rfl) fun v58 H57 => ?_
        refine l_ H57 eI rfl (o_cv_ui tk td5 td3 (by decide) rfl) fun v60 H59 => ?_
        refine l_ H59 eI rfl (o_ar tk rfl rfl rfl) fun v62 H61 => ?_
        refine ma tk (eI v62) rfl rfl (wpo_nil (awp_exit ?_))
        exact ⟨(v62, v26, c3), inj_inl H61, (wc (wc (wc (wc (wkf_nil _))))), hH⟩
       ·refine awp_seq (sr rfl (mm tk (eI c1) rfl rfl ?_))
        refine l_ H54 eI rfl (o_shl tk (y := (7 : Int)) rfl rfl rfl) fun v64 H63 => ?_
        refine mm tk ((@eU .u8 8) v24) rfl rfl ?_
        refine l_ H63 eI rfl (o_cv_ui tk td5 td3 (by decide) rfl) fun v66 H65 => ?_
        refine l_ H65 eI rfl (o_ar tk rfl rfl rfl) fun v68 H67 => ?_
        refine ma tk (eI v68) rfl rfl (wpo_nil (sr rfl (mm tk (eI v68) rfl rfl (mm tk (eI x1) rfl rfl ?_))))
        refine l_ H67 eB rfl (o_ar tk rfl rfl rfl) fun v70 H69 => ?_
        refine wpo_nil ?_
        refine awp_if H69 rfl (fun H71 => ?_) (fun H71 => ?_)
        ·refine sr rfl (mm tk (.ref p0 0) rfl rfl ?_)
         refine wpo_cb H71 (fun x _ => .tup []) rfl rfl rfl (fun v73 hv => h_call1 hH [(0, (p0, (c_octets_Reader v73)))] ⟨⟨_, rfl⟩, trivial⟩ rfl rfl (.cons wr (.cons wr .nil)) (octets_Reader_Fail_ok hv _ (hH.at_ 0 rfl))) fun v73 _ τ hv73 H72 hH => ?_
         refine wpo_nil (awp_exit ?_)
         exact ⟨(v68, v26, v73), inj_inl H72, (wc (wc (wc (wc (wkf_nil _))))), hH⟩
        ·refine awp_skip (sr rfl (mm tk (.ref p0 0) rfl rfl (mm tk (eI v26) rfl rfl (mc tk (.ref p0 0) rfl rfl (fun _ => rfl) (mc tk (.ref p0 1) rfl rfl (fun _ => rfl) ?_)))))
         obtain ⟨c75, hc76, H74⟩ := lt_ex H71
         refine wpo_z rfl rfl (h_st tk hH 0 rfl ty3 (by simp) rfl rfl wr (b := (eI v26)) rfl rfl (nb rfl) (c_octets_Reader c75) (by rw [← hc76]; rfl)) fun τ hH => ?_
         refine wpo_nil (sr rfl (mm tk (eI v68) rfl rfl (ma tk (eI v68) rfl rfl (wpo_nil (awp_ret ?_)))))
         have hz := hy10 _ (inj_inr H74)
         refine ⟨⟨_, inj_inr H74⟩, ?_⟩
         rw [← hz] at hj6
         have H77 := (show some _ = some _ from hj6)
         obtain rfl := oi H77
         exact ⟨_, (eI v68), rfl, wr, .of_eq ((enc_i64 td3 sz3).cut _ _ _), hH.noT⟩
    ·refine awp_region rfl (mm tk ((@eU .u8 8) v24) rfl rfl ?_)
     refine l_ hs29 eB rfl (o_eql_u tk rfl rfl) fun v32 H31 => ?_
     refine mm tk (eB v32) rfl rfl ?_
     refine if_split H31 (fun hb H33 => ?_) (fun hb H33 => ?_)
     ·subst hb
      refine mm tk (eI c1) rfl rfl ?_
      refine l_ H33 eB rfl (o_ar tk rfl rfl rfl) fun v35 H34 => ?_
      refine pt tk (eB v35) rfl rfl rfl (mm tk (eB v35) rfl rfl ?_)
      refine if_split H34 (fun hb H36 => ?_) (fun hb H36 => ?_)
      ·subst hb
       refine mm tk (eI v26) rfl rfl (mm tk (.ref p0 0) rfl rfl (mc tk (.ref p0 0) rfl rfl (fun _ => rfl) (mc tk (.ref p0 1) rfl rfl (fun _ => rfl) (wpo_rd (a := (eI c3.at_)) rfl rfl rfl (h_ld tk hH 0 rfl rfl rfl) ?_))))
       refine l_ H36 eI rfl (o_ar tk rfl rfl rfl) fun v38 H37 => ?_
       refine l_ H37 eB rfl (o_ar tk rfl rfl rfl) fun v40 H39 => ?_
       refine pt tk (eB v40) rfl rfl rfl (ma tk (eB v40) rfl rfl (wpo_nil ?_))
       have e := oi H39
       subst e
       exact ⟨(wc (wc (wc (wc (wc (wc (wkf_nil _))))))), hH⟩
      ·subst hb
       refine k_ rfl (k_ rfl (k_ rfl (k_ rfl (k_ rfl (k_ rfl (k_ rfl (pf tk (eB false) rfl rfl rfl (ma tk (eB false) rfl rfl ?_))))))))
       refine wpo_nil ?_
       have e := oi H36
       subst e
       exact ⟨(wc (wc (wc (wc (wc (wc (wkf_nil _))))))), hH⟩
     ·subst hb
      refine k_ rfl (k_ rfl (pf tk (eB false) rfl rfl rfl (mm tk (eB false) rfl rfl (k_ rfl (k_ rfl (k_ rfl (k_ rfl (k_ rfl ?_))))))))
      refine k_ rfl (k_ rfl (pf tk (eB false) rfl rfl rfl (ma tk (eB false) rfl rfl (wpo_nil ?_))))
      have e := oi H33
      subst e
      exact ⟨(wc (wc (wc (wc (wc (wc (wkf_nil _))))))), hH⟩
  ·refine awp_exit ?_
   have hz := hy10 _ (inj_inr H15)
   exact ⟨⟨_, inj_inr H15⟩, c3, hz.symm, (wkf_nil _), hH⟩
theorem octets_Reader_Code_ok {x0 : octets_Reader} {r : Int} (H : octets_Reader_Code x0 = some r) (σ : St) {p0 : Nat} (h0 : σ.objs[p0]? = some (c_octets_Reader x0)) : ACall Tryd.prog 49 [(.ref p0 0)] σ (fun a τ => a = eI r ∧ τ = σ) := by
 unfold octets_Reader_Code at H
 refine ACall.pure (acall_start tk Tryd.func49 (by decide) rfl (nb rfl) ?_)
 have hH := Holds.init σ
 have hH := hH.bring h0 (fun _ h => by cases h)
 refine sr rfl (ma tk (eI (0 : Int)) rfl rfl (wpo_nil (sr rfl (mm tk (.ref p0 0) rfl rfl (mc tk (.ref p0 0) rfl rfl (fun _ => rfl) (mc tk (.ref p0 2) rfl rfl (fun _ => rfl) (wpo_rd (a := (eI x0.code)) rfl rfl rfl (h_ld tk hH 0 rfl rfl rfl) (ma tk (eI x0.code) rfl rfl ?_))))))))
 refine wpo_nil (awp_ret ?_)
 obtain rfl := oi H
 exact ⟨_, (eI x0.code), rfl, wr, .of_eq ((enc_i64 td46 sz46).cut _ _ _), (hH.noT.unbring h0)⟩
theorem octets_Reader_Left_ok {x0 : octets_Reader} {r : Int} (H : octets_Reader_Left x0 = some r) (σ : St) {p0 : Nat} (h0 : σ.objs[p0]? = some (c_octets_Reader x0)) : ACall Tryd.prog 60 [(.ref p0 0)] σ (fun a τ => a = eI r ∧ τ = σ) := by
 unfold octets_Reader_Left at H
 refine ACall.pure (acall_start tk Tryd.func60 (by decide) rfl (nb rfl) ?_)
 have hH := Holds.init σ
 have hH := hH.bring h0 (fun _ h => by cases h)
 refine sr rfl (ma tk (eI (0 : Int)) rfl rfl (wpo_nil (awp_seq ?_)))
 refine awp_drawS mixed [] rfl (by decide +kernel) rfl rfl ?_
 refine wpdS_mv (a := (.ref p0 0)) rfl rfl rfl (o_mv tk rfl (Wk.refl _)) (wpdS_mv (a := (.ref p0 0)) rfl rfl rfl (o_c tk false rfl (fun _ => rfl)) (wpdS_mv (a := (.ref p0 0)) rfl rfl rfl (o_c tk false rfl (fun _ => rfl)) (wpdS_rd (a := ((eL 1 (@eU .u8 8)) x0.b)) rfl (by decide +kernel) rfl rfl (h_ld tk hH 0 rfl rfl rfl) ?_)))
 refine wpdS_lt H eI rfl rfl rfl (o_len tk td31 rfl) fun v2 H1 => ?_
 refine wpdS_mv (a := (.ref p0 0)) rfl rfl rfl (o_mv tk rfl (Wk.refl _)) (wpdS_mv (a := (.ref p0 0)) rfl rfl rfl (o_c tk false rfl (fun _ => rfl)) (wpdS_mv (a := (.ref p0 1)) rfl rfl rfl (o_c tk false rfl (fun _ => rfl)) (wpdS_rd (a := (eI x0.at_)) rfl (by decide +kernel) rfl rfl (h_ld tk hH 0 rfl rfl rfl) ?_)))
 refine wpdS_lt H1 eI rfl rfl rfl (o_ar tk rfl rfl rfl) fun v4 H3 => ?_
 refine wpdS_mv (a := (eI v4)) rfl rfl rfl (o_as tk rfl (Wk.refl _)) (wpdS_nil (awp_ret ?_))
 obtain rfl := oi H3
 exact ⟨_, (eI v4), rfl, wr, .of_eq ((enc_i64 td3 sz3).cut _ _ _), (hH.noT.unbring h0)⟩
theorem octets_Reader_Bytes_ok {x0 : octets_Reader} {x1 : Int} {r : (List (BitVec 8)) × octets_Reader} (H : octets_Reader_Bytes x0 x1 = some r) (σ : St) {p0 : Nat} (h0 : σ.objs[p0]? = some (c_octets_Reader x0)) : ACall Tryd.prog 50 [(.ref p0 0), (eI x1)] σ (fun a τ => a = (eL 1 (@eU .u8 8)) r.1 ∧ τ = σ.puts [(p0, (c_octets_Reader r.2))]) := by
 unfold octets_Reader_Bytes at H
 refine ACall.out [(p0, (c_octets_Reader r.2))] (by simp only [List.mem_cons, List.not_mem_nil, or_false]; rintro _ (rfl) ρ κ <;> exact c_octets_Reader_cut ρ κ _) (acall_start tk Tryd.func50 (by decide) rfl (nb rfl) ?_)
 have hH := Holds.init σ
 have hH := hH.bring h0 (fun _ h => by cases h)
 refine sr rfl (ma tk AV.nils rfl rfl (wpo_nil (sr rfl (mm tk (.ref p0 0) rfl rfl (mc tk (.ref p0 0) rfl rfl (fun _ => rfl) (mc tk (.ref p0 1) rfl rfl (fun _ => rfl) (wpo_rd (a := (eI x0.at_)) rfl rfl rfl (h_ld tk hH 0 rfl rfl rfl) (ma tk (eI x0.at_) rfl rfl ?_))))))))
 refine wpo_nil (sr rfl (mm tk (.ref p0 0) rfl rfl (mm tk (eI x1) rfl rfl ?_)))
 refine wpo_cb H (fun x _ => eI x.1) rfl rfl rfl (fun v2 hv => h_call1 hH [(0, (p0, (c_octets_Reader v2.2)))] ⟨⟨_, rfl⟩, trivial⟩ rfl rfl (.cons wr (.cons wr .nil)) (octets_Reader_Number_ok hv _ (hH.at_ 0 rfl))) fun v2 _ τ hv2 H1 hH => ?_
 refine ma tk (eI v2.1) rfl rfl (wpo_nil (awp_seq (sr rfl (mm tk (.ref p0 0) rfl rfl (mc tk (.ref p0 0) rfl rfl (fun _ => rfl) (mc tk (.ref p0 2) rfl rfl (fun _ => rfl) (wpo_rd (a := (eI v2.2.code)) rfl rfl rfl (h_ld tk hH 0 rfl rfl rfl) ?_)))))))
 refine l_ H1 eB rfl (o_ar tk rfl rfl rfl) fun v4 H3 => ?_
 refine wpo_nil ?_
 refine awp_if H3 rfl (fun H5 => ?_) (fun H5 => ?_)
 ·refine sr rfl (ma tk AV.nils rfl rfl (wpo_nil (awp_ret ?_)))
  obtain rfl := oi H5
  exact ⟨_, ((eL 1 (@eU .u8 8)) []), rfl, (wk_nils _), .of_eq ((enc_l td31 sz31 (enc_u td5 sz5).cut).cut _ _ _), hH.noT⟩
 ·refine awp_skip (awp_seq (sr rfl (mm tk (eI v2.1) rfl rfl (mm tk (.ref p0 0) rfl rfl ?_))))
  refine wpo_bdr H5 eI rfl rfl rfl (fun v7 hv => h_callr rfl rfl (.cons wr .nil) (octets_Reader_Left_ok hv _ (hH.at_ 0 rfl))) fun v7 hv7 H6 => ?_
  refine l_ H6 eB rfl (o_ar tk rfl rfl rfl) fun v9 H8 => ?_
  refine wpo_nil ?_
  refine awp_if H8 rfl (fun H10 => ?_) (fun H10 => ?_)
  ·refine sr rfl (mm tk (.ref p0 0) rfl rfl (mm tk (eI x0.at_) rfl rfl (mc tk (.ref p0 0) rfl rfl (fun _ => rfl) (mc tk (.ref p0 1) rfl rfl (fun _ => rfl) ?_))))
   obtain ⟨c12, hc13, H11⟩ := lt_ex H10
   refine wpo_z rfl rfl (h_st tk hH 0 rfl ty3 (by simp) rfl rfl wr (b := (eI x0.at_)) rfl rfl (nb rfl) (c_octets_Reader c12) (by rw [← hc13]; rfl)) fun τ hH => ?_
   refine wpo_nil (sr rfl (mm tk (.ref p0 0) rfl rfl ?_))
   refine wpo_cb H11 (fun x _ => .tup []) rfl rfl rfl (fun v15 hv => h_call1 hH [(0, (p0, (c_octets_Reader v15)))] ⟨⟨_, rfl⟩, trivial⟩ rfl rfl (.cons wr (.cons wr .nil)) (octets_Reader_Fail_ok hv _ (hH.at_ 0 rfl))) fun v15 _ τ hv15 H14 hH => ?_
   refine wpo_nil (sr rfl (ma tk AV.nils rfl rfl (wpo_nil (awp_ret ?_))))
   obtain rfl := oi H14
   exact ⟨_, ((eL 1 (@eU .u8 8)) []), rfl, (wk_nils _), .of_eq ((enc_l td31 sz31 (enc_u td5 sz5).cut).cut _ _ _), hH.noT⟩
  ·refine awp_skip (awp_seq ?_)
   refine awp_drawS mixed [16] rfl (by decide +kernel) rfl rfl ?_
   refine wpdS_mv (a := (eF 1 (@eU .u8 8) ([] : List (BitVec 8)))) rfl rfl rfl (o_c tk false rfl (fun _ => rfl)) (wpdS_mv (a := (.ref p0 0)) rfl rfl rfl (o_mv tk rfl (Wk.refl _)) (wpdS_mv (a := (.ref p0 0)) rfl rfl rfl (o_c tk false rfl (fun _ => rfl)) (wpdS_mv (a := (.ref p0 0)) rfl rfl rfl (o_c tk false rfl (fun _ => rfl)) (wpdS_rd (a := ((eL 1 (@eU .u8 8)) v2.2.b)) rfl (by decide +kernel) rfl rfl (h_ld tk hH 0 rfl rfl rfl) (wpdS_mv (a := (.ref p0 0)) rfl rfl rfl (o_mv tk rfl (Wk.refl _)) (wpdS_mv (a := (.ref p0 0)) rfl rfl rfl (o_c tk false rfl (fun _ => rfl)) (wpdS_mv (a := (.ref p0 1)) rfl rfl rfl (o_c tk false rfl (fun _ => rfl)) (wpdS_rd (a := (eI v2.2.at_)) rfl (by decide +kernel) rfl rfl (h_ld tk hH 0 rfl rfl rfl) ?_))))))))
   refine wpdS_mv (a := (.ref p0 0)) rfl rfl rfl (o_mv tk rfl (Wk.refl _)) (wpdS_mv (a := (.ref p0 0)) rfl rfl rfl (o_c tk false rfl (fun _ => rfl)) (wpdS_mv (a := (.ref p0 1)) rfl rfl rfl (o_c tk false rfl (fun _ => rfl)) (wpdS_rd (a := (eI v2.2.at_)) rfl (by decide +kernel) rfl rfl (h_ld tk hH 0 rfl rfl rfl) (wpdS_mv (a := (eI v2.1)) rfl rfl rfl (o_mv tk rfl (Wk.refl _)) ?_))))
   refine wpdS_lt H10 eI rfl rfl rfl (o_ar tk rfl rfl rfl) fun v17 H16 => ?_
   refine wpdS_bd H16 (eL 1 (@eU .u8 8)) rfl rfl rfl (fun v19 hv => o_cut tk hv td31 (enc_u td5 sz5) rfl rfl rfl) fun v19 hv19 H18 => ?_
   obtain ⟨v21, hv22, H20⟩ := ob H18
   refine wpdS_a (av := fun t => eT t 1 (@eU .u8 8) v21) rfl rfl rfl (h_app0 tk hH hv22 td31 ty5 rfl (by decide) (.inr rfl) (src_l td31 rfl)) fun tk23 τ hH => ?_
   refine wpdS_mv (a := (eT tk23 1 (@eU .u8 8) v21)) rfl rfl rfl (o_as tk rfl (Wk.refl _)) (wpdS_nil (sr rfl (mm tk (.ref p0 0) rfl rfl (mc tk (.ref p0 0) rfl rfl (fun _ => rfl) (mc tk (.ref p0 1) rfl rfl (fun _ => rfl) (wpo_rd (a := (eI v2.2.at_)) rfl rfl rfl (h_ld tk hH 0 rfl rfl rfl) (mm tk (eI v2.1) rfl rfl ?_)))))))
   refine l_ H20 eI rfl (o_ar tk rfl rfl rfl) fun v25 H24 => ?_
   refine mc tk (.ref p0 0) rfl rfl (fun _ => rfl) (mc tk (.ref p0 1) rfl rfl (fun _ => rfl) ?_)
   obtain ⟨c27, hc28, H26⟩ := lt_ex H24
   refine wpo_z rfl rfl (h_st tk hH 0 rfl ty3 (by simp) rfl rfl wr (b := (eI v25)) rfl rfl (nb rfl) (c_octets_Reader c27) (by rw [← hc28]; rfl)) fun τ hH => ?_
   refine wpo_nil (sr rfl (mm tk (eT tk23 1 (@eU .u8 8) v21) rfl rfl (ma tk (eT tk23 1 (@eU .u8 8) v21) rfl rfl (wpo_nil (awp_ret ?_)))))
   obtain rfl := oi H26
   exact ⟨_, ((eL 1 (@eU .u8 8)) v21), rfl, wk_no, .of_eq ((enc_l td31 sz31 (enc_u td5 sz5).cut).cut _ _ _), hH.noT⟩
theorem octets_Reader_End_ok {x0 : octets_Reader} {r : Int × octets_Reader} (H : octets_Reader_End x0 = some r) (σ : St) {p0 : Nat} (h0 : σ.objs[p0]? = some (c_octets_Reader x0)) : ACall Tryd.prog 51 [(.ref p0 0)] σ (fun a τ => a = eI r.1 ∧ τ = σ.puts [(p0, (c_octets_Reader r.2))]) := by
 unfold octets_Reader_End at H
 refine ACall.out [(p0, (c_octets_Reader r.2))] (by simp only [List.mem_cons, List.not_mem_nil, or_false]; rintro _ (rfl) ρ κ <;> exact c_octets_Reader_cut ρ κ _) (acall_start tk Tryd.func51 (by decide) rfl (nb rfl) ?_)
 have hH := Holds.init σ
 have hH := hH.bring h0 (fun _ h => by cases h)
 refine sr rfl (ma tk (eI (0 : Int)) rfl rfl (wpo_nil (awp_seq (sr rfl (mm tk (.ref p0 0) rfl rfl ?_)))))
 refine wpo_bdr H eI rfl rfl rfl (fun v2 hv => h_callr rfl rfl (.cons wr .nil) (octets_Reader_Left_ok hv _ (hH.at_ 0 rfl))) fun v2 hv2 H1 => ?_
 refine l_ H1 eB rfl (o_ar tk rfl rfl rfl) fun v4 H3 => ?_
 refine wpo_nil ?_
 obtain ⟨s5, hs7, hj8⟩ := ob H3
 refine awp_cutn (fun fr τ => WkF fr (fm [(0, (.ref p0 0))]) ∧ Holds σ [(p0, (c_octets_Reader s5))] [] τ) ?_ ?_
 ·rintro fr τ ⟨hfr, hH⟩
  have H12 := hj8
  refine AWP.fm [(0, (.ref p0 0))] hfr ?_
  refine sr rfl (mm tk (.ref p0 0) rfl rfl (mc tk (.ref p0 0) rfl rfl (fun _ => rfl) (mc tk (.ref p0 2) rfl rfl (fun _ => rfl) (wpo_rd (a := (eI s5.code)) rfl rfl rfl (h_ld tk hH 0 rfl rfl rfl) (ma tk (eI s5.code) rfl rfl (wpo_nil (awp_ret ?_)))))))
  obtain rfl := oi H12
  exact ⟨_, (eI s5.code), rfl, wr, .of_eq ((enc_i64 td46 sz46).cut _ _ _), hH.noT⟩
 ·refine awp_if hs7 rfl (fun H9 => ?_) (fun H9 => ?_)
  ·refine awp_region rfl (mm tk (.ref p0 0) rfl rfl ?_)
   refine wpo_cb H9 (fun x _ => .tup []) rfl rfl rfl (fun v11 hv => h_call1 hH [(0, (p0, (c_octets_Reader v11)))] ⟨⟨_, rfl⟩, trivial⟩ rfl rfl (.cons wr (.cons wr .nil)) (octets_Reader_Fail_ok hv _ (hH.at_ 0 rfl))) fun v11 _ τ hv11 H10 hH => ?_
   refine wpo_nil ?_
   have e := oi H10
   subst e
   exact ⟨(wc (wkf_nil _)), hH⟩
  ·refine awp_skip ?_
   have e := oi H9
   subst e
   exact ⟨(wc (wkf_nil _)), hH⟩
theorem octets_Reader_At_ok {x0 : octets_Reader} {r : Int} (H : octets_Reader_At x0 = some r) (σ : St) {p0 : Nat} (h0 : σ.objs[p0]? = some (c_octets_Reader x0)) : ACall Tryd.prog 52 [(.ref p0 0)] σ (fun a τ => a = eI r ∧ τ = σ) := by
 unfold octets_Reader_At at H
 refine ACall.pure (acall_start tk Tryd.func52 (by decide) rfl (nb rfl) ?_)
 have hH := Holds.init σ
 have hH := hH.bring h0 (fun _ h => by cases h)
 refine sr rfl (ma tk (eI (0 : Int)) rfl rfl (wpo_nil (sr rfl (mm tk (.ref p0 0) rfl rfl (mc tk (.ref p0 0) rfl rfl (fun _ => rfl) (mc tk (.ref p0 1) rfl rfl (fun _ => rfl) (wpo_rd (a := (eI x0.at_)) rfl rfl rfl (h_ld tk hH 0 rfl rfl rfl) (ma tk (eI x0.at_) rfl rfl ?_))))))))
 refine wpo_nil (awp_ret ?_)
 obtain rfl := oi H
 exact ⟨_, (eI x0.at_), rfl, wr, .of_eq ((enc_i64 td3 sz3).cut _ _ _), (hH.noT.unbring h0)⟩
end Go.Proofs.YtedcgeghgbgonaaDoor

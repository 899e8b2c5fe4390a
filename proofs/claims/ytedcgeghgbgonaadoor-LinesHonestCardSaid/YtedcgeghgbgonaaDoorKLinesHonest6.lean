/- NOTHING COMES THAT WAS NOT SENT: whatever befalls messages, each that comes was sent; and what comes, is lost, and is on its way, is as many as were sent and doubled. (part 6 of 7) -/
import Derived.Test.YtedcgeghgbgonaaDoorKLinesHonest5
import Derived.ChangeSame
import Derived.ChangeVars
import Derived.JoinedOf
import Derived.LaidHandle
import Derived.LaidLaws
import Derived.RowKit
import Derived.RowKitTokens
import Derived.Stop.Joined
import Derived.Test.YtedcgeghgbgonaaDoorRows
namespace Go.Proofs.YtedcgeghgbgonaaDoor
open Go Go.Va
set_option linter.unusedVariables false
set_option linter.unusedSimpArgs false
def ptsA (k : Int) : List (BitVec 8) := if k = 2 then [65#8, 70#8] else if k = 3 ∨ k = 4 then [75#8, 65#8] else if k = 5 then [73#8, 75#8] else if k = 6 then [73#8, 75#8, 65#8, 70#8, 86#8] else []
theorem parts_eq (k : Int) : wire_parts k = some (ptsA k) := by
  unfold wire_parts ptsA
  simp only [lt_eq]
  by_cases h2 : k = 2
  · subst h2; rfl
  by_cases h3 : k = 3
  · subst h3; rfl
  by_cases h4 : k = 4
  · subst h4; rfl
  by_cases h5 : k = 5
  · subst h5; rfl
  by_cases h6 : k = 6
  · subst h6; rfl
  simp [h2, h3, h4, h5, h6]
theorem down_eq (k : Int) : wire_down k = some (decide (k = 2 ∨ k = 3 ∨ k = 6)) := by
  unfold wire_down
  simp only [lt_eq]
  by_cases h2 : k = 2
  · subst h2; rfl
  by_cases h3 : k = 3
  · subst h3; rfl
  by_cases h6 : k = 6
  · subst h6; rfl
  simp [h2, h3, h6]
def stC (m : api_Msg) (c : BitVec 8) (r : api_Msg) : Int × api_Msg :=
  if c = 73#8 then (if m.Id < 1 ∨ m.Id > 1099511627776 then (2, r) else (0, { r with Id := 0 }))
  else if c = 75#8 then (if ckK m.X.Key ≠ 0 then (ckK m.X.Key, r) else (0, { r with X := { r.X with Key := [] } }))
  else if c = 65#8 then (if m.X.AsOf < 0 ∨ m.X.AsOf > 1099511627776 then (2, r) else (0, { r with X := { r.X with AsOf := 0 } }))
  else if c = 70#8 then (0, { r with Found := false })
  else (if m.Found = true then (if ckE m.X ≠ 0 then (ckE m.X, r) else (0, { r with X := zeroE })) else (0, r))
def ckL (m : api_Msg) : List (BitVec 8) → api_Msg → Int × api_Msg
  | [], r => (0, r)
  | c :: l, r => if (stC m c r).1 = 0 then ckL m l (stC m c r).2 else ((stC m c r).1, r)
def isP (c : BitVec 8) : Prop := c = 73#8 ∨ c = 75#8 ∨ c = 65#8 ∨ c = 70#8 ∨ c = 86#8
theorem ptsA_is (k : Int) : ∀ c ∈ ptsA k, isP c := by
  intro c hc
  unfold ptsA at hc
  unfold isP
  repeat' split at hc
  all_goals simp at hc
  all_goals first
    | (rcases hc with rfl | rfl | rfl | rfl | rfl <;> simp)
    | (rcases hc with rfl | rfl <;> simp)
theorem nxS_at {s l : List (BitVec 8)} {p : Nat} {c : BitVec 8} (h : s.drop p = c :: l) (hc : c.toNat < 128) : nxS (s, p) = some (some (c.toNat : Int)) ∧ s.drop (p + 1) = l := by
  obtain ⟨hp, h1, h2⟩ := drop_cons h
  refine ⟨?_, h2⟩
  unfold nxS
  simp only [List.getElem?_eq_getElem hp, h1]
  rw [if_pos hc]
theorem nxS_end {s : List (BitVec 8)} {p : Nat} (h : s.drop p = []) : nxS (s, p) = some none := by
  unfold nxS
  rw [List.getElem?_eq_none (List.drop_eq_nil_iff.1 h)]
theorem chk_l (m : api_Msg) : ∀ (l : List (BitVec 8)) (s : List (BitVec 8)) (p : Nat) (r : api_Msg), (∀ c ∈ l, isP c) → s.drop p = l →
    ∃ o, wire_Check_l0 m ((s, p), r) = some o ∧ ((ckL m l r).1 = 0 → ∃ q, o = .inl (q, (ckL m l r).2)) ∧ ((ckL m l r).1 ≠ 0 → ∃ e, o = .inr e ∧ codeOf e = (ckL m l r).1 ∧ e.isNil = false)
  | [], s, p, r, _, h => by
    refine ⟨.inl ((s, p), r), loopO_out (body := fun s => wire_Check_b0 m s.1 s.2) ?_, fun _ => ⟨_, rfl⟩, fun h => absurd rfl h⟩
    simp only [wire_Check_b0, nxS_end h, Option.bind_some, Option.elim_none]
  | c :: l, s, p, r, hl, h => by
    have hc := hl c (List.mem_cons_self ..)
    obtain ⟨h1, h2⟩ := nxS_at (c := c) h (by rcases hc with rfl | rfl | rfl | rfl | rfl <;> decide)
    have key : ((stC m c r).1 = 0 → wire_Check_b0 m (s, p) r = some (.inl ((s, p + 1), (stC m c r).2))) ∧ ((stC m c r).1 ≠ 0 → ∃ e, wire_Check_b0 m (s, p) r = some (.inr (.inr e)) ∧ codeOf e = (stC m c r).1 ∧ e.isNil = false) := by
      simp only [wire_Check_b0, h1, Option.bind_some, Option.elim_some, lt_eq]
      unfold stC
      rcases hc with rfl | rfl | rfl | rfl | rfl
      · simp only [show ((((73#8 : BitVec 8).toNat : Int)) == 73) = true from rfl, if_true]
        by_cases h3 : m.Id < 1
        · simp [h3, new_eq, codeOf, Err.isNil]
        · by_cases h4 : m.Id > 1099511627776
          · simp [h3, h4, new_eq, codeOf, Err.isNil]
          · simp [h3, h4]
      · simp only [show ((((75#8 : BitVec 8).toNat : Int)) == 73) = false from rfl, show ((((75#8 : BitVec 8).toNat : Int)) == 75) = true from rfl, Bool.false_eq_true, if_false, if_true, show ¬ (75#8 : BitVec 8) = 73#8 by decide, octKey_eq, Option.bind_some]
        by_cases h3 : ckK m.X.Key = 0
        · simp [h3]
        · simp [h3, new_eq _ _ _ h3, codeOf, Err.isNil]
      · simp only [show ((((65#8 : BitVec 8).toNat : Int)) == 73) = false from rfl, show ((((65#8 : BitVec 8).toNat : Int)) == 75) = false from rfl, show ((((65#8 : BitVec 8).toNat : Int)) == 65) = true from rfl, Bool.false_eq_true, if_false, if_true, show ¬ (65#8 : BitVec 8) = 73#8 by decide, show ¬ (65#8 : BitVec 8) = 75#8 by decide]
        by_cases h3 : m.X.AsOf < 0
        · simp [h3, new_eq, codeOf, Err.isNil]
        · by_cases h4 : m.X.AsOf > 1099511627776
          · simp [h3, h4, new_eq, codeOf, Err.isNil]
          · simp [h3, h4]
      · simp [show ((((70#8 : BitVec 8).toNat : Int)) == 73) = false from rfl, show ((((70#8 : BitVec 8).toNat : Int)) == 75) = false from rfl, show ((((70#8 : BitVec 8).toNat : Int)) == 65) = false from rfl]
      · obtain ⟨e, e1, e2, e3⟩ := check_eq m.X
        simp only [show ((((86#8 : BitVec 8).toNat : Int)) == 73) = false from rfl, show ((((86#8 : BitVec 8).toNat : Int)) == 75) = false from rfl, show ((((86#8 : BitVec 8).toNat : Int)) == 65) = false from rfl, show ((((86#8 : BitVec 8).toNat : Int)) == 70) = false from rfl, show ((((86#8 : BitVec 8).toNat : Int)) == 86) = true from rfl, Bool.false_eq_true, if_false, if_true, show ¬ (86#8 : BitVec 8) = 73#8 by decide, show ¬ (86#8 : BitVec 8) = 75#8 by decide, show ¬ (86#8 : BitVec 8) = 65#8 by decide, show ¬ (86#8 : BitVec 8) = 70#8 by decide, e1, Option.bind_some, e3]
        by_cases h3 : m.Found = true
        · by_cases h4 : ckE m.X = 0
          · simp [h3, h4, zeroE]
          · have h5 : e.isNil = false := by rw [e3]; simp [h4]
            simp only [h3, h4, Bool.not_true, Bool.false_eq_true, if_false, decide_false, Bool.not_false, if_true, wrap_eq _ _ e h5, Option.bind_some, ne_eq, not_false_eq_true]
            exact ⟨fun h => h.elim, fun _ => ⟨_, rfl, by simp [codeOf, e2], rfl⟩⟩
        · simp [h3]
    simp only [ckL]
    by_cases h3 : (stC m c r).1 = 0
    · rw [if_pos h3]
      obtain ⟨o, o1, o2, o3⟩ := chk_l m l s (p + 1) (stC m c r).2 (fun d hd => hl d (List.mem_cons_of_mem _ hd)) h2
      refine ⟨o, ?_, o2, o3⟩
      rw [← o1]
      exact loopO_in (body := fun s => wire_Check_b0 m s.1 s.2) (key.1 h3)
    · rw [if_neg h3]
      obtain ⟨e, e1, e2, e3⟩ := key.2 h3
      exact ⟨.inr e, loopO_out (body := fun s => wire_Check_b0 m s.1 s.2) e1, fun h => absurd h h3, fun _ => ⟨e, rfl, e2, e3⟩⟩
def ckF (m : api_Msg) : Int × Int := if m.Kind = 2 ∨ m.Kind = 3 ∨ m.Kind = 6 then (m.To, m.From) else (m.From, m.To)
def ckM (m : api_Msg) : Int :=
  if m.Kind < 1 ∨ m.Kind > 6 then 12 else
  if (ckF m).1 < 1 ∨ (ckF m).1 > 16 ∨ (ckF m).2 ≠ 0 ∨ m.Epoch < 1 ∨ m.Epoch > 1099511627776 then 2 else
  if (ckL m (ptsA m.Kind) { m with Kind := 0, From := 0, To := 0, Epoch := 0 }).1 ≠ 0 then (ckL m (ptsA m.Kind) { m with Kind := 0, From := 0, To := 0, Epoch := 0 }).1 else
  if (ckL m (ptsA m.Kind) { m with Kind := 0, From := 0, To := 0, Epoch := 0 }).2.Id ≠ 0 ∨ (ckL m (ptsA m.Kind) { m with Kind := 0, From := 0, To := 0, Epoch := 0 }).2.Found = true ∨ (ckL m (ptsA m.Kind) { m with Kind := 0, From := 0, To := 0, Epoch := 0 }).2.X ≠ zeroE then 5 else 0
theorem or_bool {a b : Prop} [Decidable a] [Decidable b] : (if decide a = true then some true else some (decide b) : Option Bool) = some (decide (a ∨ b)) := by
  by_cases h : a <;> simp [h]
theorem wcheck_eq (m : api_Msg) : ∃ e, wire_Check m = some e ∧ codeOf e = ckM m ∧ e.isNil = decide (ckM m = 0) := by
  unfold wire_Check ckM
  simp only [lt_eq, or_bool, Option.bind_some, down_eq, parts_eq]
  by_cases h1 : m.Kind < 1 ∨ m.Kind > 6
  · simp only [h1, decide_true, if_true, new_eq _ _ (12 : Int) (by decide), Option.bind_some]
    exact ⟨_, rfl, rfl, rfl⟩
  · simp only [decide_eq_false h1, if_neg h1, Bool.false_eq_true, if_false]
    have hf : (if decide (m.Kind = 2 ∨ m.Kind = 3 ∨ m.Kind = 6) = true then some (m.To, m.From) else some (m.From, m.To) : Option (Int × Int)) = some (ckF m) := by
      unfold ckF
      by_cases h : m.Kind = 2 ∨ m.Kind = 3 ∨ m.Kind = 6
      · rw [if_pos h, if_pos (decide_eq_true h)]
      · rw [if_neg h, if_neg (by rw [decide_eq_false h]; simp)]
    simp only [hf, Option.bind_some]
    generalize ckF m = f
    by_cases h2 : f.1 < 1 ∨ f.1 > 16 ∨ f.2 ≠ 0
    · have h3 : (if decide (f.1 < 1) = true then some true else if decide (f.1 > 16) = true then some true else some (f.2 != 0) : Option Bool) = some true := by
        by_cases a : f.1 < 1
        · simp [a]
        · by_cases b : f.1 > 16
          · simp [a, b]
          · have : f.2 ≠ 0 := by omega
            simp [a, b, this]
      have h2' : f.1 < 1 ∨ f.1 > 16 ∨ f.2 ≠ 0 ∨ m.Epoch < 1 ∨ m.Epoch > 1099511627776 := by omega
      rw [h3, if_pos h2']
      simp only [Option.bind_some, if_true, new_eq _ _ (2 : Int) (by decide)]
      exact ⟨_, rfl, rfl, rfl⟩
    · have h3 : (if decide (f.1 < 1) = true then some true else if decide (f.1 > 16) = true then some true else some (f.2 != 0) : Option Bool) = some false := by
        have : f.2 = 0 := by omega
        simp [show ¬ f.1 < 1 by omega, show ¬ f.1 > 16 by omega, this]
      rw [h3]
      simp only [Option.bind_some, Bool.false_eq_true, if_false]
      by_cases h4 : m.Epoch < 1 ∨ m.Epoch > 1099511627776
      · have h2' : f.1 < 1 ∨ f.1 > 16 ∨ f.2 ≠ 0 ∨ m.Epoch < 1 ∨ m.Epoch > 1099511627776 := by omega
        rw [decide_eq_true h4, if_pos h2']
        simp only [Option.bind_some, if_true, new_eq _ _ (2 : Int) (by decide)]
        exact ⟨_, rfl, rfl, rfl⟩
      · have h2' : ¬ (f.1 < 1 ∨ f.1 > 16 ∨ f.2 ≠ 0 ∨ m.Epoch < 1 ∨ m.Epoch > 1099511627776) := by omega
        rw [decide_eq_false h4, if_neg h2']
        simp only [Bool.false_eq_true, if_false]
        obtain ⟨o, o1, o2, o3⟩ := chk_l m (ptsA m.Kind) (ptsA m.Kind) 0 { m with Kind := 0, From := 0, To := 0, Epoch := 0 } (ptsA_is _) rfl
        simp only [o1, Option.bind_some]
        generalize ckL m (ptsA m.Kind) { m with Kind := 0, From := 0, To := 0, Epoch := 0 } = q at *
        by_cases h5 : q.1 = 0
        · obtain ⟨z, rfl⟩ := o2 h5
          simp only [Sum.elim_inl, h5, ne_eq, not_true_eq_false, if_false, isame_eq6, Option.bind_some]
          by_cases h6 : q.2.Id = 0
          · by_cases h7 : q.2.Found = true
            · simp [h6, h7, new_eq, codeOf, Err.isNil]
            · by_cases h8 : q.2.X = zeroE
              · simp [h6, h7, h8, zeroE, codeOf, Err.isNil]
              · have h9 : ¬ q.2.X = ⟨[], 0, 0, 0, []⟩ := h8
                simp [h6, h7, h8, h9, new_eq, codeOf, Err.isNil]
          · simp [h6, new_eq, codeOf, Err.isNil]
        · obtain ⟨e, rfl, e1, e2⟩ := o3 h5
          simp only [Sum.elim_inr, h5, ne_eq, not_false_eq_true, if_true]
          exact ⟨e, rfl, e1, by rw [e2]; simp [h5]⟩
theorem rsame_eq (x y : api_Msg) (hx : x.X.Value.length < 9223372036854775807) : R23_Same x y = some (decide (x = y)) := by
  obtain ⟨a1, a2, a3, a4, a5, a6, a7⟩ := x
  obtain ⟨b1, b2, b3, b4, b5, b6, b7⟩ := y
  unfold R23_Same
  simp only [lt_eq, same_eq6 a6 b6 hx, Option.bind_some]
  by_cases h1 : a1 = b1 <;> by_cases h2 : a2 = b2 <;> by_cases h3 : a3 = b3 <;> by_cases h4 : a4 = b4 <;> by_cases h5 : a5 = b5 <;> by_cases h7 : a7 = b7 <;> simp [h1, h2, h3, h4, h5, h7]
def onlyM (m : api_Msg) : api_Msg :=
  ⟨m.Kind, m.From, m.To, m.Epoch, if m.Kind = 5 ∨ m.Kind = 6 then m.Id else 0,
    if m.Kind = 6 ∧ m.Found = true then m.X else ⟨if m.Kind = 3 ∨ m.Kind = 4 ∨ m.Kind = 5 ∨ m.Kind = 6 then m.X.Key else [], 0, if m.Kind = 2 ∨ m.Kind = 3 ∨ m.Kind = 4 ∨ m.Kind = 6 then m.X.AsOf else 0, 0, []⟩,
    if m.Kind = 2 ∨ m.Kind = 6 then m.Found else false⟩
def stP (m : api_Msg) (c : BitVec 8) : List (BitVec 8) :=
  if c = 73#8 then num7 m.Id.toNat
  else if c = 75#8 then num7 m.X.Key.length ++ m.X.Key
  else if c = 65#8 then num7 m.X.AsOf.toNat
  else if c = 70#8 then num7 (if m.Found = true then 1 else 0)
  else if m.Found = true then num7 m.X.Version.toNat ++ (num7 m.X.Ends.toNat ++ (num7 m.X.Value.length ++ m.X.Value)) else []
def encM (m : api_Msg) : List (BitVec 8) := num7 m.Kind.toNat ++ (num7 m.From.toNat ++ (num7 m.To.toNat ++ (num7 m.Epoch.toNat ++ (ptsA m.Kind).flatMap (stP m))))
structure okM (m : api_Msg) : Prop where
  k1 : 1 ≤ m.Kind
  k6 : m.Kind ≤ 6
  f0 : 0 ≤ m.From
  f1 : m.From ≤ 16
  t0 : 0 ≤ m.To
  t1 : m.To ≤ 16
  e1 : 1 ≤ m.Epoch
  e2 : m.Epoch ≤ 1099511627776
  i : m.Kind = 5 ∨ m.Kind = 6 → 1 ≤ m.Id ∧ m.Id ≤ 1099511627776
  i0 : ¬ (m.Kind = 5 ∨ m.Kind = 6) → m.Id = 0
  key : m.Kind = 3 ∨ m.Kind = 4 ∨ m.Kind = 5 ∨ m.Kind = 6 → 1 ≤ m.X.Key.length ∧ m.X.Key.length ≤ 40
  key0 : ¬ (m.Kind = 3 ∨ m.Kind = 4 ∨ m.Kind = 5 ∨ m.Kind = 6) → m.X.Key = []
  a : m.Kind = 2 ∨ m.Kind = 3 ∨ m.Kind = 4 ∨ m.Kind = 6 → 0 ≤ m.X.AsOf ∧ m.X.AsOf ≤ 1099511627776
  a0 : ¬ (m.Kind = 2 ∨ m.Kind = 3 ∨ m.Kind = 4 ∨ m.Kind = 6) → m.X.AsOf = 0
  f : ¬ (m.Kind = 2 ∨ m.Kind = 6) → m.Found = false
  v : m.Kind = 6 → m.Found = true → ckE m.X = 0
  v0 : ¬ (m.Kind = 6 ∧ m.Found = true) → m.X.Version = 0 ∧ m.X.Ends = 0 ∧ m.X.Value = []
theorem ckK_ok {k : List (BitVec 8)} (h : ckK k = 0) : 1 ≤ k.length ∧ k.length ≤ 40 := by
  unfold ckK at h
  split at h
  · cases h
  · split at h
    · cases h
    · omega
theorem ckM_ok {m : api_Msg} (h : ckM m = 0) : okM m := by
  unfold ckM at h
  split at h
  · cases h
  rename_i h1
  split at h
  · cases h
  rename_i h2
  split at h
  · rename_i h3; exact absurd h h3
  rename_i h3
  split at h
  · cases h
  rename_i h4
  have h3' := Classical.not_not.1 h3
  clear h h3
  obtain ⟨k, f, t, e, i, ⟨key, ver, asf, ends, val⟩, fd⟩ := m
  unfold ckF at h2
  simp only at h1 h2 h3' h4
  have h0 : k = 1 ∨ k = 2 ∨ k = 3 ∨ k = 4 ∨ k = 5 ∨ k = 6 := by omega
  have hft : 0 ≤ f ∧ f ≤ 16 ∧ 0 ≤ t ∧ t ≤ 16 ∧ 1 ≤ e ∧ e ≤ 1099511627776 := by
    split at h2 <;> simp only at h2 <;> omega
  clear h2 h1
  have fin : ∀ {b : Bool}, ¬ b = true → b = false := fun {b} h => by simpa using h
  rcases h0 with rfl | rfl | rfl | rfl | rfl | rfl
  · simp [ptsA, ckL, zeroE] at h4
    obtain ⟨rfl, rfl, rfl, rfl, rfl, rfl, rfl⟩ := h4
    exact ⟨by simp, by simp, by simp only; omega, by simp only; omega, by simp only; omega, by simp only; omega, by simp only; omega, by simp only; omega, by simp, by simp, by simp, by simp, by simp, by simp, by simp, by simp, by simp⟩
  · by_cases g : asf < 0 ∨ asf > 1099511627776
    · simp [ptsA, ckL, stC, g] at h3'
    · simp [ptsA, ckL, stC, g, zeroE] at h4
      obtain ⟨rfl, rfl, rfl, rfl, rfl⟩ := h4
      exact ⟨by simp, by simp, by simp only; omega, by simp only; omega, by simp only; omega, by simp only; omega, by simp only; omega, by simp only; omega, by simp, by simp, by simp, by simp, fun _ => by simp only; omega, by simp, by simp, by simp, by simp⟩
  · by_cases hk : ckK key = 0
    · by_cases g : asf < 0 ∨ asf > 1099511627776
      · simp [ptsA, ckL, stC, g, hk] at h3'
      · simp [ptsA, ckL, stC, g, hk, zeroE] at h4
        obtain ⟨rfl, rfl, rfl, rfl, rfl⟩ := h4
        exact ⟨by simp, by simp, by simp only; omega, by simp only; omega, by simp only; omega, by simp only; omega, by simp only; omega, by simp only; omega, by simp, by simp, fun _ => ckK_ok hk, by simp, fun _ => by simp only; omega, by simp, by simp, by simp, by simp⟩
    · simp [ptsA, ckL, stC, hk] at h3'
  · by_cases hk : ckK key = 0
    · by_cases g : asf < 0 ∨ asf > 1099511627776
      · simp [ptsA, ckL, stC, g, hk] at h3'
      · simp [ptsA, ckL, stC, g, hk, zeroE] at h4
        obtain ⟨rfl, rfl, rfl, rfl, rfl⟩ := h4
        exact ⟨by simp, by simp, by simp only; omega, by simp only; omega, by simp only; omega, by simp only; omega, by simp only; omega, by simp only; omega, by simp, by simp, fun _ => ckK_ok hk, by simp, fun _ => by simp only; omega, by simp, by simp, by simp, by simp⟩
    · simp [ptsA, ckL, stC, hk] at h3'
  · by_cases hi : i < 1 ∨ i > 1099511627776
    · simp [ptsA, ckL, stC, hi] at h3'
    · by_cases hk : ckK key = 0
      · simp [ptsA, ckL, stC, hi, hk, zeroE] at h4
        obtain ⟨rfl, rfl, rfl, rfl, rfl⟩ := h4
        exact ⟨by simp, by simp, by simp only; omega, by simp only; omega, by simp only; omega, by simp only; omega, by simp only; omega, by simp only; omega, fun _ => by simp only; omega, by simp, fun _ => ckK_ok hk, by simp, by simp, by simp, by simp, by simp, by simp⟩
      · simp [ptsA, ckL, stC, hi, hk] at h3'
  · by_cases hi : i < 1 ∨ i > 1099511627776
    · simp [ptsA, ckL, stC, hi] at h3'
    · by_cases hk : ckK key = 0
      · by_cases g : asf < 0 ∨ asf > 1099511627776
        · simp [ptsA, ckL, stC, hi, hk, g] at h3'
        · by_cases b : fd = true
          · by_cases hx : ckE ⟨key, ver, asf, ends, val⟩ = 0
            · exact ⟨by simp, by simp, by simp only; omega, by simp only; omega, by simp only; omega, by simp only; omega, by simp only; omega, by simp only; omega, fun _ => by simp only; omega, by simp, fun _ => ckK_ok hk, by simp, fun _ => by simp only; omega, by simp, by simp, fun _ _ => hx, by simp [b]⟩
            · simp [ptsA, ckL, stC, hi, hk, g, b, hx] at h3'
          · simp [ptsA, ckL, stC, hi, hk, g, b, zeroE] at h4
            obtain ⟨rfl, rfl, rfl⟩ := h4
            exact ⟨by simp, by simp, by simp only; omega, by simp only; omega, by simp only; omega, by simp only; omega, by simp only; omega, by simp only; omega, fun _ => by simp only; omega, by simp, fun _ => ckK_ok hk, by simp, fun _ => by simp only; omega, by simp, by simp, by simp [b], by simp⟩
      · simp [ptsA, ckL, stC, hi, hk] at h3'
def okP (m : api_Msg) (c : BitVec 8) : Prop :=
  (c = 73#8 ∧ 0 ≤ m.Id ∧ m.Id ≤ 1099511627776) ∨ (c = 75#8 ∧ m.X.Key.length ≤ 40) ∨ (c = 65#8 ∧ 0 ≤ m.X.AsOf ∧ m.X.AsOf ≤ 1099511627776) ∨ c = 70#8 ∨ (c = 86#8 ∧ (m.Found = true → ckE m.X = 0))
theorem okM.pts {m : api_Msg} (h : okM m) : ∀ c ∈ ptsA m.Kind, okP m c := by
  intro c hc
  unfold ptsA at hc
  unfold okP
  have h1 := h.i
  have h2 := h.key
  have h3 := h.a
  have h4 := h.v
  split at hc
  · rename_i hk
    simp at hc
    have := h3 (by omega)
    rcases hc with rfl | rfl
    · simp; omega
    · simp
  · split at hc
    · rename_i hk
      simp at hc
      have := h3 (by omega)
      have := h2 (by omega)
      rcases hc with rfl | rfl
      · simp; omega
      · simp; omega
    · split at hc
      · rename_i hk
        simp at hc
        have := h1 (by omega)
        have := h2 (by omega)
        rcases hc with rfl | rfl
        · simp; omega
        · simp; omega
      · split at hc
        · rename_i hk
          simp at hc
          have := h1 (by omega)
          have := h2 (by omega)
          have := h3 (by omega)
          rcases hc with rfl | rfl | rfl | rfl | rfl
          · simp; omega
          · simp; omega
          · simp; omega
          · simp
          · simp; exact h4 hk
        · cases hc
theorem okP_is {m : api_Msg} {c : BitVec 8} (h : okP m c) : isP c := by
  unfold isP
  rcases h with ⟨h, _⟩ | ⟨h, _⟩ | ⟨h, _⟩ | h | ⟨h, _⟩ <;> simp [h]
theorem stP_len {m : api_Msg} {c : BitVec 8} (h : okP m c) : (stP m c).length ≤ 4200 := by
  unfold stP
  rcases h with ⟨rfl, h⟩ | ⟨rfl, h⟩ | ⟨rfl, h⟩ | rfl | ⟨rfl, h⟩
  · have := num7_len (n := m.Id.toNat) (by omega); simp; omega
  · have := num7_len (n := m.X.Key.length) (by omega); simp; omega
  · have := num7_len (n := m.X.AsOf.toNat) (by omega); simp; omega
  · have := num7_len (n := if m.Found = true then 1 else 0) (by split <;> omega); simp; omega
  · by_cases hf : m.Found = true
    · obtain ⟨h1, h2, h3, h4, h5, h6, h7, h8, h9⟩ := ck_ok (h hf)
      have i1 := num7_len (n := m.X.Version.toNat) (by omega)
      have i2 := num7_len (n := m.X.Ends.toNat) (by omega)
      have i3 := num7_len (n := m.X.Value.length) (by omega)
      simp [hf]; omega
    · simp [hf]
theorem toBytes_eq {x : List (BitVec 8)} (h : x.length ≤ 140737488355328) : toBytes x = some x := by unfold toBytes; rw [if_pos h]
theorem nums_1 (n : Int) : nums [n] = num7 n.toNat := by simp [nums]
theorem okN_1 {n : Int} (h : 0 ≤ n) (h1 : n ≤ 9223372036854775807) : okN [n] := ⟨by simp, fun m hm => by simp at hm; omega⟩
theorem put_l (m : api_Msg) : ∀ (l s : List (BitVec 8)) (p : Nat) (b : List (BitVec 8)), (∀ c ∈ l, okP m c) → s.drop p = l → b.length + 4200 * l.length ≤ 100000 →
    ∃ q, wire_Put_l0 m (b, (s, p)) = some (b ++ l.flatMap (stP m), q)
  | [], s, p, b, _, h, _ => ⟨(s, p), by
    refine loopO_out (body := fun s => wire_Put_b0 m s.1 s.2) ?_
    simp [wire_Put_b0, nxS_end h]⟩
  | c :: l, s, p, b, hl, h, hb => by
    have hc := hl c (List.mem_cons_self ..)
    obtain ⟨h1, h2⟩ := nxS_at (c := c) h (by rcases okP_is hc with rfl | rfl | rfl | rfl | rfl <;> decide)
    have hlen := stP_len hc
    simp only [List.length_cons] at hb
    have key : wire_Put_b0 m b (s, p) = some (.inl (b ++ stP m c, (s, p + 1))) := by
      simp only [wire_Put_b0, h1, Option.bind_some, Option.elim_some, lt_eq]
      unfold stP
      rcases hc with ⟨rfl, g0⟩ | ⟨rfl, g0⟩ | ⟨rfl, g0⟩ | rfl | ⟨rfl, g0⟩
      · simp only [show ((((73#8 : BitVec 8).toNat : Int)) == 73) = true from rfl, if_true]
        rw [octPut_eq _ (by omega) (okN_1 (by omega) (by omega)), nums_1]
        rfl
      · simp only [show ((((75#8 : BitVec 8).toNat : Int)) == 73) = false from rfl, show ((((75#8 : BitVec 8).toNat : Int)) == 75) = true from rfl, Bool.false_eq_true, if_false, if_true, show ¬ (75#8 : BitVec 8) = 73#8 by decide]
        rw [toBytes_eq (by omega)]
        simp only [Option.bind_some]
        rw [octBytes_eq _ _ (by omega) (by omega)]
        simp
      · simp only [show ((((65#8 : BitVec 8).toNat : Int)) == 73) = false from rfl, show ((((65#8 : BitVec 8).toNat : Int)) == 75) = false from rfl, show ((((65#8 : BitVec 8).toNat : Int)) == 65) = true from rfl, Bool.false_eq_true, if_false, if_true, show ¬ (65#8 : BitVec 8) = 73#8 by decide, show ¬ (65#8 : BitVec 8) = 75#8 by decide]
        rw [octPut_eq _ (by omega) (okN_1 (by omega) (by omega)), nums_1]
        rfl
      · simp only [show ((((70#8 : BitVec 8).toNat : Int)) == 73) = false from rfl, show ((((70#8 : BitVec 8).toNat : Int)) == 75) = false from rfl, show ((((70#8 : BitVec 8).toNat : Int)) == 65) = false from rfl, show ((((70#8 : BitVec 8).toNat : Int)) == 70) = true from rfl, Bool.false_eq_true, if_false, if_true, show ¬ (70#8 : BitVec 8) = 73#8 by decide, show ¬ (70#8 : BitVec 8) = 75#8 by decide, show ¬ (70#8 : BitVec 8) = 65#8 by decide]
        by_cases hf : m.Found = true
        · simp only [hf, if_true, Option.bind_some]
          rw [octPut_eq _ (by omega) (okN_1 (by omega) (by omega)), nums_1]
          rfl
        · simp only [hf, if_false, Option.bind_some, Bool.false_eq_true]
          rw [octPut_eq _ (by omega) (okN_1 (by omega) (by omega)), nums_1]
          rfl
      · simp only [show ((((86#8 : BitVec 8).toNat : Int)) == 73) = false from rfl, show ((((86#8 : BitVec 8).toNat : Int)) == 75) = false from rfl, show ((((86#8 : BitVec 8).toNat : Int)) == 65) = false from rfl, show ((((86#8 : BitVec 8).toNat : Int)) == 70) = false from rfl, show ((((86#8 : BitVec 8).toNat : Int)) == 86) = true from rfl, Bool.false_eq_true, if_false, if_true, show ¬ (86#8 : BitVec 8) = 73#8 by decide, show ¬ (86#8 : BitVec 8) = 75#8 by decide, show ¬ (86#8 : BitVec 8) = 65#8 by decide, show ¬ (86#8 : BitVec 8) = 70#8 by decide]
        by_cases hf : m.Found = true
        · obtain ⟨g1, g2, g3, g4, g5, g6, g7, g8, g9⟩ := ck_ok (g0 hf)
          simp only [hf, if_true]
          have hn : okN [m.X.Version, m.X.Ends] := ⟨by simp, fun n hn => by simp at hn; omega⟩
          rw [octPut_eq _ (by omega) hn]
          simp only [Option.bind_some]
          have := nums_len hn.2
          simp only [List.length_cons, List.length_nil] at this
          rw [octBytes_eq _ _ (by rw [List.length_append]; omega) (by omega)]
          simp [nums]
        · simp [hf]
    obtain ⟨q, hq⟩ := put_l m l s (p + 1) (b ++ stP m c) (fun d hd => hl d (List.mem_cons_of_mem _ hd)) h2 (by rw [List.length_append]; omega)
    refine ⟨q, ?_⟩
    rw [List.flatMap_cons, ← List.append_assoc, ← hq]
    exact loopO_in (body := fun s => wire_Put_b0 m s.1 s.2) key
theorem okM.head {m : api_Msg} (h : okM m) : okN [m.Kind, m.From, m.To, m.Epoch] := ⟨by simp, fun n hn => by
  have := h.k1; have := h.k6; have := h.f0; have := h.f1; have := h.t0; have := h.t1; have := h.e1; have := h.e2
  simp at hn; omega⟩
theorem okM.hlen {m : api_Msg} (h : okM m) : (nums [m.Kind, m.From, m.To, m.Epoch]).length ≤ 36 := by
  have := nums_len h.head.2
  simpa using this
theorem ptsA_len (k : Int) : (ptsA k).length ≤ 5 := by
  unfold ptsA
  repeat' split
  all_goals simp
theorem encM_eq (m : api_Msg) : encM m = nums [m.Kind, m.From, m.To, m.Epoch] ++ (ptsA m.Kind).flatMap (stP m) := by simp [encM, nums]
theorem flat_len {m : api_Msg} : ∀ {l : List (BitVec 8)}, (∀ c ∈ l, okP m c) → (l.flatMap (stP m)).length ≤ 4200 * l.length
  | [], _ => by simp
  | c :: l, h => by
    have h1 := stP_len (h c (List.mem_cons_self ..))
    have h2 := flat_len (l := l) (fun d hd => h d (List.mem_cons_of_mem _ hd))
    simp only [List.flatMap_cons, List.length_append, List.length_cons]
    omega
theorem encM_len {m : api_Msg} (h : okM m) : (encM m).length ≤ 21036 := by
  have h1 := h.hlen
  have h2 := flat_len h.pts
  have h3 := ptsA_len m.Kind
  rw [encM_eq, List.length_append]
  omega
theorem wput_eq (m : api_Msg) : (ckM m = 0 → wire_Put m = some (cseal (encM m), .nil)) ∧ (ckM m ≠ 0 → ∃ e, wire_Put m = some ([], e) ∧ codeOf e = ckM m ∧ e.isNil = false) := by
  obtain ⟨e, e1, e2, e3⟩ := wcheck_eq m
  unfold wire_Put
  simp only [lt_eq, e1, Option.bind_some, e3]
  constructor
  · intro h
    have ho := ckM_ok h
    rw [if_neg (by simp [h]), octPut_eq _ (by simp) ho.head]
    simp only [Option.bind_some, parts_eq, List.nil_append]
    have h1 := ho.hlen
    have h3 := ptsA_len m.Kind
    obtain ⟨q, hq⟩ := put_l m (ptsA m.Kind) (ptsA m.Kind) 0 (nums [m.Kind, m.From, m.To, m.Epoch]) ho.pts rfl (by omega)
    rw [hq]
    simp only [Option.bind_some]
    rw [← encM_eq, seal_eq (by have := encM_len ho; omega)]
    rfl
  · intro h
    have h5 : e.isNil = false := by rw [e3]; simp [h]
    rw [if_pos (by simp [h]), wrap_eq _ _ e h5]
    exact ⟨_, rfl, by simp [codeOf, e2], rfl⟩
def gS (b : List (BitVec 8)) (c : BitVec 8) (m : api_Msg) (r : rdr) : api_Msg × rdr :=
  if c = 73#8 then ({ m with Id := (rN b r 1099511627776).1 }, (rN b r 1099511627776).2)
  else if c = 75#8 then ({ m with X := { m.X with Key := (rB b r 40).1 } }, (rB b r 40).2)
  else if c = 65#8 then ({ m with X := { m.X with AsOf := (rN b r 1099511627776).1 } }, (rN b r 1099511627776).2)
  else if c = 70#8 then ({ m with Found := ((rN b r 1).1 : Int) == 1 }, (rN b r 1).2)
  else if m.Found = true then
    ({ m with X := { m.X with Version := (rN b r 1099511627776).1, Ends := (rN b (rN b r 1099511627776).2 1099511627776).1, Value := (rB b (rN b (rN b r 1099511627776).2 1099511627776).2 4096).1 } }, (rB b (rN b (rN b r 1099511627776).2 1099511627776).2 4096).2)
  else (m, r)
def gL (b : List (BitVec 8)) : List (BitVec 8) → api_Msg → rdr → api_Msg × rdr
  | [], m, r => (m, r)
  | c :: l, m, r => gL b l (gS b c m r).1 (gS b c m r).2
def gW (b : List (BitVec 8)) : List (BitVec 8) → api_Msg → rdr → api_Msg × rdr
  | [], m, r => (m, r)
  | c :: l, m, r => if r.e ≠ 0 then (m, r) else gW b l (gS b c m r).1 (gS b c m r).2
theorem rN_bad {b : List (BitVec 8)} {r : rdr} {m : Nat} (h : r.e ≠ 0) : rN b r m = (0, r) := by unfold rN; rw [if_neg h]
theorem rB_bad {b : List (BitVec 8)} {r : rdr} {m : Nat} (h : r.e ≠ 0) : rB b r m = ([], r) := by unfold rB; rw [if_neg h]
theorem gS_bad {b : List (BitVec 8)} {c : BitVec 8} {m : api_Msg} {r : rdr} (h : r.e ≠ 0) : (gS b c m r).2 = r := by
  unfold gS
  simp only [rN_bad h, rB_bad h]
  repeat' split
  all_goals rfl
theorem gL_bad {b : List (BitVec 8)} {r : rdr} (h : r.e ≠ 0) : ∀ (l : List (BitVec 8)) (m : api_Msg), (gL b l m r).2 = r
  | [], m => rfl
  | c :: l, m => by
    simp only [gL]
    rw [gS_bad h]
    exact gL_bad h l _
theorem gW_eq {b : List (BitVec 8)} : ∀ (l : List (BitVec 8)) (m : api_Msg) (r : rdr), (gW b l m r).2 = (gL b l m r).2 ∧ ((gL b l m r).2.e = 0 → gW b l m r = gL b l m r)
  | [], m, r => ⟨rfl, fun _ => rfl⟩
  | c :: l, m, r => by
    by_cases h : r.e = 0
    · simp only [gW, gL]
      rw [if_neg (by simp [h])]
      exact gW_eq l _ _
    · have hb : (gL b (c :: l) m r).2 = r := gL_bad h _ _
      simp only [gW]
      rw [if_pos h, hb]
      exact ⟨rfl, fun h2 => absurd h2 h⟩
theorem gS_le {b : List (BitVec 8)} {c : BitVec 8} {m : api_Msg} {r : rdr} (hr : r.a ≤ b.length) : (gS b c m r).2.a ≤ b.length := by
  unfold gS
  have h1 := rN_le hr 1099511627776
  have h2 := rN_le h1.1 1099511627776
  have h3 := rB_le h2.1 4096
  have h4 := rB_le hr 40
  have h5 := rN_le hr 1
  repeat' split
  · exact h1.1
  · exact h4.1
  · exact h1.1
  · exact h5.1
  · exact h3.1
  · exact hr
theorem gL_le {b : List (BitVec 8)} : ∀ (l : List (BitVec 8)) (m : api_Msg) {r : rdr}, r.a ≤ b.length → (gL b l m r).2.a ≤ b.length
  | [], m, r, h => h
  | c :: l, m, r, h => gL_le l _ (gS_le h)
theorem get_l {b : List (BitVec 8)} (hb : b.length ≤ 1000000) (x : List (BitVec 8)) : ∀ (l s : List (BitVec 8)) (p : Nat) (m : api_Msg) (r : rdr), (∀ c ∈ l, isP c) → s.drop p = l → r.a ≤ b.length →
    ∃ q, wire_Get_l0 x ((s, p), m, r.o b) = some (q, (gW b l m r).1, (gW b l m r).2.o b)
  | [], s, p, m, r, _, h, _ => ⟨(s, p), by
    refine loopO_out (body := fun s => wire_Get_b0 x s.1 s.2.1 s.2.2) ?_
    simp only [wire_Get_b0, nxS_end h, Option.bind_some, Option.elim_none, gW]⟩
  | c :: l, s, p, m, r, hl, h, hr => by
    have hc := hl c (List.mem_cons_self ..)
    obtain ⟨h1, h2⟩ := nxS_at (c := c) h (by rcases hc with rfl | rfl | rfl | rfl | rfl <;> decide)
    have hcode : octets_Reader_Code (r.o b) = some r.e := rfl
    by_cases he : r.e = 0
    · have key : wire_Get_b0 x (s, p) m (r.o b) = some (.inl ((s, p + 1), (gS b c m r).1, (gS b c m r).2.o b)) := by
        simp only [wire_Get_b0, h1, Option.bind_some, Option.elim_some, lt_eq, hcode, he, bne_self_eq_false, Bool.false_eq_true, if_false]
        unfold gS
        have l1 := rN_le hr 1099511627776
        have l2 := rN_le l1.1 1099511627776
        rcases hc with rfl | rfl | rfl | rfl | rfl
        · simp only [show ((((73#8 : BitVec 8).toNat : Int)) == 73) = true from rfl, if_true]
          rw [show (1099511627776 : Int) = ((1099511627776 : Nat) : Int) from rfl, octN_r hb hr (by omega)]
          rfl
        · simp only [show ((((75#8 : BitVec 8).toNat : Int)) == 73) = false from rfl, show ((((75#8 : BitVec 8).toNat : Int)) == 75) = true from rfl, Bool.false_eq_true, if_false, if_true, show ¬ (75#8 : BitVec 8) = 73#8 by decide]
          rw [show (40 : Int) = ((40 : Nat) : Int) from rfl, octB_r hb hr (by omega)]
          rfl
        · simp only [show ((((65#8 : BitVec 8).toNat : Int)) == 73) = false from rfl, show ((((65#8 : BitVec 8).toNat : Int)) == 75) = false from rfl, show ((((65#8 : BitVec 8).toNat : Int)) == 65) = true from rfl, Bool.false_eq_true, if_false, if_true, show ¬ (65#8 : BitVec 8) = 73#8 by decide, show ¬ (65#8 : BitVec 8) = 75#8 by decide]
          rw [show (1099511627776 : Int) = ((1099511627776 : Nat) : Int) from rfl, octN_r hb hr (by omega)]
          rfl
        · simp only [show ((((70#8 : BitVec 8).toNat : Int)) == 73) = false from rfl, show ((((70#8 : BitVec 8).toNat : Int)) == 75) = false from rfl, show ((((70#8 : BitVec 8).toNat : Int)) == 65) = false from rfl, show ((((70#8 : BitVec 8).toNat : Int)) == 70) = true from rfl, Bool.false_eq_true, if_false, if_true, show ¬ (70#8 : BitVec 8) = 73#8 by decide, show ¬ (70#8 : BitVec 8) = 75#8 by decide, show ¬ (70#8 : BitVec 8) = 65#8 by decide]
          have h5 := octN_r hb hr (m := 1) (by omega)
          rw [show ((1 : Nat) : Int) = 1 from rfl] at h5
          rw [h5]
          rfl
        · simp only [show ((((86#8 : BitVec 8).toNat : Int)) == 73) = false from rfl, show ((((86#8 : BitVec 8).toNat : Int)) == 75) = false from rfl, show ((((86#8 : BitVec 8).toNat : Int)) == 65) = false from rfl, show ((((86#8 : BitVec 8).toNat : Int)) == 70) = false from rfl, show ((((86#8 : BitVec 8).toNat : Int)) == 86) = true from rfl, Bool.false_eq_true, if_false, if_true, show ¬ (86#8 : BitVec 8) = 73#8 by decide, show ¬ (86#8 : BitVec 8) = 75#8 by decide, show ¬ (86#8 : BitVec 8) = 65#8 by decide, show ¬ (86#8 : BitVec 8) = 70#8 by decide]
          by_cases hf : m.Found = true
          · rw [if_pos hf, if_pos hf, show (1099511627776 : Int) = ((1099511627776 : Nat) : Int) from rfl, octN_r hb hr (by omega)]
            simp only [Option.bind_some]
            rw [octN_r hb l1.1 (by omega)]
            simp only [Option.bind_some]
            rw [show (4096 : Int) = ((4096 : Nat) : Int) from rfl, octB_r hb l2.1 (by omega)]
            rfl
          · rw [if_neg hf, if_neg hf]
      obtain ⟨q, hq⟩ := get_l hb x l s (p + 1) (gS b c m r).1 (gS b c m r).2 (fun d hd => hl d (List.mem_cons_of_mem _ hd)) h2 (gS_le hr)
      refine ⟨q, ?_⟩
      simp only [gW]
      rw [if_neg (by simp [he]), ← hq]
      exact loopO_in (body := fun s => wire_Get_b0 x s.1 s.2.1 s.2.2) key
    · refine ⟨(s, p + 1), loopO_out (body := fun s => wire_Get_b0 x s.1 s.2.1 s.2.2) ?_⟩
      simp only [wire_Get_b0, h1, Option.bind_some, Option.elim_some, lt_eq, hcode, gW]
      rw [if_pos (by simpa using he), if_pos he]
def zeroM : api_Msg := ⟨0, 0, 0, 0, 0, zeroE, false⟩
def hdM (b : List (BitVec 8)) : api_Msg × rdr :=
  (⟨(rN b ⟨0, 0⟩ 6).1, (rN b (rN b ⟨0, 0⟩ 6).2 16).1, (rN b (rN b (rN b ⟨0, 0⟩ 6).2 16).2 16).1, (rN b (rN b (rN b (rN b ⟨0, 0⟩ 6).2 16).2 16).2 1099511627776).1, 0, zeroE, false⟩, (rN b (rN b (rN b (rN b ⟨0, 0⟩ 6).2 16).2 16).2 1099511627776).2)
def bdM (b : List (BitVec 8)) : api_Msg × rdr := gL b (ptsA (hdM b).1.Kind) (hdM b).1 (hdM b).2
def endC (b : List (BitVec 8)) (r : rdr) : Int := if r.e = 0 ∧ r.a < b.length then 5 else r.e
def decM (b : List (BitVec 8)) : api_Msg × Int :=
  if b.length < 4 then (zeroM, 6) else if cfits b = false then (zeroM, 7) else
  if endC (b.take (b.length - 4)) (bdM (b.take (b.length - 4))).2 ≠ 0 then (zeroM, endC (b.take (b.length - 4)) (bdM (b.take (b.length - 4))).2) else
  if ckM (bdM (b.take (b.length - 4))).1 ≠ 0 then (zeroM, ckM (bdM (b.take (b.length - 4))).1) else ((bdM (b.take (b.length - 4))).1, 0)
theorem hdM_le (b : List (BitVec 8)) : (hdM b).2.a ≤ b.length := by
  have h1 := rN_le (b := b) (r := ⟨0, 0⟩) (by simp) 6
  have h2 := rN_le h1.1 16
  have h3 := rN_le h2.1 16
  exact (rN_le h3.1 1099511627776).1
theorem wget_eq {b : List (BitVec 8)} (hb : b.length ≤ 900000) : ∃ e, wire_Get b = some ((decM b).1, e) ∧ codeOf e = (decM b).2 ∧ e.isNil = decide ((decM b).2 = 0) := by
  unfold wire_Get decM
  simp only [lt_eq]
  by_cases h4 : b.length < 4
  · rw [if_pos (decide_eq_true (by omega)), if_pos h4, new_eq _ _ (6 : Int) (by decide)]
    exact ⟨_, rfl, rfl, rfl⟩
  · rw [if_neg (by rw [decide_eq_false (by omega)]; simp), if_neg h4, fits_eq (by omega)]
    simp only [Option.bind_some]
    cases hfit : cfits b with
    | false =>
      rw [if_pos rfl, new_eq _ _ (7 : Int) (by decide)]
      exact ⟨_, rfl, rfl, rfl⟩
    | true =>
      rw [if_neg (by simp), w64_eq (by omega) (by omega), show (b.length : Int) - 4 = ((b.length - 4 : Nat) : Int) by omega, cutTo_eq (by omega)]
      simp only [Option.bind_some]
      have hc : (b.take (b.length - 4)).length ≤ 900000 := by rw [List.length_take]; omega
      generalize b.take (b.length - 4) = c at *
      rw [read_eq (by omega)]
      simp only [Option.bind_some]
      have h1 := rN_le (b := c) (r := ⟨0, 0⟩) (by simp) 6
      have h2 := rN_le h1.1 16
      have h3 := rN_le h2.1 16
      have hle := hdM_le c
      have k1 := octN_r (b := c) (r := ⟨0, 0⟩) (by omega) (by simp) (m := 6) (by omega)
      have k2 := octN_r (b := c) (by omega) h1.1 (m := 16) (by omega)
      have k3 := octN_r (b := c) (by omega) h2.1 (m := 16) (by omega)
      have k4 := octN_r (b := c) (by omega) h3.1 (m := 1099511627776) (by omega)
      have e0 : (⟨c, 0, 0⟩ : octets_Reader) = rdr.o ⟨0, 0⟩ c := rfl
      rw [e0, show (6 : Int) = ((6 : Nat) : Int) from rfl, k1]
      simp only [Option.bind_some]
      rw [show (16 : Int) = ((16 : Nat) : Int) from rfl, k2]
      simp only [Option.bind_some]
      rw [k3]
      simp only [Option.bind_some]
      rw [show (1099511627776 : Int) = ((1099511627776 : Nat) : Int) from rfl, k4]
      simp only [Option.bind_some]
      rw [parts_eq]
      simp only [Option.bind_some]
      obtain ⟨q, hq⟩ := get_l (b := c) (by omega) b (ptsA (hdM c).1.Kind) (ptsA (hdM c).1.Kind) 0 (hdM c).1 (hdM c).2 (ptsA_is _) rfl hle
      have hq' := hq
      unfold hdM at hq
      simp only at hq
      have ez : z_api_Entry = zeroE := rfl
      simp only [z_api_Msg, ez, hq, Option.bind_some]
      have hg := gW_eq (b := c) (ptsA (hdM c).1.Kind) (hdM c).1 (hdM c).2
      have hgl := gL_le (b := c) (ptsA (hdM c).1.Kind) (hdM c).1 hle
      have ew : gW c (ptsA ((rN c ⟨0, 0⟩ 6).1 : Int)) ⟨((rN c ⟨0, 0⟩ 6).1 : Int), ((rN c (rN c ⟨0, 0⟩ 6).2 16).1 : Int), ((rN c (rN c (rN c ⟨0, 0⟩ 6).2 16).2 16).1 : Int), ((rN c (rN c (rN c (rN c ⟨0, 0⟩ 6).2 16).2 16).2 1099511627776).1 : Int), 0, zeroE, false⟩ (rN c (rN c (rN c (rN c ⟨0, 0⟩ 6).2 16).2 16).2 1099511627776).2 = gW c (ptsA (hdM c).1.Kind) (hdM c).1 (hdM c).2 := rfl
      rw [ew]
      unfold bdM
      generalize gW c (ptsA (hdM c).1.Kind) (hdM c).1 (hdM c).2 = W at *
      generalize gL c (ptsA (hdM c).1.Kind) (hdM c).1 (hdM c).2 = L at *
      obtain ⟨g1, g2⟩ := hg
      rw [g1]
      have he := end_eq (b := c) (a := L.2.a) (e := L.2.e) (by omega) hgl
      have he' : octets_Reader_End (L.2.o c) = some (endC c L.2, ⟨c, L.2.a, endC c L.2⟩) := he
      rw [he']
      simp only [Option.bind_some]
      by_cases h5 : endC c L.2 = 0
      · have b5 : (endC c L.2 != 0) = false := by simp [h5]
        simp only [b5, h5, Bool.false_eq_true, if_false, ne_eq, not_true_eq_false]
        have h6 : L.2.e = 0 := by
          unfold endC at h5
          split at h5
          · cases h5
          · exact h5
        rw [g2 h6]
        obtain ⟨e, e1, e2, e3⟩ := wcheck_eq L.1
        simp only [e1, Option.bind_some, e3]
        by_cases h7 : ckM L.1 = 0
        · simp only [h7, decide_true, Bool.not_true, Bool.false_eq_true, if_false, not_true_eq_false]
          exact ⟨_, rfl, rfl, rfl⟩
        · have h8 : e.isNil = false := by rw [e3]; simp [h7]
          simp only [h7, decide_false, Bool.not_false, if_true, not_false_eq_true, wrap_eq _ _ e h8, Option.bind_some]
          exact ⟨_, rfl, by simp [codeOf, e2], by simp [Err.isNil, h7]⟩
      · have b5 : (endC c L.2 != 0) = true := by simpa using h5
        have ha : octets_Reader_At ⟨c, L.2.a, endC c L.2⟩ = some (L.2.a : Int) := rfl
        simp only [b5, h5, if_true, ne_eq, not_false_eq_true, ha, Option.bind_some, new_eq _ _ _ h5]
        exact ⟨_, rfl, by simp [codeOf, h5], by simp [Err.isNil, h5]⟩
theorem ptsA_cases (k : Int) : (k = 2 ∧ ptsA k = [65#8, 70#8]) ∨ ((k = 3 ∨ k = 4) ∧ ptsA k = [75#8, 65#8]) ∨ (k = 5 ∧ ptsA k = [73#8, 75#8]) ∨ (k = 6 ∧ ptsA k = [73#8, 75#8, 65#8, 70#8, 86#8]) ∨ (k ≠ 2 ∧ k ≠ 3 ∧ k ≠ 4 ∧ k ≠ 5 ∧ k ≠ 6 ∧ ptsA k = []) := by
  by_cases h2 : k = 2
  · exact .inl ⟨h2, by rw [h2]; rfl⟩
  by_cases h3 : k = 3
  · exact .inr (.inl ⟨.inl h3, by rw [h3]; rfl⟩)
  by_cases h4 : k = 4
  · exact .inr (.inl ⟨.inr h4, by rw [h4]; rfl⟩)
  by_cases h5 : k = 5
  · exact .inr (.inr (.inl ⟨h5, by rw [h5]; rfl⟩))
  by_cases h6 : k = 6
  · exact .inr (.inr (.inr (.inl ⟨h6, by rw [h6]; rfl⟩)))
  exact .inr (.inr (.inr (.inr ⟨h2, h3, h4, h5, h6, by simp [ptsA, h2, h3, h4, h5, h6]⟩)))
def upP (m : api_Msg) (c : BitVec 8) (z : api_Msg) : api_Msg :=
  if c = 73#8 then { z with Id := m.Id }
  else if c = 75#8 then { z with X := { z.X with Key := m.X.Key } }
  else if c = 65#8 then { z with X := { z.X with AsOf := m.X.AsOf } }
  else if c = 70#8 then { z with Found := m.Found }
  else if m.Found = true then { z with X := { z.X with Version := m.X.Version, Ends := m.X.Ends, Value := m.X.Value } } else z
theorem gS_is {m z : api_Msg} {b l : List (BitVec 8)} {c : BitVec 8} {r : rdr} (hc : okP m c) (he : r.e = 0) (hr : r.a ≤ b.length) (h : b.drop r.a = stP m c ++ l) (hf : c = 86#8 → z.Found = m.Found) : gS b c z r = (upP m c z, ⟨r.a + (stP m c).length, 0⟩) := by
  unfold gS upP
  unfold stP at h ⊢
  rcases hc with ⟨rfl, g1, g2⟩ | ⟨rfl, g⟩ | ⟨rfl, g1, g2⟩ | rfl | ⟨rfl, g⟩
  · simp only [if_true] at h ⊢
    have k := rN_is he h (m := 1099511627776) (by omega) (by omega)
    have e2 : (m.Id.toNat : Int) = m.Id := by omega
    rw [k]
    simp only [e2]
  · simp only [show ¬ (75#8 : BitVec 8) = 73#8 by decide, if_true, if_false] at h ⊢
    rw [List.append_assoc] at h
    have k := rB_is he hr h (m := 40) (by omega) (by omega)
    rw [k, List.length_append, Nat.add_assoc]
  · simp only [show ¬ (65#8 : BitVec 8) = 73#8 by decide, show ¬ (65#8 : BitVec 8) = 75#8 by decide, if_true, if_false] at h ⊢
    have k := rN_is he h (m := 1099511627776) (by omega) (by omega)
    have e2 : (m.X.AsOf.toNat : Int) = m.X.AsOf := by omega
    rw [k]
    simp only [e2]
  · simp only [show ¬ (70#8 : BitVec 8) = 73#8 by decide, show ¬ (70#8 : BitVec 8) = 75#8 by decide, show ¬ (70#8 : BitVec 8) = 65#8 by decide, if_true, if_false] at h ⊢
    have k := rN_is he h (m := 1) (by split <;> omega) (by split <;> omega)
    rw [k]
    cases hF : m.Found <;> simp
  · simp only [show ¬ (86#8 : BitVec 8) = 73#8 by decide, show ¬ (86#8 : BitVec 8) = 75#8 by decide, show ¬ (86#8 : BitVec 8) = 65#8 by decide, show ¬ (86#8 : BitVec 8) = 70#8 by decide, if_false, hf rfl] at h ⊢
    by_cases hF : m.Found = true
    · simp only [hF, if_true, List.append_assoc] at h ⊢
      obtain ⟨a1, a2, a3, a4, a5, a6, a7, a8, a9⟩ := ck_ok (g hF)
      have k1 := rN_is he h (m := 1099511627776) (by omega) (by omega)
      have d1 := drop_app h
      have l1 := (rN_le hr 1099511627776).1
      rw [k1] at l1
      have k2 := rN_is (r := ⟨r.a + (num7 m.X.Version.toNat).length, 0⟩) rfl d1 (m := 1099511627776) (by omega) (by omega)
      have d2 := drop_app d1
      have l2 := (rN_le l1 1099511627776).1
      rw [k2] at l2
      have k3 := rB_is (r := ⟨r.a + (num7 m.X.Version.toNat).length + (num7 m.X.Ends.toNat).length, 0⟩) rfl l2 d2 (m := 4096) (by omega) (by omega)
      have e2 : (m.X.Version.toNat : Int) = m.X.Version := by omega
      have e3 : (m.X.Ends.toNat : Int) = m.X.Ends := by omega
      simp only [k1, k2, k3, e2, e3]
      refine Prod.ext rfl ?_
      simp only [List.length_append, rdr.mk.injEq, and_true]
      omega
    · simp only [hF, Bool.false_eq_true, if_false, List.length_nil, Nat.add_zero]
      refine Prod.ext rfl ?_
      obtain ⟨a, e⟩ := r
      simp only at he
      subst he
      rfl
theorem gL_is {m : api_Msg} {b rest : List (BitVec 8)} : ∀ (l : List (BitVec 8)) (z : api_Msg) (r : rdr), (∀ c ∈ l, okP m c) → r.e = 0 → r.a ≤ b.length → b.drop r.a = l.flatMap (stP m) ++ rest →
    (86#8 ∉ l ∨ z.Found = m.Found ∨ ∃ l1 l2, l = l1 ++ 70#8 :: l2 ∧ 86#8 ∉ l1) → gL b l z r = (l.foldl (fun z c => upP m c z) z, ⟨r.a + (l.flatMap (stP m)).length, 0⟩)
  | [], z, r, _, he, _, h, _ => by
    obtain ⟨a, e⟩ := r
    simp only at he
    subst he
    rfl
  | c :: l, z, r, hl, he, hr, h, hf => by
    have hc := hl c (List.mem_cons_self ..)
    simp only [List.flatMap_cons, List.append_assoc] at h
    have k := gS_is (z := z) hc he hr h (fun e => by
      subst e
      rcases hf with hf | hf | ⟨l1, l2, h1, h2⟩
      · exact absurd (List.mem_cons_self ..) hf
      · exact hf
      · cases l1 with
        | nil => simp at h1
        | cons x l1 => simp at h1; obtain ⟨rfl, _⟩ := h1; exact absurd (List.mem_cons_self ..) h2)
    have hle := gS_le (b := b) (c := c) (m := z) hr
    rw [k] at hle
    simp only [gL, k, List.foldl_cons]
    rw [gL_is l (upP m c z) ⟨r.a + (stP m c).length, 0⟩ (fun d hd => hl d (List.mem_cons_of_mem _ hd)) rfl hle (drop_app h) ?_]
    · simp only [List.flatMap_cons, List.length_append, Nat.add_assoc]
    · rcases hf with hf | hf | ⟨l1, l2, h1, h2⟩
      · exact .inl (fun h => hf (List.mem_cons_of_mem _ h))
      · refine .inr (.inl ?_)
        unfold upP
        repeat' split
        all_goals first | exact hf | rfl
      · cases l1 with
        | nil =>
          simp at h1
          obtain ⟨rfl, rfl⟩ := h1
          exact .inr (.inl rfl)
        | cons x l1 =>
          simp at h1
          obtain ⟨rfl, rfl⟩ := h1
          exact .inr (.inr ⟨l1, l2, rfl, fun h => h2 (List.mem_cons_of_mem _ h)⟩)
theorem ptsA_F (k : Int) (z m : api_Msg) : 86#8 ∉ ptsA k ∨ z.Found = m.Found ∨ ∃ l1 l2, ptsA k = l1 ++ 70#8 :: l2 ∧ 86#8 ∉ l1 := by
  rcases ptsA_cases k with ⟨_, hp⟩ | ⟨_, hp⟩ | ⟨_, hp⟩ | ⟨_, hp⟩ | ⟨_, _, _, _, _, hp⟩ <;> rw [hp]
  · exact .inl (by decide)
  · exact .inl (by decide)
  · exact .inl (by decide)
  · exact .inr (.inr ⟨[73#8, 75#8, 65#8], [86#8], rfl, by decide⟩)
  · exact .inl (by simp)
theorem fold_up {m : api_Msg} (h : okM m) : (ptsA m.Kind).foldl (fun z c => upP m c z) ⟨m.Kind, m.From, m.To, m.Epoch, 0, zeroE, false⟩ = m := by
  have h1 := h.k1; have h2 := h.k6; have i0 := h.i0; have key0 := h.key0; have a0 := h.a0; have f := h.f; have v0 := h.v0
  clear h
  obtain ⟨k, fr, t, e, i, ⟨key, ver, asf, ends, val⟩, fd⟩ := m
  simp only at *
  have h0 : k = 1 ∨ k = 2 ∨ k = 3 ∨ k = 4 ∨ k = 5 ∨ k = 6 := by omega
  rcases h0 with rfl | rfl | rfl | rfl | rfl | rfl
  · simp at *; simp [ptsA, zeroE, *]
  · simp at *; simp [ptsA, zeroE, upP, *]
  · simp at *; simp [ptsA, zeroE, upP, *]
  · simp at *; simp [ptsA, zeroE, upP, *]
  · simp at *; simp [ptsA, zeroE, upP, *]
  · cases fd
    · simp at *; simp [ptsA, zeroE, upP, *]
    · simp [ptsA, zeroE, upP]
theorem dec_enc {m : api_Msg} (h : ckM m = 0) : decM (cseal (encM m)) = (m, 0) := by
  have ho := ckM_ok h
  have hl := cseal_len (encM m)
  have htk : (cseal (encM m)).take ((cseal (encM m)).length - 4) = encM m := by
    rw [hl, Nat.add_sub_cancel]
    exact List.take_left' rfl
  unfold decM
  rw [if_neg (by omega), cseal_fits, if_neg (by simp), htk]
  have g1 := ho.k1; have g2 := ho.k6; have g3 := ho.f0; have g4 := ho.f1; have g5 := ho.t0; have g6 := ho.t1; have g7 := ho.e1; have g8 := ho.e2
  have hb : bdM (encM m) = (m, ⟨(encM m).length, 0⟩) := by
    have d0 : (encM m).drop 0 = num7 m.Kind.toNat ++ (num7 m.From.toNat ++ (num7 m.To.toNat ++ (num7 m.Epoch.toNat ++ ((ptsA m.Kind).flatMap (stP m) ++ [])))) := by simp [encM]
    generalize hb : encM m = b at *
    have k1 := rN_is (b := b) (r := ⟨0, 0⟩) rfl d0 (m := 6) (by omega) (by omega)
    have d1 := drop_app d0
    have l1 := (rN_le (b := b) (r := ⟨0, 0⟩) (by simp) 6).1
    rw [k1] at l1
    have k2 := rN_is (r := ⟨0 + (num7 m.Kind.toNat).length, 0⟩) rfl d1 (m := 16) (by omega) (by omega)
    have d2 := drop_app d1
    have l2 := (rN_le l1 16).1
    rw [k2] at l2
    have k3 := rN_is (r := ⟨0 + (num7 m.Kind.toNat).length + (num7 m.From.toNat).length, 0⟩) rfl d2 (m := 16) (by omega) (by omega)
    have d3 := drop_app d2
    have l3 := (rN_le l2 16).1
    rw [k3] at l3
    have k4 := rN_is (r := ⟨0 + (num7 m.Kind.toNat).length + (num7 m.From.toNat).length + (num7 m.To.toNat).length, 0⟩) rfl d3 (m := 1099511627776) (by omega) (by omega)
    have d4 := drop_app d3
    have l4 := (rN_le l3 1099511627776).1
    rw [k4] at l4
    have hh : hdM b = (⟨m.Kind, m.From, m.To, m.Epoch, 0, zeroE, false⟩, ⟨0 + (num7 m.Kind.toNat).length + (num7 m.From.toNat).length + (num7 m.To.toNat).length + (num7 m.Epoch.toNat).length, 0⟩) := by
      unfold hdM
      simp only [k1, k2, k3, k4]
      rw [show (m.Kind.toNat : Int) = m.Kind by omega, show (m.From.toNat : Int) = m.From by omega, show (m.To.toNat : Int) = m.To by omega, show (m.Epoch.toNat : Int) = m.Epoch by omega]
    unfold bdM
    rw [hh]
    simp only
    rw [gL_is (m := m) (rest := []) (ptsA m.Kind) _ _ ho.pts rfl l4 d4 (ptsA_F _ _ _), fold_up ho]
    refine Prod.ext rfl ?_
    simp only [rdr.mk.injEq, and_true]
    rw [← hb]
    simp only [encM, List.length_append]
    omega
  rw [hb]
  have he : endC (encM m) ⟨(encM m).length, 0⟩ = 0 := by simp [endC]
  simp [he, h]
def exM : api_Msg := ⟨6, 0, 3, 2, 7, ⟨[107#8], 4, 5, 0, [118#8]⟩, true⟩
end Go.Proofs.YtedcgeghgbgonaaDoor
namespace Go.Proofs.YtedcgeghgbgonaaDoor
open Go Go.Va
set_option linter.unusedVariables false
set_option linter.unusedSimpArgs false
set_option maxRecDepth 20000
noncomputable def slices_Clone_byte_byte (x0 : List (BitVec 8)) : Option ((List (BitVec 8))) :=
 (app 1 ([] : List (BitVec 8)) x0).bind fun v6 =>
 some v6
end Go.Proofs.YtedcgeghgbgonaaDoor
namespace Go.Proofs.YtedcgeghgbgonaaDoor
open Go Go.Va
set_option linter.unusedVariables false
set_option linter.unusedSimpArgs false
abbrev Itm := lines_parcel × api_Msg × Bool
structure PR (x : Itm) : Prop where
  ok : ckM x.2.1 = 0
  val : x.2.1.X.Value.length ≤ 5000
  sp : x.1.spoilt = x.2.2
  len : x.1.b.length = (cseal (encM x.2.1)).length
  good : x.2.2 = false → x.1.b = cseal (encM x.2.1)
  bad : x.2.2 = true → cfits x.1.b = false
abbrev Wy := List Itm × Int
def nL (s : Wy) : lines_Lines := ⟨s.1.map (·.1), s.2⟩
structure Iv (s : Wy) : Prop where
  q : ∀ x ∈ s.1, PR x
  n : s.1.length ≤ 200
theorem nL_len (s : Wy) : (nL s).l.length = s.1.length := by simp [nL]
theorem PR.bl {x : Itm} (h : PR x) : x.1.b.length ≤ 21040 ∧ 4 ≤ x.1.b.length := by
  have h1 := encM_len (ckM_ok h.ok)
  have h2 := cseal_len (encM x.2.1)
  have h3 := h.len
  omega
theorem at_out (s : Wy) (op : List (BitVec 8)) {i : Int} (h : i < 0 ∨ (s.1.length : Int) ≤ i) : lines_Lines_at (nL s) op i = some (.fault op i 9 .nil) := by
  unfold lines_Lines_at
  simp only [lt_eq, nL_len]
  rw [new_eq op i 9 (by decide)]
  by_cases h0 : i < 0
  · rw [if_pos (decide_eq_true h0)]; rfl
  · rw [if_neg (by simpa using h0), decide_eq_true (show i ≥ (s.1.length : Int) by omega)]; rfl
theorem at_in (s : Wy) (op : List (BitVec 8)) {k : Nat} (h : k < s.1.length) : lines_Lines_at (nL s) op (k : Int) = some .nil := by
  unfold lines_Lines_at
  simp only [lt_eq, nL_len]
  rw [if_neg (by simp), decide_eq_false (show ¬ (k : Int) ≥ (s.1.length : Int) by omega)]
  rfl
theorem chk_in (s : Wy) {k : Nat} (h : k < s.1.length) : chk (nL s).l.length (k : Int) = some () := by
  unfold chk; rw [nL_len, if_pos (by omega)]
theorem ixA_in (s : Wy) {k : Nat} (h : k < s.1.length) : ixA (nL s).l.length (nL s).l (k : Int) = some s.1[k].1 := by
  rw [ixA_nat (by rw [nL_len]; exact h) (by rw [nL_len]; exact h)]
  simp [nL]
theorem get_good {x : Itm} (h : PR x) (hd : x.2.2 = false) : wire_Get x.1.b = some (x.2.1, .nil) := by
  have hb := h.bl
  obtain ⟨e, e1, e2, e3⟩ := wget_eq (b := x.1.b) (by omega)
  rw [h.good hd, dec_enc h.ok] at e1 e2 e3
  rw [h.good hd, e1]
  cases e with
  | nil => rfl
  | fault _ _ _ _ => simp [Err.isNil] at e3
theorem get_bad {x : Itm} (h : PR x) (hd : x.2.2 = true) : ∃ o a, wire_Get x.1.b = some (zeroM, .fault o a 7 .nil) := by
  have hb := h.bl
  unfold wire_Get
  simp only [lt_eq]
  rw [if_neg (by rw [decide_eq_false (by omega)]; simp), fits_eq (by omega), h.bad hd]
  simp only [Option.bind_some, Bool.not_false, if_true]
  rw [new_eq _ _ (7 : Int) (by decide)]
  exact ⟨_, _, rfl⟩
theorem look_out (s : Wy) {i : Int} (h : i < 0 ∨ (s.1.length : Int) ≤ i) : ∃ o, lines_Lines_Look (nL s) i = some (zeroM, .fault o i 9 .nil) := by
  unfold lines_Lines_Look
  simp only [lt_eq]
  rw [at_out s _ h]
  exact ⟨_, rfl⟩
theorem look_in {s : Wy} (I : Iv s) {k : Nat} (h : k < s.1.length) : (s.1[k].2.2 = false → lines_Lines_Look (nL s) (k : Int) = some (s.1[k].2.1, .nil)) ∧ (s.1[k].2.2 = true → ∃ e, lines_Lines_Look (nL s) (k : Int) = some (zeroM, e) ∧ codeOf e = 7 ∧ e.isNil = false ∧ hasE e 9 = false) := by
  have P := I.q _ (List.getElem_mem h)
  unfold lines_Lines_Look
  simp only [lt_eq]
  rw [at_in s _ h]
  simp only [Option.bind_some, Err.isNil, Bool.not_true, Bool.false_eq_true, if_false, chk_in s h, ixA_in s h]
  refine ⟨fun hd => ?_, fun hd => ?_⟩
  · rw [get_good P hd]
    rfl
  · obtain ⟨o, a, e⟩ := get_bad P hd
    rw [e]
    simp only [Option.bind_some]
    rw [wrap_eq _ _ _ rfl]
    exact ⟨_, rfl, rfl, rfl, rfl⟩
def goodL (l : List Itm) : List api_Msg := (l.filter fun x => !x.2.2).map (·.2.1)
theorem goodL_snoc (l : List Itm) (x : Itm) : goodL (l ++ [x]) = if x.2.2 = true then goodL l else goodL l ++ [x.2.1] := by
  unfold goodL
  rw [List.filter_append, List.map_append]
  cases h : x.2.2 <;> simp [h]
theorem goodL_len (l : List Itm) : (goodL l).length ≤ l.length := by
  unfold goodL
  rw [List.length_map]
  exact List.length_filter_le _ _
theorem all_eq {s : Wy} (I : Iv s) : lines_Lines_All (nL s) = some (goodL s.1) := by
  have hn := I.n
  unfold lines_Lines_All lines_Lines_All_l0
  simp only [lt_eq, nL_len]
  have key := loopO_up (body := fun z => lines_Lines_All_b0 (nL s) (s.1.length : Int) z.1 z.2) (fun i => (goodL (s.1.take i), (i : Int))) s.1.length (x := goodL (s.1.take s.1.length)) (fun i hi => by
    unfold lines_Lines_All_b0
    simp only [lt_eq]
    obtain ⟨g1, g2⟩ := look_in I hi
    have P := I.q _ (List.getElem_mem hi)
    have hl := goodL_len (s.1.take i)
    rw [List.length_take] at hl
    rw [if_pos (decide_eq_true (by omega)), chk_in s hi]
    simp only [Option.bind_some, ixA_in s hi]
    rw [List.take_succ_eq_append_getElem hi, goodL_snoc]
    cases hd : s.1[i].2.2 with
    | false =>
      rw [g1 hd]
      simp only [Option.bind_some, Err.isNil, if_true, P.sp, hd, Bool.not_false, Bool.false_eq_true, if_false]
      rw [app_eq (by simp; omega), w64_nat (by omega)]
      rfl
    | true =>
      obtain ⟨e, e1, _, e3, _⟩ := g2 hd
      rw [e1]
      simp only [Option.bind_some, e3, Bool.false_eq_true, if_false, if_true]
      rw [w64_nat (by omega)]) (by
    unfold lines_Lines_All_b0
    simp only [lt_eq]
    rw [if_neg (by simp)])
  rw [List.take_length] at key
  have k2 : loopO (fun z => lines_Lines_All_b0 (nL s) (s.1.length : Int) z.1 z.2) ([], 0) = _ := key
  rw [k2]
  rfl
theorem len_eq26 (s : Wy) : lines_Lines_Len (nL s) = some (s.1.length : Int) := by
  unfold lines_Lines_Len
  simp [lt_eq, nL_len]
theorem lost_eq26 (s : Wy) : lines_Lines_Lost (nL s) = some s.2 := rfl
def itm (m : api_Msg) : Itm := (⟨cseal (encM m), false⟩, m, false)
def send1 (s : Wy) (m : api_Msg) : Wy := if ckM m ≠ 0 ∨ 200 ≤ s.1.length then (s.1, w64 (s.2 + 1)) else (s.1 ++ [itm m], s.2)
theorem itm_ok {m : api_Msg} (h : ckM m = 0) (hv : m.X.Value.length ≤ 5000) : PR (itm m) := ⟨h, hv, rfl, rfl, fun _ => rfl, fun h => by cases h⟩
theorem send1_ok {s : Wy} (I : Iv s) {m : api_Msg} (hv : m.X.Value.length ≤ 5000) : Iv (send1 s m) := by
  unfold send1
  split
  · exact ⟨I.q, I.n⟩
  · rename_i h
    refine ⟨fun x hx => ?_, by simp; omega⟩
    rcases List.mem_append.1 hx with hx | hx
    · exact I.q x hx
    · rw [List.mem_singleton.1 hx]; exact itm_ok (by omega) hv
theorem sends_ok : ∀ (l : List api_Msg) {s : Wy}, Iv s → (∀ m ∈ l, m.X.Value.length ≤ 5000) → Iv (l.foldl send1 s)
  | [], s, I, _ => I
  | m :: l, s, I, h => sends_ok l (send1_ok I (h m List.mem_cons_self)) fun x hx => h x (List.mem_cons_of_mem _ hx)
theorem sendN_eq {s : Wy} (I : Iv s) {l : List api_Msg} (hl : l.length ≤ 1000000) (h : ∀ m ∈ l, m.X.Value.length ≤ 5000) : lines_Lines_Send (nL s) l = some (nL (l.foldl send1 s)) := by
  unfold lines_Lines_Send lines_Lines_Send_l0
  simp only [lt_eq]
  have key := loopO_up (body := fun z => lines_Lines_Send_b0 l (l.length : Int) z.1 z.2.1 z.2.2) (fun i => ((i : Int), (nL ((l.take i).foldl send1 s)).l, nL ((l.take i).foldl send1 s))) l.length (x := ((nL ((l.take l.length).foldl send1 s)).l, nL ((l.take l.length).foldl send1 s))) (fun i hi => by
    have Ii := sends_ok (l.take i) I (fun m hm => h m (List.mem_of_mem_take hm))
    rw [List.take_succ_eq_append_getElem hi, List.foldl_append]
    generalize (l.take i).foldl send1 s = t at *
    have hn := Ii.n
    unfold lines_Lines_Send_b0
    simp only [lt_eq, nL_len]
    rw [if_pos (decide_eq_true (by omega)), ix_nat hi]
    obtain ⟨p1, p2⟩ := wput_eq l[i]
    simp only [Option.bind_some, List.foldl_cons, List.foldl_nil]
    unfold send1
    by_cases hc : ckM l[i] = 0
    · rw [p1 hc]
      simp only [Option.bind_some, Err.isNil, Bool.not_true, Bool.false_eq_true, if_false, hc, ne_eq, not_true_eq_false, false_or]
      by_cases h2 : 200 ≤ t.1.length
      · rw [decide_eq_true (show (t.1.length : Int) ≥ 200 by omega), if_pos rfl, if_pos h2, w64_nat (by omega)]
        rfl
      · rw [decide_eq_false (show ¬ (t.1.length : Int) ≥ 200 by omega), if_neg (by decide), if_neg h2, app_eq (by simp [nL_len]; omega), w64_nat (by omega)]
        simp [nL, itm]
    · obtain ⟨e, e1, _, e3⟩ := p2 hc
      rw [e1]
      simp only [Option.bind_some, e3, Bool.not_false, if_true]
      rw [if_pos (.inl hc), w64_nat (by omega)]
      rfl) (by
    unfold lines_Lines_Send_b0
    simp only [lt_eq]
    rw [if_neg (by simp)])
  rw [List.take_length] at key
  simp only [List.take_zero, List.foldl_nil] at key
  have k2 : loopO (fun z => lines_Lines_Send_b0 l (l.length : Int) z.1 z.2.1 z.2.2) (0, (nL s).l, nL s) = _ := key
  rw [k2]
  rfl
theorem del_eq (s : Wy) {k : Nat} (h : k < s.1.length) (hk : k < 1000000) : slices_Delete_lines_parcel_lines_parcel (nL s).l (k : Int) (w64 ((k : Int) + 1)) = some (nL (s.1.eraseIdx k, s.2)).l := by
  unfold slices_Delete_lines_parcel_lines_parcel delO
  rw [w64_nat (by omega), nL_len, if_pos (by omega)]
  simp [nL, List.eraseIdx_eq_take_drop_succ, List.map_take, List.map_drop]
theorem erase_ok {s : Wy} (I : Iv s) (k : Nat) (z : Int) : Iv (s.1.eraseIdx k, z) :=
  ⟨fun x hx => I.q x (List.mem_of_mem_eraseIdx hx), Nat.le_trans (List.length_eraseIdx_le _ _) I.n⟩
theorem take_out (s : Wy) {i : Int} (h : i < 0 ∨ (s.1.length : Int) ≤ i) : ∃ e, lines_Lines_Take (nL s) i = some (zeroM, e, nL s) ∧ codeOf e = 9 ∧ e.isNil = false := by
  obtain ⟨o, e⟩ := look_out s h
  unfold lines_Lines_Take
  simp only [lt_eq, e, Option.bind_some, trouble_Has, hasE, show (((9 : Int) == 9 && (9 : Int) != 0) || false) = true from rfl, if_true]
  rw [wrap_eq _ _ _ rfl]
  exact ⟨_, rfl, rfl, rfl⟩
theorem take_in {s : Wy} (I : Iv s) {k : Nat} (h : k < s.1.length) : (s.1[k].2.2 = false → lines_Lines_Take (nL s) (k : Int) = some (s.1[k].2.1, .nil, nL (s.1.eraseIdx k, s.2))) ∧ (s.1[k].2.2 = true → ∃ e, lines_Lines_Take (nL s) (k : Int) = some (zeroM, e, nL (s.1.eraseIdx k, w64 (s.2 + 1))) ∧ codeOf e = 7 ∧ e.isNil = false) := by
  obtain ⟨g1, g2⟩ := look_in I h
  have hn := I.n
  unfold lines_Lines_Take
  simp only [lt_eq]
  refine ⟨fun hd => ?_, fun hd => ?_⟩
  · rw [g1 hd]
    simp only [Option.bind_some, trouble_Has, hasE, Bool.false_eq_true, if_false]
    rw [del_eq s h (by omega)]
    simp [Err.isNil, nL]
  · obtain ⟨e, e1, e2, e3, e4⟩ := g2 hd
    rw [e1]
    simp only [Option.bind_some, trouble_Has, e4, Bool.false_eq_true, if_false]
    rw [del_eq s h (by omega)]
    simp only [Option.bind_some, e3, Bool.not_false, if_true]
    rw [wrap_eq _ _ _ e3]
    refine ⟨_, rfl, by simp [codeOf, e2], rfl⟩
theorem drop_out (s : Wy) {i : Int} (h : i < 0 ∨ (s.1.length : Int) ≤ i) : ∃ e, lines_Lines_Drop (nL s) i = some (e, nL s) ∧ codeOf e = 9 ∧ e.isNil = false := by
  unfold lines_Lines_Drop
  simp only [lt_eq]
  rw [at_out s _ h]
  exact ⟨_, rfl, rfl, rfl⟩
theorem drop_in {s : Wy} (I : Iv s) {k : Nat} (h : k < s.1.length) : lines_Lines_Drop (nL s) (k : Int) = some (.nil, nL (s.1.eraseIdx k, w64 (s.2 + 1))) := by
  have hn := I.n
  unfold lines_Lines_Drop
  simp only [lt_eq]
  rw [at_in s _ h]
  simp only [Option.bind_some, Err.isNil, Bool.not_true, Bool.false_eq_true, if_false]
  rw [del_eq s h (by omega)]
  rfl
theorem twice_out (s : Wy) {i : Int} (h : i < 0 ∨ (s.1.length : Int) ≤ i) : ∃ e, lines_Lines_Twice (nL s) i = some (e, nL s) ∧ codeOf e = 9 ∧ e.isNil = false := by
  unfold lines_Lines_Twice
  simp only [lt_eq]
  rw [at_out s _ h]
  exact ⟨_, rfl, rfl, rfl⟩
theorem twice_full (s : Wy) {k : Nat} (h : k < s.1.length) (h2 : 200 ≤ s.1.length) : ∃ e, lines_Lines_Twice (nL s) (k : Int) = some (e, nL s) ∧ codeOf e = 4 ∧ e.isNil = false := by
  unfold lines_Lines_Twice
  simp only [lt_eq]
  rw [at_in s _ h]
  simp only [Option.bind_some, Err.isNil, Bool.not_true, Bool.false_eq_true, if_false, nL_len]
  rw [if_pos (decide_eq_true (by omega)), new_eq _ _ 4 (by decide)]
  exact ⟨_, rfl, rfl, rfl⟩
theorem twice_in {s : Wy} (I : Iv s) {k : Nat} (h : k < s.1.length) (h2 : s.1.length < 200) : lines_Lines_Twice (nL s) (k : Int) = some (.nil, nL (s.1 ++ [s.1[k]], s.2)) := by
  have P := I.q _ (List.getElem_mem h)
  have hb := P.bl
  unfold lines_Lines_Twice
  simp only [lt_eq]
  rw [at_in s _ h]
  simp only [Option.bind_some, Err.isNil, Bool.not_true, Bool.false_eq_true, if_false, chk_in s h, ixA_in s h]
  rw [nL_len, if_neg (by rw [decide_eq_false (by omega)]; decide)]
  have hm : mkS 1 ((s.1[k].1.b.length : Nat) : Int) 0#8 = some (List.replicate s.1[k].1.b.length 0#8) := by
    unfold mkS
    rw [if_pos (by omega)]
    simp
  have hc : cpL (List.replicate s.1[k].1.b.length 0#8) s.1[k].1.b = some s.1[k].1.b := by
    unfold cpL
    rw [if_pos (by simp)]
    simp
  simp only [hm, hc, Option.bind_some]
  rw [app_eq (by simp [nL_len]; omega)]
  simp [nL]
theorem spoilt_bits {s : List (BitVec 8)} {a : Nat} (ha : a < s.length) (by_ : BitVec 8) (h4 : 4 ≤ s.length) : ∃ k sh, k + 32 ≤ 8 * s.length ∧ sh < 32 ∧ k + sh = 8 * a ∧ sh ≤ 24 ∧ ∀ p, p < 8 * s.length → bitAt (s.set a (s[a] ^^^ by_)) p = (bitAt s p ^^ turned k (by_.setWidth 32 <<< sh) p) := by
  have key : ∀ k sh, k + 32 ≤ 8 * s.length → k + sh = 8 * a → sh ≤ 24 → ∀ p, p < 8 * s.length → bitAt (s.set a (s[a] ^^^ by_)) p = (bitAt s p ^^ turned k (by_.setWidth 32 <<< sh) p) := by
    intro k sh h1 h2 h3 p hp
    unfold bitAt turned
    by_cases hpa : p / 8 = a
    · rw [hpa, List.getD_eq_getElem?_getD, List.getElem?_set_self ha, List.getD_eq_getElem?_getD, List.getElem?_eq_getElem ha]
      simp only [Option.getD_some, BitVec.getLsbD_xor]
      congr 1
      rw [decide_eq_true (by omega), Bool.true_and, BitVec.getLsbD_shiftLeft, decide_eq_true (show p - k < 32 by omega), decide_eq_false (show ¬ p - k < sh by omega), show p - k - sh = p % 8 by omega]
      simp
      omega
    · rw [List.getD_eq_getElem?_getD, List.getElem?_set_ne (Ne.symm hpa), ← List.getD_eq_getElem?_getD]
      have : (decide (k ≤ p ∧ p < k + 32) && (by_.setWidth 32 <<< sh).getLsbD (p - k)) = false := by
        by_cases hr : k ≤ p ∧ p < k + 32
        · rw [decide_eq_true hr, Bool.true_and, BitVec.getLsbD_shiftLeft]
          by_cases hs : p - k < sh
          · simp [hs]
          · have : 8 ≤ p - k - sh := by omega
            simp [BitVec.getLsbD_of_ge by_ _ this]
        · rw [decide_eq_false hr]; rfl
      rw [this]
      simp
  by_cases h : a + 4 ≤ s.length
  · exact ⟨8 * a, 0, by omega, by omega, by omega, by omega, key _ _ (by omega) (by omega) (by omega)⟩
  · exact ⟨8 * (s.length - 4), 8 * a - 8 * (s.length - 4), by omega, by omega, by omega, by omega, key _ _ (by omega) (by omega) (by omega)⟩
theorem spoilt_fits {s : List (BitVec 8)} {a : Nat} (ha : a < s.length) {by_ : BitVec 8} (hb : by_ ≠ 0#8) (h4 : 4 ≤ s.length) (hf : cfits s = true) : cfits (s.set a (s[a] ^^^ by_)) = false := by
  obtain ⟨k, sh, h1, h2, h3, h5, h6⟩ := spoilt_bits ha by_ h4
  refine tells (w := by_.setWidth 32 <<< sh) (k := k) (fun h0 => hb ?_) (by simp) h1 hf h6
  apply BitVec.eq_of_getLsbD_eq
  intro i hi
  have := congrArg (fun w => w.getLsbD (sh + i)) h0
  simp only [BitVec.getLsbD_shiftLeft, BitVec.getLsbD_setWidth] at this
  rw [decide_eq_true (show sh + i < 32 by omega), decide_eq_false (show ¬ sh + i < sh by omega), show sh + i - sh = i by omega, decide_eq_true (show i < 32 by omega)] at this
  simpa using this
def bad1 (x : Itm) (a : Nat) (by_ : BitVec 8) : Itm := (⟨x.1.b.set a (x.1.b.getD a 0#8 ^^^ by_), true⟩, x.2.1, true)
theorem bad1_ok {x : Itm} (h : PR x) (hd : x.2.2 = false) {a : Nat} (ha : a < x.1.b.length) {by_ : BitVec 8} (hb : by_ ≠ 0#8) : PR (bad1 x a by_) := by
  have hbl := h.bl
  refine ⟨h.ok, h.val, rfl, by simp [bad1, h.len], fun h => (by cases h), fun _ => ?_⟩
  simp only [bad1]
  rw [List.getD_eq_getElem?_getD, List.getElem?_eq_getElem ha, Option.getD_some]
  exact spoilt_fits ha hb (by omega) (by rw [h.good hd]; exact cseal_fits _)
theorem spoil_out (s : Wy) {i : Int} (h : i < 0 ∨ (s.1.length : Int) ≤ i) (at_ : Int) (by_ : BitVec 8) : ∃ e, lines_Lines_Spoil (nL s) i at_ by_ = some (e, nL s) ∧ codeOf e = 9 ∧ e.isNil = false := by
  unfold lines_Lines_Spoil
  simp only [lt_eq]
  rw [at_out s _ h]
  exact ⟨_, rfl, rfl, rfl⟩
theorem spoil_twice {s : Wy} (I : Iv s) {k : Nat} (h : k < s.1.length) (hd : s.1[k].2.2 = true) (at_ : Int) (by_ : BitVec 8) : ∃ e, lines_Lines_Spoil (nL s) (k : Int) at_ by_ = some (e, nL s) ∧ codeOf e = 13 ∧ e.isNil = false := by
  have P := I.q _ (List.getElem_mem h)
  unfold lines_Lines_Spoil
  simp only [lt_eq]
  rw [at_in s _ h]
  simp only [Option.bind_some, Err.isNil, Bool.not_true, Bool.false_eq_true, if_false, chk_in s h, ixA_in s h, P.sp, hd, if_true]
  rw [new_eq _ _ 13 (by decide)]
  exact ⟨_, rfl, rfl, rfl⟩
theorem spoil_range {s : Wy} (I : Iv s) {k : Nat} (h : k < s.1.length) (hd : s.1[k].2.2 = false) {at_ : Int} {by_ : BitVec 8} (hr : at_ < 0 ∨ (s.1[k].1.b.length : Int) ≤ at_ ∨ by_ = 0#8) : ∃ e, lines_Lines_Spoil (nL s) (k : Int) at_ by_ = some (e, nL s) ∧ codeOf e = 2 ∧ e.isNil = false := by
  have P := I.q _ (List.getElem_mem h)
  unfold lines_Lines_Spoil
  simp only [lt_eq]
  rw [at_in s _ h]
  simp only [Option.bind_some, Err.isNil, Bool.not_true, Bool.false_eq_true, if_false, chk_in s h, ixA_in s h, P.sp, hd]
  have hs : (if decide (at_ < 0) = true then some true else if decide (at_ ≥ (s.1[k].1.b.length : Int)) = true then some true else some (by_ == 0#8)) = some true := by
    by_cases h1 : at_ < 0
    · rw [if_pos (decide_eq_true h1)]
    · rw [if_neg (by simpa using h1)]
      by_cases h2 : at_ ≥ (s.1[k].1.b.length : Int)
      · rw [if_pos (decide_eq_true h2)]
      · rw [if_neg (by simpa using h2)]
        have : by_ = 0#8 := by rcases hr with h | h | h; exact absurd h h1; exact absurd h h2; exact h
        subst this
        rfl
  rw [hs]
  simp only [Option.bind_some, if_true]
  rw [new_eq _ _ 2 (by decide)]
  exact ⟨_, rfl, rfl, rfl⟩
theorem spoil_in {s : Wy} (I : Iv s) {k : Nat} (h : k < s.1.length) (hd : s.1[k].2.2 = false) {a : Nat} (ha : a < s.1[k].1.b.length) {by_ : BitVec 8} (hb : by_ ≠ 0#8) : lines_Lines_Spoil (nL s) (k : Int) (a : Int) by_ = some (.nil, nL (s.1.set k (bad1 s.1[k] a by_), s.2)) := by
  have P := I.q _ (List.getElem_mem h)
  have hbl := P.bl
  unfold lines_Lines_Spoil
  simp only [lt_eq]
  rw [at_in s _ h]
  simp only [Option.bind_some, Err.isNil, Bool.not_true, Bool.false_eq_true, if_false, chk_in s h, ixA_in s h, P.sp, hd]
  rw [if_neg (by simp), if_neg (by rw [decide_eq_false (by omega)]; decide)]
  have hcl : slices_Clone_byte_byteV s.1[k].1.b = some s.1[k].1.b := by
    unfold slices_Clone_byte_byteV
    rw [app_eq (by simp; omega)]
    rfl
  have hc : chk s.1[k].1.b.length (a : Int) = some () := by unfold chk; rw [if_pos (by omega)]
  have hx : ixA s.1[k].1.b.length s.1[k].1.b (a : Int) = some s.1[k].1.b[a] := ixA_nat ha ha
  have hu : ∀ f : BitVec 8 → BitVec 8, updA s.1[k].1.b.length s.1[k].1.b (a : Int) f = some (s.1[k].1.b.set a (f s.1[k].1.b[a])) := fun f => by
    unfold updA
    rw [hx]
    simp
  simp only [show (by_ == 0#8) = false by simpa using hb, Option.bind_some, Bool.false_eq_true, if_false, hcl, hc, hx, hu]
  simp only [nL, bad1, List.map_set, Int.toNat_natCast]
  rw [List.getD_eq_getElem?_getD, List.getElem?_eq_getElem ha, Option.getD_some]
theorem set_ok {s : Wy} (I : Iv s) {k : Nat} {y : Itm} (hy : PR y) : Iv (s.1.set k y, s.2) :=
  ⟨fun x hx => by rcases List.mem_or_eq_of_mem_set hx with h | rfl; exact I.q x h; exact hy, by simpa using I.n⟩
end Go.Proofs.YtedcgeghgbgonaaDoor
namespace Go.Proofs.YtedcgeghgbgonaaDoor
open Go Go.Va
set_option linter.unusedSimpArgs false
set_option linter.unusedVariables false
def wf_runtime_boundsError (x : runtime_boundsError) : Prop := (wfI .i64) x.x ∧ (wfI .i64) x.y ∧ wfT x.signed ∧ wfT x.code
def wf_runtime_errorAddressString (x : runtime_errorAddressString) : Prop := wfS x.msg ∧ wfT x.addr
def wf_api_Entry (x : api_Entry) : Prop := wfS x.Key ∧ (wfI .i64) x.Version ∧ (wfI .i64) x.AsOf ∧ (wfI .i64) x.Ends ∧ (wfL wfT) x.Value
theorem opens33 : Opens Tryd.prog 33 e_api_Entry wf_api_Entry := by
  intro H enc w fuel cs x hx
  obtain ⟨xs, m, _, _, hl, hn, hx⟩ := DataW.trod_struct Tryd.underlying33 hx
  rw [cellsOf_sz tk sz33 (by decide)] at hl
  obtain ⟨y0, w0, r0, o0⟩ := opens_f hx hn 0 (o := 0) (s := 1) rfl (opens_s Tryd.underlying9) rfl (cellsOf_sz tk sz9 (by decide))
  obtain ⟨y1, w1, r1, o1⟩ := opens_f hx hn 1 (o := 1) (s := 1) rfl (opens_i64 Tryd.underlying3) rfl (cellsOf_sz tk sz3 (by decide))
  obtain ⟨y2, w2, r2, o2⟩ := opens_f hx hn 2 (o := 2) (s := 1) rfl (opens_i64 Tryd.underlying3) rfl (cellsOf_sz tk sz3 (by decide))
  obtain ⟨y3, w3, r3, o3⟩ := opens_f hx hn 3 (o := 3) (s := 1) rfl (opens_i64 Tryd.underlying3) rfl (cellsOf_sz tk sz3 (by decide))
  obtain ⟨y4, w4, r4, o4⟩ := opens_f hx hn 4 (o := 4) (s := 1) rfl (opens_l tk Tryd.underlying31 (enc_u td5 sz5) (opens_u rfl rfl Tryd.underlying5)) rfl (cellsOf_sz tk sz31 (by decide))
  refine ⟨⟨y0, y1, y2, y3, y4⟩, ⟨w0, w1, w2, w3, w4⟩, ?_, ?_⟩
  · have h := (rel_piece r0 (rel_piece r1 (rel_piece r2 (rel_piece r3 (rel_piece r4 (rel_end hl))))))
    rw [List.drop_zero] at h
    first | exact h | (simp only [List.append_nil, List.append_assoc] at h ⊢; exact h) | (simpa [AV.cells, e_api_Entry, c_api_Entry] using h)
  · have h := (one_piece o0 (one_piece o1 (one_piece o2 (one_piece o3 (one_piece o4 (one_end hl))))))
    rw [List.drop_zero] at h
    exact h
def wf_api_Msg (x : api_Msg) : Prop := (wfI .i64) x.Kind ∧ (wfI .i64) x.From ∧ (wfI .i64) x.To ∧ (wfI .i64) x.Epoch ∧ (wfI .i64) x.Id ∧ wf_api_Entry x.X ∧ wfT x.Found
theorem opens35 : Opens Tryd.prog 35 e_api_Msg wf_api_Msg := by
  intro H enc w fuel cs x hx
  obtain ⟨xs, m, _, _, hl, hn, hx⟩ := DataW.trod_struct Tryd.underlying35 hx
  rw [cellsOf_sz tk sz35 (by decide)] at hl
  obtain ⟨y0, w0, r0, o0⟩ := opens_f hx hn 0 (o := 0) (s := 1) rfl (opens_i64 Tryd.underlying3) rfl (cellsOf_sz tk sz3 (by decide))
  obtain ⟨y1, w1, r1, o1⟩ := opens_f hx hn 1 (o := 1) (s := 1) rfl (opens_i64 Tryd.underlying3) rfl (cellsOf_sz tk sz3 (by decide))
  obtain ⟨y2, w2, r2, o2⟩ := opens_f hx hn 2 (o := 2) (s := 1) rfl (opens_i64 Tryd.underlying3) rfl (cellsOf_sz tk sz3 (by decide))
  obtain ⟨y3, w3, r3, o3⟩ := opens_f hx hn 3 (o := 3) (s := 1) rfl (opens_i64 Tryd.underlying3) rfl (cellsOf_sz tk sz3 (by decide))
  obtain ⟨y4, w4, r4, o4⟩ := opens_f hx hn 4 (o := 4) (s := 1) rfl (opens_i64 Tryd.underlying3) rfl (cellsOf_sz tk sz3 (by decide))
  obtain ⟨y5, w5, r5, o5⟩ := opens_f hx hn 5 (o := 5) (s := 5) rfl opens33 rfl (cellsOf_sz tk sz33 (by decide))
  obtain ⟨y6, w6, r6, o6⟩ := opens_f hx hn 6 (o := 10) (s := 1) rfl (opens_b Tryd.underlying4) rfl (cellsOf_sz tk sz4 (by decide))
  refine ⟨⟨y0, y1, y2, y3, y4, y5, y6⟩, ⟨w0, w1, w2, w3, w4, w5, w6⟩, ?_, ?_⟩
  · have h := (rel_piece r0 (rel_piece r1 (rel_piece r2 (rel_piece r3 (rel_piece r4 (rel_piece r5 (rel_piece r6 (rel_end hl))))))))
    rw [List.drop_zero] at h
    first | exact h | (simp only [List.append_nil, List.append_assoc] at h ⊢; exact h) | (simpa [AV.cells, e_api_Msg, c_api_Msg] using h)
  · have h := (one_piece o0 (one_piece o1 (one_piece o2 (one_piece o3 (one_piece o4 (one_piece o5 (one_piece o6 (one_end hl))))))))
    rw [List.drop_zero] at h
    exact h
def wf_L26_Op (x : L26_Op) : Prop := (wfI .i64) x.Kind ∧ (wfL wf_api_Msg) x.L ∧ (wfI .i64) x.I ∧ (wfI .i64) x.At ∧ wfT x.By
theorem opens29 : Opens Tryd.prog 29 e_L26_Op wf_L26_Op := by
  intro H enc w fuel cs x hx
  obtain ⟨xs, m, _, _, hl, hn, hx⟩ := DataW.trod_struct Tryd.underlying29 hx
  rw [cellsOf_sz tk sz29 (by decide)] at hl
  obtain ⟨y0, w0, r0, o0⟩ := opens_f hx hn 0 (o := 0) (s := 1) rfl (opens_i64 Tryd.underlying3) rfl (cellsOf_sz tk sz3 (by decide))
  obtain ⟨y1, w1, r1, o1⟩ := opens_f hx hn 1 (o := 1) (s := 1) rfl (opens_l tk Tryd.underlying27 enc35 opens35) rfl (cellsOf_sz tk sz27 (by decide))
  obtain ⟨y2, w2, r2, o2⟩ := opens_f hx hn 2 (o := 2) (s := 1) rfl (opens_i64 Tryd.underlying3) rfl (cellsOf_sz tk sz3 (by decide))
  obtain ⟨y3, w3, r3, o3⟩ := opens_f hx hn 3 (o := 3) (s := 1) rfl (opens_i64 Tryd.underlying3) rfl (cellsOf_sz tk sz3 (by decide))
  obtain ⟨y4, w4, r4, o4⟩ := opens_f hx hn 4 (o := 4) (s := 1) rfl (opens_u rfl rfl Tryd.underlying5) rfl (cellsOf_sz tk sz5 (by decide))
  refine ⟨⟨y0, y1, y2, y3, y4⟩, ⟨w0, w1, w2, w3, w4⟩, ?_, ?_⟩
  · have h := (rel_piece r0 (rel_piece r1 (rel_piece r2 (rel_piece r3 (rel_piece r4 (rel_end hl))))))
    rw [List.drop_zero] at h
    first | exact h | (simp only [List.append_nil, List.append_assoc] at h ⊢; exact h) | (simpa [AV.cells, e_L26_Op, c_L26_Op] using h)
  · have h := (one_piece o0 (one_piece o1 (one_piece o2 (one_piece o3 (one_piece o4 (one_end hl))))))
    rw [List.drop_zero] at h
    exact h
def wf_lines_parcel (x : lines_parcel) : Prop := (wfL wfT) x.b ∧ wfT x.spoilt
def wf_lines_Lines (x : lines_Lines) : Prop := (wfL wf_lines_parcel) x.l ∧ (wfI .i64) x.lost
def wf_trouble_mark (x : trouble_mark) : Prop := (wfI .i64) x.code
def wf_octets_Reader (x : octets_Reader) : Prop := (wfL wfT) x.b ∧ (wfI .i64) x.at_ ∧ (wfI .i64) x.code
def wf_reflectlite_ValueError (x : reflectlite_ValueError) : Prop := wfS x.Method ∧ wfT x.Kind
def wf_abi_Method (x : abi_Method) : Prop := (wfI .i32) x.Name ∧ (wfI .i32) x.Mtyp ∧ (wfI .i32) x.Ifn ∧ (wfI .i32) x.Tfn
end Go.Proofs.YtedcgeghgbgonaaDoor
namespace Go.Proofs.YtedcgeghgbgonaaDoor
open Go Go.Va
set_option linter.unusedVariables false
set_option linter.unusedSimpArgs false
theorem light_in {l : List L26_Op} {i : Nat} (hi : i < l.length) (v : Int) : L26_light_l1 l (i : Int) v ([], 0) = some ((l[i].L.take 40).map (·.X)) := by
  have key := loopO_up (body := fun s => L26_light_b1 l (i : Int) v s.1 s.2) (fun j => ((l[i].L.take j).map (·.X), (j : Int))) (min 40 l[i].L.length) (x := (l[i].L.take (min 40 l[i].L.length)).map (·.X)) (fun j hj => by
    unfold L26_light_b1
    simp only [lt_eq, ix_nat hi, Option.bind_some]
    have hjl : j < l[i].L.length := by omega
    rw [if_pos (decide_eq_true (by omega)), decide_eq_true (show (j : Int) < 40 by omega)]
    simp only [Option.bind_some, if_true, ix_nat hjl]
    have e1 : (l[i].L.take (j + 1)).map (·.X) = (l[i].L.take j).map (·.X) ++ [l[i].L[j].X] := by
      rw [List.take_succ_eq_append_getElem hjl, List.map_append]; rfl
    rw [e1, app_eq (by rw [List.length_map, List.length_take, List.length_singleton]; omega), w64_nat (by omega)]
    rfl) (by
    unfold L26_light_b1
    simp only [lt_eq, ix_nat hi, Option.bind_some]
    by_cases h : ((min 40 l[i].L.length : Nat) : Int) < (l[i].L.length : Int)
    · rw [if_pos (decide_eq_true h), decide_eq_false (by omega)]
      rfl
    · rw [if_neg (by simpa using h)]
      rfl)
  have e : l[i].L.take (min 40 l[i].L.length) = l[i].L.take 40 := by
    by_cases h : 40 ≤ l[i].L.length
    · rw [Nat.min_eq_left h]
    · rw [Nat.min_eq_right (by omega), List.take_of_length_le (Nat.le_refl _), List.take_of_length_le (by omega)]
  rw [e] at key
  exact key
def cnt26 (l : List L26_Op) : Nat := (l.map fun o => o.L.length).sum
theorem light_l26 {l : List L26_Op} (hl : l.length ≤ 40) (hw : ∀ o ∈ l, o.L.length ≤ 9223372036854775807) : ∀ (d i k : Nat), i + d = l.length → k ≤ 300 → ∃ y, loopO (fun s => L26_light_b0 l s.1 s.2) ((k : Int), (i : Int)) = some y ∧ (y = .inr false ∨ (y = .inl () ∧ k + cnt26 (l.drop i) ≤ 300 ∧ ∀ o ∈ l.drop i, o.L.length ≤ 40 ∧ ∀ m ∈ o.L, m.X.Value.length ≤ 5000))
  | 0, i, k, hi, hk => by
    refine ⟨.inl (), loopO_out ?_, .inr ⟨rfl, ?_, ?_⟩⟩
    · unfold L26_light_b0
      simp only [lt_eq]
      rw [if_neg (by simp; omega)]
    · rw [List.drop_of_length_le (by omega)]; simpa [cnt26] using hk
    · rw [List.drop_of_length_le (by omega)]; intro o ho; cases ho
  | d + 1, i, k, hi, hk => by
    have hil : i < l.length := by omega
    have hwi := hw _ (List.getElem_mem hil)
    have hdrop : l.drop i = l[i] :: l.drop (i + 1) := List.drop_eq_getElem_cons hil
    by_cases h40 : l[i].L.length ≤ 40
    · by_cases h3 : k + l[i].L.length > 300
      · refine ⟨.inr false, loopO_out ?_, .inl rfl⟩
        unfold L26_light_b0
        simp only [lt_eq, ix_nat hil, Option.bind_some]
        rw [if_pos (decide_eq_true (by omega)), w64_eq (by omega) (by omega), if_pos (decide_eq_true (by omega))]
      · rcases light_eq ((l[i].L.take 40).map (·.X)) with h | ⟨h, h1, h2⟩
        · refine ⟨.inr false, loopO_out ?_, .inl rfl⟩
          unfold L26_light_b0
          simp only [lt_eq, ix_nat hil, Option.bind_some]
          rw [if_pos (decide_eq_true (by omega)), w64_eq (by omega) (by omega), if_neg (by rw [decide_eq_false (by omega)]; decide), light_in hil _]
          simp only [Option.bind_some]
          rw [if_neg (by rw [decide_eq_false (by omega)]; decide), h]
          rfl
        · obtain ⟨y, e1, e2⟩ := light_l26 hl hw d (i + 1) (k + l[i].L.length) (by omega) (by omega)
          refine ⟨y, ?_, ?_⟩
          · rw [← e1]
            refine loopO_in ?_
            simp only
            unfold L26_light_b0
            simp only [lt_eq, ix_nat hil, Option.bind_some]
            rw [if_pos (decide_eq_true (by omega)), w64_eq (by omega) (by omega), if_neg (by rw [decide_eq_false (by omega)]; decide), light_in hil _]
            simp only [Option.bind_some]
            rw [if_neg (by rw [decide_eq_false (by omega)]; decide), h]
            simp only [Option.bind_some, show decide ((0 : Int) > 0) = false from rfl, Bool.false_eq_true, if_false]
            rw [w64_nat (by omega)]
            simp
          · refine e2.imp id fun ⟨q1, q2, q3⟩ => ⟨q1, ?_, ?_⟩
            · rw [hdrop]
              simp only [cnt26, List.map_cons, List.sum_cons] at q2 ⊢
              omega
            · rw [hdrop]
              intro o ho
              rcases List.mem_cons.1 ho with rfl | ho
              · refine ⟨h40, fun m hm => ?_⟩
                rw [List.take_of_length_le h40] at h2
                exact (h2 m.X (List.mem_map_of_mem hm)).2
              · exact q3 o ho
    · refine ⟨.inr false, loopO_out ?_, .inl rfl⟩
      unfold L26_light_b0
      simp only [lt_eq, ix_nat hil, Option.bind_some]
      rw [if_pos (decide_eq_true (by omega))]
      split
      · rfl
      · rw [light_in hil _]
        simp only [Option.bind_some]
        rw [if_pos (decide_eq_true (by omega))]
        rfl
theorem light_eq26 {l : List L26_Op} (hw : ∀ o ∈ l, o.L.length ≤ 9223372036854775807) : L26_light l = some false ∨ (L26_light l = some true ∧ l.length ≤ 40 ∧ cnt26 l ≤ 300 ∧ ∀ o ∈ l, o.L.length ≤ 40 ∧ ∀ m ∈ o.L, m.X.Value.length ≤ 5000) := by
  unfold L26_light
  simp only [lt_eq]
  by_cases h : l.length > 40
  · left; rw [if_pos (decide_eq_true (by omega))]
  · rw [if_neg (by rw [decide_eq_false (by omega)]; decide)]
    obtain ⟨y, h1, h2⟩ := light_l26 (l := l) (by omega) hw l.length 0 0 (by omega) (by omega)
    have h1' : L26_light_l0 l (0, 0) = some y := h1
    rw [h1']
    rcases h2 with rfl | ⟨rfl, h3, h4⟩
    · exact .inl rfl
    · refine .inr ⟨rfl, by omega, by simpa using h3, by simpa using h4⟩
def m26 : api_Msg := ⟨1, 3, 0, 1, 0, zeroE, false⟩
theorem works26 : L26_works = some true := by
  have hm : ckM m26 = 0 := by decide +kernel
  have hz : ckM zeroM ≠ 0 := by decide +kernel
  have I0 : Iv ([], 0) := ⟨fun x hx => (by cases hx), by simp⟩
  have hS := sendN_eq I0 (l := [m26, zeroM, m26]) (by simp) (by simp [m26, zeroM, zeroE])
  have hs : [m26, zeroM, m26].foldl send1 (([], 0) : Wy) = ([itm m26, itm m26], 1) := by
    simp [send1, hm, hz, w64_eq]
  rw [hs] at hS
  have P := itm_ok hm (by simp [m26, zeroE])
  have hbl := P.bl
  have I1 : Iv ([itm m26, itm m26], 1) := ⟨fun x hx => (by simp at hx; rw [hx]; exact P), by simp⟩
  have h1 := spoil_in I1 (k := 0) (by simp) rfl (a := 2) (show 2 < (itm m26).1.b.length by omega) (by_ := 9#8) (by decide)
  have P2 := bad1_ok P rfl (a := 2) (by omega) (by_ := 9#8) (by decide)
  have I2 : Iv ([bad1 (itm m26) 2 9#8, itm m26], 1) := ⟨fun x hx => (by simp at hx; rcases hx with rfl | rfl; exact P2; exact P), by simp⟩
  obtain ⟨e2, h2, c2, n2⟩ := spoil_twice I2 (k := 0) (by simp) rfl 2 9#8
  have h3 := twice_in I2 (k := 1) (by simp) (by simp)
  have I3 : Iv ([bad1 (itm m26) 2 9#8, itm m26, itm m26], 1) := ⟨fun x hx => (by simp at hx; rcases hx with rfl | rfl; exact P2; exact P), by simp⟩
  obtain ⟨e4, h4, c4, n4⟩ := (take_in I3 (k := 0) (by simp)).2 rfl
  have I4 : Iv ([itm m26, itm m26], 2) := ⟨fun x hx => (by simp at hx; rw [hx]; exact P), by simp⟩
  have h5 := (take_in I4 (k := 1) (by simp)).1 rfl
  have I5 : Iv ([itm m26], 2) := ⟨fun x hx => (by simp at hx; rw [hx]; exact P), by simp⟩
  obtain ⟨e6, h6, c6, n6⟩ := drop_out ([itm m26], 2) (i := 5) (.inr (by simp))
  have h7 := all_eq I5
  unfold L26_works
  simp only [lt_eq]
  have e0 : lines_New = some (nL ([], 0)) := rfl
  have ez : z_api_Entry = zeroE := rfl
  rw [e0]
  simp only [Option.bind_some, ez]
  rw [show (⟨1, 3, 0, 1, 0, zeroE, false⟩ : api_Msg) = m26 from rfl, show (⟨0, 0, 0, 0, 0, zeroE, false⟩ : api_Msg) = zeroM from rfl, hS]
  simp only [Option.bind_some]
  have h1' : lines_Lines_Spoil (nL ([itm m26, itm m26], 1)) 0 2 9#8 = some (.nil, nL ([bad1 (itm m26) 2 9#8, itm m26], 1)) := h1
  rw [h1']
  simp only [Option.bind_some]
  have h2' : lines_Lines_Spoil (nL ([bad1 (itm m26) 2 9#8, itm m26], 1)) 0 2 9#8 = some (e2, nL ([bad1 (itm m26) 2 9#8, itm m26], 1)) := h2
  rw [h2']
  simp only [Option.bind_some]
  have h3' : lines_Lines_Twice (nL ([bad1 (itm m26) 2 9#8, itm m26], 1)) 1 = some (.nil, nL ([bad1 (itm m26) 2 9#8, itm m26, itm m26], 1)) := h3
  rw [h3']
  simp only [Option.bind_some]
  have h4' : lines_Lines_Take (nL ([bad1 (itm m26) 2 9#8, itm m26, itm m26], 1)) 0 = some (zeroM, e4, nL ([itm m26, itm m26], 2)) := h4
  rw [h4']
  simp only [Option.bind_some]
  have h5' : lines_Lines_Take (nL ([itm m26, itm m26], 2)) 1 = some (m26, .nil, nL ([itm m26], 2)) := h5
  rw [h5']
  simp only [Option.bind_some]
  rw [h6]
  simp only [Option.bind_some, Err.isNil, trouble_Of, c2, c4, c6, if_true]
  rw [rsame_eq _ _ (by simp [m26, zeroE])]
  simp only [decide_true, Option.bind_some, if_true, len_eq26, lost_eq26, h7]
  rfl
theorem send_tot : ∀ (l : List api_Msg) (s : Wy), 0 ≤ s.2 → s.2 + l.length ≤ 1000000 → 0 ≤ (l.foldl send1 s).2 ∧ (l.foldl send1 s).2 + ((l.foldl send1 s).1.length : Int) = s.2 + (s.1.length : Int) + l.length ∧ ∀ x ∈ (l.foldl send1 s).1, x ∈ s.1 ∨ x.2.1 ∈ l
  | [], s, h0, h1 => ⟨h0, by simp, fun x hx => .inl hx⟩
  | m :: l, s, h0, h1 => by
    simp only [List.length_cons] at h1
    have e : (send1 s m).2 + ((send1 s m).1.length : Int) = s.2 + (s.1.length : Int) + 1 ∧ 0 ≤ (send1 s m).2 ∧ (send1 s m).2 ≤ s.2 + 1 ∧ ∀ x ∈ (send1 s m).1, x ∈ s.1 ∨ x.2.1 = m := by
      unfold send1
      split
      · rw [w64_eq (by omega) (by omega)]
        exact ⟨by simp only; omega, by simp only; omega, Int.le_refl _, fun x hx => .inl hx⟩
      · refine ⟨by simp; omega, h0, by show s.2 ≤ s.2 + 1; omega, fun x hx => ?_⟩
        rcases List.mem_append.1 hx with h | h
        · exact .inl h
        · rw [List.mem_singleton.1 h]; exact .inr rfl
    obtain ⟨e1, e2, e3, e4⟩ := e
    obtain ⟨k1, k2, k3⟩ := send_tot l (send1 s m) e2 (by omega)
    simp only [List.foldl_cons]
    refine ⟨k1, by rw [k2]; simp only [List.length_cons]; omega, fun x hx => ?_⟩
    rcases k3 x hx with h | h
    · exact (e4 x h).imp id fun h => by rw [h]; exact List.mem_cons_self
    · exact .inr (List.mem_cons_of_mem _ h)
theorem met_eq (l : List L26_Op) {sent : List api_Msg} (a b c : Int) (o : L26_Op) (v : api_Msg × Err × lines_Lines) (x : api_Msg) (hs : sent.length ≤ 1000) (hv : ∀ m ∈ sent, m.X.Value.length ≤ 5000) (hx : x ∈ sent) : L26_LinesHonest_l1 l sent a b c o v x (false, 0) = some true := by
  have key := loopO_up (body := fun s => L26_LinesHonest_b1 l sent a b c o v x s.1 s.2) (fun j => ((sent.take j).any fun m => decide (m = x), (j : Int))) sent.length (x := (sent.take sent.length).any fun m => decide (m = x)) (fun j hj => by
    have hvj := hv _ (List.getElem_mem hj)
    unfold L26_LinesHonest_b1
    simp only [lt_eq]
    rw [if_pos (decide_eq_true (by omega)), List.take_succ_eq_append_getElem hj, List.any_append]
    cases hm : (sent.take j).any fun m => decide (m = x) with
    | true =>
      rw [if_pos rfl, w64_nat (by omega)]
      simp
    | false =>
      rw [if_neg (by decide), ix_nat hj]
      simp only [Option.bind_some]
      rw [rsame_eq _ _ (by omega), w64_nat (by omega)]
      simp) (by
    unfold L26_LinesHonest_b1
    simp only [lt_eq]
    rw [if_neg (by simp)])
  rw [List.take_length] at key
  have e : (sent.any fun m => decide (m = x)) = true := List.any_eq_true.2 ⟨x, hx, by simp⟩
  rw [e] at key
  exact key
structure Hon (l : List L26_Op) (j : Nat) (sent : List api_Msg) (all came : Int) (s : Wy) : Prop where
  I : Iv s
  c0 : 0 ≤ came
  l0 : 0 ≤ s.2
  tot : came + s.2 + (s.1.length : Int) = all
  len : sent.length ≤ cnt26 (l.take j)
  bd : all ≤ (cnt26 (l.take j) : Int) + j
  val : ∀ m ∈ sent, m.X.Value.length ≤ 5000
  src : ∀ x ∈ s.1, x.2.1 ∈ sent
theorem cnt_take {l : List L26_Op} {j : Nat} (h : j < l.length) : cnt26 (l.take (j + 1)) = cnt26 (l.take j) + l[j].L.length := by
  rw [List.take_succ_eq_append_getElem h]
  unfold cnt26
  rw [List.map_append, List.sum_append_nat]
  rfl
theorem cnt_le (l : List L26_Op) (j : Nat) : cnt26 (l.take j) ≤ cnt26 l := by
  have : cnt26 l = cnt26 (l.take j) + cnt26 (l.drop j) := by
    unfold cnt26
    rw [← List.sum_append_nat, ← List.map_append, List.take_append_drop]
  omega
theorem LinesHonest_pure (l : List L26_Op) (hw : wfL wf_L26_Op l) : L26_LinesHonest l = some true := by
  unfold L26_LinesHonest
  simp only [lt_eq]
  rcases light_eq26 (l := l) (fun o ho => (hw.2 o ho).2.1.1) with h | ⟨h, h1, h2, h3⟩
  · rw [h]
    simp only [Option.bind_some, Bool.not_false, if_true, works26]
  · rw [h]
    simp only [Option.bind_some, Bool.not_true, Bool.false_eq_true, if_false]
    have e0 : lines_New = some (nL ([], 0)) := rfl
    rw [e0]
    simp only [Option.bind_some]
    unfold L26_LinesHonest_l0
    have key := loopO_inv (body := fun z => L26_LinesHonest_b0 l z.1 z.2.1 z.2.2.1 z.2.2.2.1 z.2.2.2.2.1 z.2.2.2.2.2) (fun z => ∃ (j : Nat) (sent : List api_Msg) (all came : Int) (s : Wy), z = (sent, all, came, (j : Int), (nL s).l, nL s) ∧ j ≤ l.length ∧ Hon l j sent all came s) (fun z => (l.length : Int).toNat - z.2.2.2.1.toNat) (fun y => ∃ (all came : Int) (s : Wy), y = .inl (all, came, (nL s).l, nL s) ∧ 0 ≤ came ∧ 0 ≤ s.2 ∧ came + s.2 + (s.1.length : Int) = all ∧ all ≤ 100000) ?_ (s := (([] : List api_Msg), (0 : Int), (0 : Int), (0 : Int), (nL ([], 0)).l, nL ([], 0))) ⟨0, [], 0, 0, ([], 0), rfl, Nat.zero_le _, ⟨fun x hx => (by cases hx), by simp⟩, Int.le_refl _, Int.le_refl _, rfl, Nat.zero_le _, by simp [cnt26], fun m hm => (by cases hm), fun x hx => (by cases hx)⟩
    · obtain ⟨y, k1, all, came, s, rfl, q1, q2, q3, q4⟩ := key
      rw [k1]
      simp only [Option.bind_some, Sum.elim_inl]
      rw [show (({ nL s with l := (nL s).l } : lines_Lines)) = nL s from rfl, lost_eq26]
      simp only [Option.bind_some, len_eq26]
      rw [w64_eq (n := came + s.2) (by omega) (by omega), w64_eq (by omega) (by omega), q3, beq_self_eq_true, if_pos rfl, works26]
      rfl
    · rintro z ⟨j, sent, all, came, s, rfl, hj, G⟩
      have hc1 := cnt_le l j
      have hG := G.bd
      have hGt := G.tot
      have hG0 := G.c0
      have hG1 := G.l0
      have hsl := G.len
      unfold L26_LinesHonest_b0
      simp only [lt_eq]
      by_cases hjl : j < l.length
      · left
        have hm := h3 _ (List.getElem_mem hjl)
        have hct := cnt_take hjl
        have hc2 := cnt_le l (j + 1)
        rw [if_pos (decide_eq_true (by omega)), ix_nat hjl]
        simp only [Option.bind_some]
        rw [show (({ nL s with l := (nL s).l } : lines_Lines)) = nL s from rfl]
        have hin : (l[j].I < 0 ∨ (s.1.length : Int) ≤ l[j].I) ∨ ∃ k : Nat, l[j].I = (k : Int) ∧ k < s.1.length := by
          by_cases h : l[j].I < 0 ∨ (s.1.length : Int) ≤ l[j].I
          · exact .inl h
          · exact .inr ⟨l[j].I.toNat, by omega, by omega⟩
        have hj1 : w64 ((j : Int) + 1) = ((j + 1 : Nat) : Int) := w64_nat (by omega)
        have fin : ∀ (se : List api_Msg) (al ca : Int) (t : Wy), Hon l (j + 1) se al ca t → ∀ b : Option ((List api_Msg × Int × Int × Int × List lines_parcel × lines_Lines) ⊕ ((Int × Int × List lines_parcel × lines_Lines) ⊕ Bool)), b = some (.inl (se, al, ca, w64 ((j : Int) + 1), (nL t).l, nL t)) → ∃ s', b = some (.inl s') ∧ (∃ (j : Nat) (sent : List api_Msg) (all came : Int) (s : Wy), s' = (sent, all, came, (j : Int), (nL s).l, nL s) ∧ j ≤ l.length ∧ Hon l j sent all came s) ∧ (l.length : Int).toNat - s'.2.2.2.1.toNat < (l.length : Int).toNat - ((j : Int)).toNat := by
          intro se al ca t H b hb
          refine ⟨_, hb, ⟨j + 1, se, al, ca, t, by rw [hj1], hjl, H⟩, ?_⟩
          simp only [hj1]
          omega
        have same : ∀ t : Wy, Iv t → 0 ≤ t.2 → t.2 + (t.1.length : Int) = s.2 + (s.1.length : Int) → (∀ x ∈ t.1, x.2.1 ∈ sent) → Hon l (j + 1) sent all came t := fun t It h0 e hs => ⟨It, G.c0, h0, by omega, by omega, by omega, G.val, hs⟩
        have hI := G.I
        have hn := hI.n
        by_cases k0 : l[j].Kind = 0
        · rw [if_pos (beq_iff_eq.2 k0), sendN_eq hI (by omega) hm.2]
          simp only [Option.bind_some]
          obtain ⟨t1, t2, t3⟩ := send_tot l[j].L s G.l0 (by omega)
          rw [app_eq (by omega)]
          simp only [Option.bind_some]
          rw [w64_eq (n := all + _) (by omega) (by omega)]
          refine fin _ _ _ (l[j].L.foldl send1 s) ⟨sends_ok _ hI hm.2, G.c0, t1, by omega, by rw [List.length_append]; omega, by omega, fun m h => ?_, fun x hx => ?_⟩ _ rfl
          · rcases List.mem_append.1 h with h | h
            · exact G.val m h
            · exact hm.2 m h
          · rcases t3 x hx with h | h
            · exact List.mem_append_left _ (G.src x h)
            · exact List.mem_append_right _ h
        rw [if_neg (by simpa using k0)]
        have er : ∀ (k : Nat) (z : Int), k < s.1.length → 0 ≤ z → z ≤ s.2 + 1 → ∀ x ∈ (s.1.eraseIdx k, z).1, x.2.1 ∈ sent := fun k z _ _ _ x hx => G.src x (List.mem_of_mem_eraseIdx hx)
        by_cases k1 : l[j].Kind = 1
        · rw [if_pos (beq_iff_eq.2 k1)]
          rcases hin with ho | ⟨k, hk, hks⟩
          · obtain ⟨e, e1, e2, e3⟩ := take_out s ho
            rw [e1]
            simp only [Option.bind_some, e3, Bool.not_false, if_true]
            exact fin _ _ _ s (same s hI G.l0 rfl G.src) _ rfl
          · have hel : (s.1.eraseIdx k).length = s.1.length - 1 := List.length_eraseIdx_of_lt hks
            obtain ⟨g1, g2⟩ := take_in hI hks
            rw [hk]
            cases hd : s.1[k].2.2 with
            | true =>
              obtain ⟨e, e1, e2, e3⟩ := g2 hd
              rw [e1]
              simp only [Option.bind_some, e3, Bool.not_false, if_true]
              rw [w64_eq (n := s.2 + 1) (by omega) (by omega)]
              exact fin _ _ _ (s.1.eraseIdx k, s.2 + 1) (same _ (erase_ok hI k _) (by show 0 ≤ s.2 + 1; omega) (by show s.2 + 1 + ((s.1.eraseIdx k).length : Int) = _; omega) (fun x hx => G.src x (List.mem_of_mem_eraseIdx hx))) _ rfl
            | false =>
              rw [g1 hd]
              simp only [Option.bind_some, Err.isNil, Bool.not_true, Bool.false_eq_true, if_false]
              rw [met_eq l _ _ _ _ _ _ (by omega) G.val (G.src _ (List.getElem_mem hks))]
              simp only [Option.bind_some, Bool.not_true, Bool.false_eq_true, if_false]
              rw [w64_eq (n := came + 1) (by omega) (by omega)]
              exact fin _ _ _ (s.1.eraseIdx k, s.2) ⟨erase_ok hI k _, by omega, G.l0, by show came + 1 + s.2 + ((s.1.eraseIdx k).length : Int) = _; omega, by omega, by omega, G.val, fun x hx => G.src x (List.mem_of_mem_eraseIdx hx)⟩ _ rfl
        rw [if_neg (by simpa using k1)]
        by_cases k2 : l[j].Kind = 2
        · rw [if_pos (beq_iff_eq.2 k2)]
          rcases hin with ho | ⟨k, hk, hks⟩
          · obtain ⟨e, e1, e2, e3⟩ := drop_out s ho
            rw [e1]
            exact fin _ _ _ s (same s hI G.l0 rfl G.src) _ rfl
          · have hel : (s.1.eraseIdx k).length = s.1.length - 1 := List.length_eraseIdx_of_lt hks
            rw [hk, drop_in hI hks, w64_eq (n := s.2 + 1) (by omega) (by omega)]
            exact fin _ _ _ (s.1.eraseIdx k, s.2 + 1) (same _ (erase_ok hI k _) (by show 0 ≤ s.2 + 1; omega) (by show s.2 + 1 + ((s.1.eraseIdx k).length : Int) = _; omega) (fun x hx => G.src x (List.mem_of_mem_eraseIdx hx))) _ rfl
        rw [if_neg (by simpa using k2)]
        by_cases k3 : l[j].Kind = 3
        · rw [if_pos (beq_iff_eq.2 k3)]
          rcases hin with ho | ⟨k, hk, hks⟩
          · obtain ⟨e, e1, e2, e3⟩ := twice_out s ho
            rw [e1]
            simp only [Option.bind_some, e3, Bool.false_eq_true, if_false]
            exact fin _ _ _ s (same s hI G.l0 rfl G.src) _ rfl
          · rw [hk]
            by_cases hf : 200 ≤ s.1.length
            · obtain ⟨e, e1, e2, e3⟩ := twice_full s hks hf
              rw [e1]
              simp only [Option.bind_some, e3, Bool.false_eq_true, if_false]
              exact fin _ _ _ s (same s hI G.l0 rfl G.src) _ rfl
            · rw [twice_in hI hks (by omega)]
              simp only [Option.bind_some, Err.isNil, if_true]
              rw [w64_eq (n := all + 1) (by omega) (by omega)]
              refine fin _ _ _ (s.1 ++ [s.1[k]], s.2) ⟨⟨fun x hx => ?_, by show (s.1 ++ [s.1[k]]).length ≤ 200; simp; omega⟩, G.c0, G.l0, by show came + s.2 + ((s.1 ++ [s.1[k]]).length : Int) = _; simp; omega, by omega, by omega, G.val, fun x hx => ?_⟩ _ rfl
              · rcases List.mem_append.1 hx with h | h
                · exact hI.q x h
                · rw [List.mem_singleton.1 h]; exact hI.q _ (List.getElem_mem hks)
              · rcases List.mem_append.1 hx with h | h
                · exact G.src x h
                · rw [List.mem_singleton.1 h]; exact G.src _ (List.getElem_mem hks)
        rw [if_neg (by simpa using k3)]
        by_cases k4 : l[j].Kind = 4
        · rw [if_pos (beq_iff_eq.2 k4)]
          have stay : ∀ e : Err, lines_Lines_Spoil (nL s) l[j].I l[j].At l[j].By = some (e, nL s) → _ := fun e e1 => fin sent all came s (same s hI G.l0 rfl G.src) ((lines_Lines_Spoil (nL s) l[j].I l[j].At l[j].By).bind fun v143 => lt (w64 ((j : Int) + 1)) fun v148 => some (.inl (sent, all, came, v148, v143.2.l, v143.2))) (by rw [e1]; rfl)
          rcases hin with ho | ⟨k, hk, hks⟩
          · obtain ⟨e, e1, e2, e3⟩ := spoil_out s ho l[j].At l[j].By
            exact stay e e1
          · cases hd : s.1[k].2.2 with
            | true =>
              obtain ⟨e, e1, e2, e3⟩ := spoil_twice hI hks hd l[j].At l[j].By
              exact stay e (by rw [hk]; exact e1)
            | false =>
              by_cases hr : l[j].At < 0 ∨ (s.1[k].1.b.length : Int) ≤ l[j].At ∨ l[j].By = 0#8
              · obtain ⟨e, e1, e2, e3⟩ := spoil_range hI hks hd hr
                exact stay e (by rw [hk]; exact e1)
              · have ha : l[j].At = ((l[j].At.toNat : Nat) : Int) := by omega
                have ha2 : l[j].At.toNat < s.1[k].1.b.length := by omega
                have hb2 : l[j].By ≠ 0#8 := fun h => hr (.inr (.inr h))
                have e1 := spoil_in hI hks hd ha2 hb2
                rw [← ha] at e1
                rw [hk, e1]
                have Pb := bad1_ok (hI.q _ (List.getElem_mem hks)) hd ha2 hb2
                refine fin _ _ _ (s.1.set k (bad1 s.1[k] l[j].At.toNat l[j].By), s.2) (same _ (set_ok hI Pb) G.l0 (by simp) (fun x hx => ?_)) _ rfl
                rcases List.mem_or_eq_of_mem_set hx with h | rfl
                · exact G.src x h
                · exact G.src s.1[k] (List.getElem_mem hks)
        rw [if_neg (by simpa using k4)]
        exact fin _ _ _ s (same s hI G.l0 rfl G.src) _ rfl
      · right
        rw [if_neg (by simp; omega)]
        exact ⟨_, rfl, all, came, s, rfl, G.c0, G.l0, G.tot, by omega⟩
end Go.Proofs.YtedcgeghgbgonaaDoor
namespace Go.Proofs.YtedcgeghgbgonaaDoor
open Go.ChangeShapes Go.WideShapes Go.RowKit
theorem own : ownKnob Tryd.prog.godebug = none := by kernel_rfl
theorem laidEt : Tryd.prog.globalNamed "errors.errorType" = some 0 := by kernel_rfl
theorem laidRt : (Tryd.prog.cutTypes.find? (·.1 == "internal/reflectlite.rtype")).map (·.2) = some 107 := by kernel_rfl
theorem laidRow : ((List.range 158).filter fun t => Tryd.prog.rowNamed t [101, 114, 114, 111, 114]) = [37] := by kernel_rfl
theorem laidSize : Tryd.prog.types.size = 158 := by kernel_rfl
def laidL {H : Type} : List (String × DataW H) := [("errors.errorType", Rows.laid_errors_errorType)]
theorem handle_of_laid {W : World} (h : laidMetH Tryd.prog laidL W) : W.cell? ⟨0, 0, none⟩ = some (.iface 107 (.agg #[.pointer (some ⟨1, 37, none⟩)])) := by
  have h' : laidMet Tryd.prog [] W ∧ handlesMet Tryd.prog laidL W := h
  obtain ⟨name, u, ty, e1, e2, e3, e4, e5⟩ := h'.2 _ (List.mem_singleton.2 rfl)
  have en : name = [101, 114, 114, 111, 114] := (Option.some.inj e1).symm
  subst en
  obtain rfl := Option.some.inj (laidRt.symm.trans e2)
  have hm : ty ∈ (List.range 158).filter fun t => Tryd.prog.rowNamed t [101, 114, 114, 111, 114] := List.mem_filter.2 ⟨List.mem_range.2 (by rw [← laidSize]; exact e3), e4⟩
  rw [laidRow] at hm
  obtain rfl := List.mem_singleton.1 hm
  have hh : typeHandle Tryd.prog 37 = .pointer (some ⟨1, 37, none⟩) := by kernel_rfl
  rw [hh] at e5
  simpa using World.var?_cell laidEt e5 0
noncomputable def laidWorld (os : Os) : World :=
  let w0 := World.holding Tryd.prog os ⟨#[], #[], []⟩
  { w0 with heap := w0.heap.modify 0 fun
      | .cells _ t frozen => .cells #[.iface 107 (.agg #[.pointer (some ⟨1, 37, none⟩)])] t frozen
      | o => o }
theorem laidWorld_met (os : Os) (args : Array Value) : laidMetH Tryd.prog laidL ((laidWorld os).forCall (fun _ _ => 0) ⟨#[], args, []⟩).memory :=
  laidMetH_of_parts (laidMet_nil _ _) (by kernel_rfl)
theorem gls_met {W : World} (h : laidMetH Tryd.prog laidL W) : ∀ p ∈ gls, W.cell? p.1 = some p.2 := by
  intro p hp
  obtain rfl := List.mem_singleton.1 hp
  exact handle_of_laid h
theorem laidOut : laidOutB Tryd.prog = true := by kernel_rfl
end Go.Proofs.YtedcgeghgbgonaaDoor

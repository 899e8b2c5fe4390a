/- Where nothing is wrong each hit is a write ahead of it, of that key, and value, and is not older than what its node served of the key. (part 3 of 5) -/
import Derived.Test.YtgeflfdonoicaaaDoorKJudgeFine2
import Derived.KernelRfl
import Derived.LaidEql
import Derived.MapKept
import Derived.RowKitTokens
import Derived.Stop.Asserts
import Derived.Test.YtgeflfdonoicaaaDoorProg
import Derived.WalkKit
namespace Go.Va
open Go Go.RowKit
set_option linter.unusedVariables false
set_option linter.unusedSimpArgs false
section
variable {α β : Type}
def cM (ek : α → AV) (ev : β → AV) (m : List (α × β)) : List AV := [.mpc (m.map fun x => ek x.1) (m.map fun x => ev x.2)]
theorem cM_cut {ek : α → AV} {ev : β → AV} (hk : ∀ ρ κ x, cutAV ρ κ (ek x) = ek x) (hv : ∀ ρ κ x, cutAV ρ κ (ev x) = ev x) (ρ κ : Nat → Option Nat) (m : List (α × β)) : cutL ρ κ (cM ek ev m) = cM ek ev m := by
  have h1 : cutL ρ κ (m.map fun x => ek x.1) = m.map fun x => ek x.1 := by
    rw [cutL_map, List.map_map]
    exact List.map_congr_left fun x _ => hk ρ κ _
  have h2 : cutL ρ κ (m.map fun x => ev x.2) = m.map fun x => ev x.2 := by
    rw [cutL_map, List.map_map]
    exact List.map_congr_left fun x _ => hv ρ κ _
  simp only [cM, cutL, cutAV, h1, h2]
theorem cut_mapr_id {ρ κ : Nat → Option Nat} {i j : Nat} (h : ρ i = some j) : cutAV ρ κ (.mapr i) = .mapr j := by simp only [cutAV, h]
def mix [DecidableEq α] (m : List (α × β)) (k : α) : Option Nat := (m.map (·.1)).findIdx? fun x => decide (x = k)
def mget [DecidableEq α] (m : List (α × β)) (k : α) : Option β := (mix m k).bind fun i => m[i]?.map (·.2)
def mset [DecidableEq α] (m : List (α × β)) (k : α) (v : β) : List (α × β) := match mix m k with
  | some i => m.set i (k, v)
  | none => m ++ [(k, v)]
def mdel [DecidableEq α] (m : List (α × β)) (k : α) : List (α × β) := match mix m k with
  | some i => m.eraseIdx i
  | none => m
def EKey (P : Program) (K : TypeId) [DecidableEq α] (e : α → AV) : Prop :=
  ∃ val : α → Value, (∀ G v x, Rel G v (e x) → v = val x) ∧ (∀ em x w, (Instr.checkKey em 10000 K (val x)).run P w = .ok () w) ∧ (∀ x w (l : List MapEntry) (ks : List α), l.map (·.key) = ks.map val → (Instr.findKey K (val x) l).run P w = .ok ((ks.findIdx? fun y => decide (y = x)).bind fun i => l[i]?.map fun e => (i, e.val)) w) ∧ ∀ x, Instr.sameBits 10000 (val x) (val x) = true
theorem findNow_ks [DecidableEq α] {d : TypeDesc} {val : α → Value} {x : α} (h : ∀ y, Instr.sameNow d (val x) (val y) = some (decide (y = x))) : ∀ (l : List MapEntry) (ks : List α) (i : Nat), l.map (·.key) = ks.map val → Instr.findNow d (val x) l i = some ((ks.findIdx? fun y => decide (y = x)).bind fun j => l[j]?.map fun e => (i + j, e.val))
  | [], [], i, _ => rfl
  | [], _ :: _, i, h => by simp at h
  | _ :: _, [], i, h => by simp at h
  | e :: l, k :: ks, i, hk => by
    simp only [List.map_cons, List.cons.injEq] at hk
    unfold Instr.findNow
    rw [hk.1, h k, List.findIdx?_cons]
    by_cases he : k = x
    · simp [he]
    · have ih := findNow_ks h l ks (i + 1) hk.2
      simp only [he, decide_false, ih, Bool.false_eq_true, if_false]
      cases hf : ks.findIdx? fun y => decide (y = x) with
      | none => simp
      | some j => simp [show i + 1 + j = i + (j + 1) by omega]
theorem EKey.scl [DecidableEq α] {P : Program} {K : TypeId} {e : α → AV} {d : TypeDesc} (val : α → Value) (hd : P.underlying K = some d) (hr : ∀ G v x, Rel G v (e x) → v = val x) (hk : ∀ x, MapKept.IsKey d (val x)) (h : ∀ x y, Instr.sameNow d (val x) (val y) = some (decide (y = x))) : EKey P K e := by
  refine ⟨val, hr, fun em x w => MapKept.run_checkKey hd (hk x) em 9999, fun x w l ks hl => ?_, fun x => MapKept.sameBits_self (hk x) 10000⟩
  have := MapKept.run_findKey (P := P) (w := w) hd (findNow_ks (h x) l ks 0 hl)
  simpa using this
theorem ekey_i {P : Program} {K : TypeId} (hd : P.underlying K = some (.int .i64)) : EKey P K eI :=
  .scl (fun n => .int .i64 n) hd (fun G v x h => by cases h; rfl) (fun _ => rfl) (fun x y => by simp [Instr.sameNow, Bool.beq_eq_decide_eq, eq_comm])
theorem ekey_s {P : Program} {K : TypeId} (hd : P.underlying K = some .string) : EKey P K eS :=
  .scl (fun s => .string (mkB s)) hd (fun G v x h => by cases h; rfl) (fun _ => trivial) (fun x y => by
    simp only [Instr.sameNow]
    by_cases h : x = y
    · subst h; rw [(MapKept.bytes_beq _ _).2 rfl]; simp
    · have hb : (mkB x == mkB y) = false := by
        cases hb : mkB x == mkB y with
        | false => rfl
        | true => exact absurd (mkB_inj.1 ((MapKept.bytes_beq _ _).1 hb)) h
      rw [hb, decide_eq_false (Ne.symm h)])
def sclc : AV → Bool
  | .int _ _ => true
  | .str _ => true
  | .bool _ => true
  | _ => false
def scv : AV → Value
  | .int k n => .int k n
  | .str s => .string s
  | .bool b => .bool b
  | _ => .bool false
theorem scv_rel {G : Ghost} {v : Value} {a : AV} (hs : sclc a = true) (h : Rel G v a) : v = scv a := by cases h <;> first | rfl | cases hs
theorem rel_scv {G : Ghost} {a : AV} (hs : sclc a = true) : Rel G (scv a) a := by
  cases a <;> first | cases hs | skip
  · exact .int _ _
  · exact .bool _
  · exact .str _
theorem scvl_rel {G : Ghost} : ∀ {l : List Value} {m : List AV}, m.all sclc = true → RelL G l m → l = m.map scv
  | [], [], _, _ => rfl
  | [], _ :: _, _, h => by have := h.len; simp at this
  | _ :: _, [], _, h => by have := h.len; simp at this
  | v :: l, a :: m, hs, h => by
    simp only [List.all_cons, Bool.and_eq_true] at hs
    rw [List.map_cons, ← scv_rel hs.1 (h.at_ 0 v a rfl rfl), ← scvl_rel hs.2 ⟨by simpa using h.len, fun i u b e1 e2 => h.at_ (i + 1) u b (by simpa using e1) (by simpa using e2)⟩]
theorem rel_scvl {G : Ghost} {m : List AV} (hs : m.all sclc = true) : Rel G (.agg (m.map scv).toArray) (.agg m) := by
  refine .agg _ _ (by simp) fun i v a h1 h2 => ?_
  have hv : scv a = v := by simpa [h2] using h1
  rw [← hv]
  exact rel_scv (List.all_eq_true.1 hs a (List.mem_of_getElem? h2))
theorem part_sc {P : Program} {w : World} {T : TypeId} {o : Nat} {cs : List AV} {a : AV} {dd : TypeDesc} (hu : P.underlying T = some dd) (hc : cs[o]? = some a) (hk : MapKept.IsKey dd (scv a)) : (part T (cs.map scv).toArray o).run P w = .ok (scv a) w := by
  have : (isAgg T).run P w = .ok false w := by
    simp only [isAgg, Sem.run_bind, run_underlying hu, Result.andThen_ok]
    cases dd <;> simp_all [MapKept.IsKey]
  simp [part, this, hc]
theorem check2 {P : Program} {K : TypeId} {f0 f1 : Field} {cs : List AV} {a0 a1 : AV} {d0 d1 : TypeDesc} (hu : P.underlying K = some (.struct #[f0, f1])) (u0 : P.underlying f0.type = some d0) (u1 : P.underlying f1.type = some d1) (c0 : cs[f0.offset]? = some a0) (c1 : cs[f1.offset]? = some a1) (k0 : MapKept.IsKey d0 (scv a0)) (k1 : MapKept.IsKey d1 (scv a1)) (em : Bool) (w : World) : (Instr.checkKey em 10000 K (.agg (cs.map scv).toArray)).run P w = .ok () w := by
  have p0 := part_sc (w := w) u0 c0 k0
  have p1 := part_sc (w := w) u1 c1 k1
  have e0 := MapKept.run_checkKey (w := w) u0 k0 em 9998
  have e1 := MapKept.run_checkKey (w := w) u1 k1 em 9998
  unfold Instr.checkKey
  simp only [Sem.run_bind, run_underlying hu, Result.andThen_ok]
  by_cases h0 : f0.name = "_" <;> by_cases h1 : f1.name = "_" <;> simp [h0, h1, p0, p1, e0, e1, Result.andThen]
theorem sb_sc (n : Nat) (a : AV) : Instr.sameBits (n + 1) (scv a) (scv a) = true := by
  cases a <;> simp [scv, Instr.sameBits]
  exact (MapKept.bytes_beq _ _).2 rfl
theorem ekey_st2 [DecidableEq α] {P : Program} {K : TypeId} {c : α → List AV} (hu : P.underlying K = some (.struct (P.fieldsOf K))) (hp : P.stoodInHeld K = false) (heq : ∀ x y, eqCells P (P.fieldsOf K).toList (c x) (c y) = some (decide (x = y))) (hs : ∀ x, (c x).all sclc = true) (hc : ∀ x em w, (Instr.checkKey em 10000 K (.agg ((c x).map scv).toArray)).run P w = .ok () w) : EKey P K (fun x => .agg (c x)) := by
  refine ⟨fun x => .agg ((c x).map scv).toArray, fun G v x h => ?_, fun em x w => hc x em w, fun x w l ks hl => ?_, fun x => ?_⟩
  · cases h with
    | agg vs _ hn hr =>
    have h1 := scvl_rel (hs x) (G := G) (l := vs.toList) ⟨by simpa using hn, fun i u a e1 e2 => hr i u a (by simpa using e1) e2⟩
    show Value.agg vs = Value.agg ((c x).map scv).toArray
    rw [← h1]
  · have eq : ∀ y, (Op.equal K (.agg ((c x).map scv).toArray) (.agg ((c y).map scv).toArray)).run P w = .ok (decide (y = x)) w := fun y => by
      have h1 := (run_eq_agg (w := w) hu hp (heq x y) (rel_scvl (G := ⟨fun _ _ => none, fun _ => none, fun _ => none, 0, fun _ => false, fun _ => 0⟩) (hs x)) (rel_scvl (hs y))).1
      rw [h1]
      by_cases h : x = y
      · subst h; rfl
      · rw [decide_eq_false h, decide_eq_false (Ne.symm h)]
    have ask : ∀ (l : List MapEntry) (ks : List α) (i : Nat), l.map (·.key) = ks.map (fun x => Value.agg ((c x).map scv).toArray) → (Instr.findAsking K (.agg ((c x).map scv).toArray) l i).run P w = .ok ((ks.findIdx? fun y => decide (y = x)).bind fun j => l[j]?.map fun e => (i + j, e.val)) w := by
      intro l
      induction l with
      | nil => intro ks i hk; cases ks with
        | nil => simp [Instr.findAsking]
        | cons k ks => simp at hk
      | cons e l ih => intro ks i hk; cases ks with
        | nil => simp at hk
        | cons k ks =>
          simp only [List.map_cons, List.cons.injEq] at hk
          unfold Instr.findAsking
          simp only [Sem.run_bind, hk.1, eq k, Result.andThen_ok, List.findIdx?_cons]
          by_cases he : k = x
          · simp [he]
          · have h2 := ih ks (i + 1) hk.2
            simp only [he, decide_false, Bool.false_eq_true, if_false, h2]
            cases hf : ks.findIdx? fun y => decide (y = x) with
            | none => simp
            | some j => simp [show i + 1 + j = i + (j + 1) by omega]
    have h0 := ask l ks 0 hl
    simp only [Nat.zero_add] at h0
    rw [← h0]
    cases l with
    | nil => simp [Instr.findKey, run_underlying hu, Instr.findNow, Instr.findAsking]
    | cons e es => simp [Instr.findKey, run_underlying hu, Instr.findNow, Instr.sameNow]
  · simp only [Instr.sameBits, beq_self_eq_true, Bool.true_and, List.all_eq_true]
    intro p hp
    have : p.1 = p.2 ∧ p.1 ∈ (c x).map scv := by
      obtain ⟨i, hi⟩ := List.mem_iff_getElem?.1 hp
      rw [List.getElem?_zip_eq_some] at hi
      have h2 := hi.1.symm.trans hi.2
      exact ⟨Option.some.inj h2, List.mem_of_getElem? hi.1⟩
    obtain ⟨p1, p2⟩ := p
    obtain ⟨h1, h2⟩ := this
    simp only at h1 h2 ⊢
    subst h1
    obtain ⟨a, _, rfl⟩ := List.mem_map.1 h2
    exact sb_sc _ a
def ZeroV (P : Program) (E : TypeId) (a : AV) : Prop := ∃ v, (∀ w, (zeroValue E).run P w = .ok v w) ∧ ∀ G, Rel G v a
theorem ZeroV.mk {P : Program} {E : TypeId} {a b : AV} (z : Value) (h : (P.info? E).map (fun ti => ti.zero) = some (some z)) (hr : ∀ G, Rel G z a) (hw : Wk a b) : ZeroV P E b := by
  refine ⟨z, fun w => ?_, fun G => hw G z (hr G)⟩
  cases hi : P.info? E with
  | none => rw [hi] at h; cases h
  | some ti =>
    rw [hi] at h
    simp only [Option.map_some, Option.some.injEq] at h
    simp [zeroValue, typeInfo, hi, h]
theorem zero_agg {vs : Array Value} {cs : List AV} (h : zOkL vs.toList cs = true) (G : Ghost) : Rel G (.agg vs) (.agg cs) := mkAgg (zOkL_rel h G)
end
section
variable {α β : Type} {P : Program} {Ty : TypeId → Option TI} {σ σ0 : St} {O : List (Nat × List AV)} {A : List Nat} {fr : Nat → AV} {d : Option Tmp} {ty : TypeId} {pos : String} {af : Array Edge} {g : Option (Nat × Bool)} {om ox oy : Operand} {T K E U : TypeId} {ek : α → AV} {ev : β → AV}
theorem OpS.of_runS {o : Oper} {σ' : St} (h : ∀ w0 G (ρ : Operand → Value) w, Inv w0 G w σ → (∀ x ∈ o.op.operands, Rel G (ρ x) (aeval fr x)) → ∃ w' G', (execOp ρ o).run P w = .ok .skip w' ∧ G.Le G' ∧ Inv w0 G' w' σ') : OpS P o fr σ (fun a' τ => a' = .junk ∧ τ = σ') := by
  intro w0 G act w Q K' hI hr hK
  obtain ⟨w', G', h1, h2, h3⟩ := h w0 G act.eval w hI hr
  unfold Oper.wp
  rw [h1]
  exact hK _ .junk σ' w' G' ⟨rfl, rfl⟩ h2 h3 (.junk _)
theorem map_at (hH : Holds σ0 O A σ) (k : Nat) {id : Nat} {m : List (α × β)} (hk : O[k]? = some (id, cM ek ev m)) {w0 : World} {G : Ghost} {w : World} (hI : Inv w0 G w σ) {v : Value} (hv : Rel G v (.mapr id)) : ∃ b es clock, v = .map (some b) ∧ G.loc id = some b ∧ w.heap[b]? = some (.map es clock) ∧ RelL G (es.toList.map (·.key)) (m.map fun x => ek x.1) ∧ RelL G (es.toList.map (·.val)) (m.map fun x => ev x.2) ∧ ∀ e ∈ es.toList, e.born < clock := by
  cases hv with
  | mapr _ b hl =>
  obtain ⟨b1, o, k1, k2, k3, k4⟩ := hI.sp id _ (hH.at_ k hk) rfl
  rw [hl] at k1
  injection k1 with k1
  subst k1
  cases k4 with
  | mp es clock _ _ h1 h2 h3 => exact ⟨_, es, clock, rfl, hl, k3, h1, h2, h3⟩
theorem keys_val {G : Ghost} {val : α → Value} (hr : ∀ G v x, Rel G v (ek x) → v = val x) : ∀ {l : List Value} {m : List (α × β)}, RelL G l (m.map fun x => ek x.1) → l = (m.map (·.1)).map val
  | [], [], _ => rfl
  | [], _ :: _, h => by have := h.len; simp at this
  | _ :: _, [], h => by have := h.len; simp at this
  | v :: l, x :: m, h => by
    have h0 := hr _ _ _ (h.at_ 0 v _ rfl rfl)
    have h1 : RelL G l (m.map fun x => ek x.1) := ⟨by simpa using h.len, fun i u a e1 e2 => h.at_ (i + 1) u a (by simpa using e1) (by simpa using e2)⟩
    rw [h0, keys_val hr h1]
    rfl
theorem mix_get [DecidableEq α] {m : List (α × β)} {k : α} {i : Nat} (h : mix m k = some i) : ∃ v, m[i]? = some (k, v) := by
  unfold mix at h
  rw [List.findIdx?_eq_some_iff_getElem] at h
  obtain ⟨h1, h2, _⟩ := h
  simp only [List.length_map] at h1
  simp only [List.getElem_map, decide_eq_true_eq] at h2
  exact ⟨m[i].2, by rw [List.getElem?_eq_getElem h1, ← h2]⟩
theorem h_mkM (hH : Holds σ0 O A σ) (ek : α → AV) (ev : β → AV) : ∃ id τ, OpS P ⟨d, .makeMap T none, ty, pos, af, g⟩ fr σ (fun a' τ' => a' = AV.mapr id ∧ τ' = τ) ∧ (Holds σ0 ((id, cM ek ev []) :: O) A τ ∧ σ0.objs.length ≤ id) := by
  refine ⟨σ.objs.length, ⟨σ.objs ++ [cM ek ev []], σ.opn, σ.gl⟩, OpS.of_run fun w0 G ρ w hI hr => ?_, hH.add _, hH.olen⟩
  obtain ⟨hle, hI'⟩ := hI.alloc_sp (o := .map #[] 0) (a := .mpc [] []) rfl (.mp _ _ _ _ (.nil G) (.nil G) (fun e he => by cases he))
  refine ⟨.map (some w.heap.size), _, _, ?_, hle, hI', .mapr _ _ (by simp [Ghost.addLoc])⟩
  simp [execOp, Instr.makeMap, Result.andThen]
theorem h_lenM (hT : TyOk P Ty) (hH : Holds σ0 O A σ) (k : Nat) {id : Nat} {m : List (α × β)} (hk : O[k]? = some (id, cM ek ev m)) (hd : tdOf Ty T = .map K E) (hx : aeval fr ox = .mapr id) : OpS P ⟨d, .call ⟨.builtin .len, #[ox], #[T]⟩, ty, pos, af, g⟩ fr σ (fun a' τ => a' = eI (m.length : Int) ∧ τ = σ) := by
  refine OpS.of_run fun w0 G ρ w hI hr => ?_
  have r1 := hr ox (by simp [Op.operands, Call.operands])
  rw [hx] at r1
  obtain ⟨b, es, clock, e1, e2, e3, e4, e5, e6⟩ := map_at hH k hk hI r1
  have hu : P.underlying T = some (.map K E) := tdOf_ok hT hd (by simp)
  have hl : es.size = m.length := by have := e4.len; simpa using this
  refine ⟨.int .i64 (es.size : Int), w, G, ?_, .refl G, hI, by rw [hl]; exact .int _ _⟩
  have h : (Builtin.len_ #[T] ty #[.map (some b)]).run P w = .ok (.int .i64 (es.size : Int)) w := by
    simp [Builtin.len_, run_underlying hu, MapKept.run_getObj_map e3, Result.andThen, goInt]
  simp [execOp, resolve, invoke, builtin, e1, h]
theorem run_lookupM {T : TypeId} {w : World} {b : Nat} {es : Array MapEntry} {clock : Nat} {key z : Value} {ok : Bool} {a : Option (Nat × Value)} (hu : P.underlying T = some (.map K E)) (hb : w.heap[b]? = some (.map es clock)) (hc : ∀ em, (Instr.checkKey em 10000 K key).run P w = .ok () w) (hf : (Instr.findKey K key es.toList).run P w = .ok a w) (hz : (zeroValue E).run P w = .ok z w) : (Instr.lookup T (.map (some b)) key ok).run P w = .ok (if ok then .tuple #[(a.map (·.2)).getD z, .bool a.isSome] else (a.map (·.2)).getD z) w := by
  cases a with
  | none => cases ok <;> simp [Instr.lookup, run_underlying hu, MapKept.run_getObj_map hb, hc, hf, hz, Result.andThen]
  | some x => cases ok <;> simp [Instr.lookup, run_underlying hu, MapKept.run_getObj_map hb, hc, hf, Result.andThen]
theorem look_rel [DecidableEq α] {G : Ghost} {val : α → Value} {l : List MapEntry} {m : List (α × β)} {x : α} (h : RelL G (l.map (·.val)) (m.map fun x => ev x.2)) {z : Value} {z0 : β} (hz : Rel G z (ev z0)) :
    let a := ((m.map (·.1)).findIdx? fun y => decide (y = x)).bind fun i => l[i]?.map fun e => (i, e.val)
    Rel G ((a.map (·.2)).getD z) (ev ((mget m x).getD z0)) ∧ a.isSome = (mget m x).isSome := by
  intro a
  have hlen : l.length = m.length := by have := h.len; simpa using this
  cases hi : mix m x with
  | none =>
    have ha : a = none := by show Option.bind _ _ = _; unfold mix at hi; rw [hi]; rfl
    have hg : mget m x = none := by unfold mget; rw [hi]; rfl
    rw [ha, hg]; exact ⟨hz, rfl⟩
  | some i =>
    obtain ⟨v, hv⟩ := mix_get hi
    have hil : i < l.length := by rw [hlen]; exact (List.getElem?_eq_some_iff.1 hv).1
    have ha : a = some (i, l[i].val) := by show Option.bind _ _ = _; unfold mix at hi; rw [hi]; simp [hil]
    have hg : mget m x = some v := by unfold mget; rw [hi]; simp [hv]
    rw [ha, hg]
    exact ⟨h.at_ i _ _ (by simp [hil]) (by simp [hv]), rfl⟩
theorem h_look [DecidableEq α] (hT : TyOk P Ty) (hH : Holds σ0 O A σ) (k : Nat) {id : Nat} {m : List (α × β)} {x : α} {z0 r : β} (hv : (some ((mget m x).getD z0)) = some r) (hk : O[k]? = some (id, cM ek ev m)) (he : EKey P K ek) (hz : ZeroV P E (ev z0)) (hd : tdOf Ty T = .map K E) (hm : aeval fr om = .mapr id) (hx : aeval fr ox = ek x) : OpS P ⟨d, .lookup T om ox false, ty, pos, af, g⟩ fr σ (fun a' τ => a' = ev r ∧ τ = σ) := by
  cases hv
  refine OpS.of_run fun w0 G ρ w hI hr => ?_
  have r1 := hr om (by simp [Op.operands])
  have r2 := hr ox (by simp [Op.operands])
  rw [hm] at r1
  rw [hx] at r2
  obtain ⟨val, v1, v2, v3, v4⟩ := he
  obtain ⟨z, z1, z2⟩ := hz
  obtain ⟨b, es, clock, e1, e2, e3, e4, e5, e6⟩ := map_at hH k hk hI r1
  have e7 := v1 _ _ _ r2
  have h1 := run_lookupM (ok := false) (tdOf_ok hT hd (by simp)) e3 (fun em => v2 em x w) (v3 x w es.toList (m.map (·.1)) (keys_val v1 e4)) (z1 w)
  have h2 := look_rel (val := val) (x := x) e5 (z2 G)
  refine ⟨_, w, G, ?_, .refl G, hI, h2.1⟩
  rw [if_neg (by decide)] at h1
  simp only [execOp, e1, e7, Sem.run_bind, h1, Result.andThen_ok]
  rfl
theorem h_look2 [DecidableEq α] (hT : TyOk P Ty) (hH : Holds σ0 O A σ) (k : Nat) {id : Nat} {m : List (α × β)} {x : α} {z0 : β} {r : β × Bool} (hv : (some ((mget m x).getD z0, (mget m x).isSome)) = some r) (hk : O[k]? = some (id, cM ek ev m)) (he : EKey P K ek) (hz : ZeroV P E (ev z0)) (hd : tdOf Ty T = .map K E) (hm : aeval fr om = .mapr id) (hx : aeval fr ox = ek x) : OpS P ⟨d, .lookup T om ox true, ty, pos, af, g⟩ fr σ (fun a' τ => a' = .tup [ev r.1, eB r.2] ∧ τ = σ) := by
  cases hv
  refine OpS.of_run fun w0 G ρ w hI hr => ?_
  have r1 := hr om (by simp [Op.operands])
  have r2 := hr ox (by simp [Op.operands])
  rw [hm] at r1
  rw [hx] at r2
  obtain ⟨val, v1, v2, v3, v4⟩ := he
  obtain ⟨z, z1, z2⟩ := hz
  obtain ⟨b, es, clock, e1, e2, e3, e4, e5, e6⟩ := map_at hH k hk hI r1
  have e7 := v1 _ _ _ r2
  have h1 := run_lookupM (ok := true) (tdOf_ok hT hd (by simp)) e3 (fun em => v2 em x w) (v3 x w es.toList (m.map (·.1)) (keys_val v1 e4)) (z1 w)
  have h2 := look_rel (val := val) (x := x) e5 (z2 G)
  rw [if_pos rfl] at h1
  refine ⟨?v, w, G, ?h, .refl G, hI, ?r⟩
  case h =>
    simp only [execOp, e1, e7, Sem.run_bind, h1, Result.andThen_ok]
    rfl
  case r =>
    refine .tup #[_, _] [_, _] rfl (fun i v a q1 q2 => ?_)
    match i, q1, q2 with
    | 0, q1, q2 =>
      obtain rfl := Option.some.inj (show some _ = some v from q1)
      obtain rfl := Option.some.inj (show some _ = some a from q2)
      exact h2.1
    | 1, q1, q2 =>
      obtain rfl := Option.some.inj (show some _ = some v from q1)
      obtain rfl := Option.some.inj (show some _ = some a from q2)
      rw [← h2.2]; exact .bool _
    | n + 2, q1, q2 => simp at q2
theorem map_set {G : Ghost} {es : Array MapEntry} {clock : Nat} {ks vs : List AV} {i : Nat} {key v : Value} {a b : AV} (hk : RelL G (es.toList.map (·.key)) ks) (hv : RelL G (es.toList.map (·.val)) vs) (hb : ∀ e ∈ es.toList, e.born < clock) (hlt : i < es.size) (h1 : Rel G key a) (h2 : Rel G v b) : SpO G (.map (es.modify i fun e => { e with key, val := v }) clock) (.mpc (ks.set i a) (vs.set i b)) := by
  have et : (es.modify i fun e => { e with key, val := v }).toList = es.toList.set i { (es[i]'hlt) with key := key, val := v } := by
    apply List.ext_getElem?
    intro j
    rw [Array.getElem?_toList, Array.getElem?_modify, List.getElem?_set]
    by_cases hij : i = j
    · subst hij
      simp [hlt]
    · simp [hij]
  have st : ∀ {l : List Value} {m : List AV} {u : Value} {c : AV}, RelL G l m → Rel G u c → RelL G (l.set i u) (m.set i c) := fun {l m u c} h hu => ⟨by simpa using h.len, fun j x y e1 e2 => by
    rw [List.getElem?_set] at e1 e2
    by_cases hij : i = j
    · subst hij
      simp only [if_true] at e1 e2
      split at e1
      · split at e2
        · cases e1; cases e2; exact hu
        · cases e2
      · cases e1
    · rw [if_neg hij] at e1 e2; exact h.at_ j x y e1 e2⟩
  refine .mp _ _ _ _ ?_ ?_ fun e he => ?_
  · rw [et, List.map_set]; exact st hk h1
  · rw [et, List.map_set]; exact st hv h2
  · rw [et] at he
    rcases List.mem_or_eq_of_mem_set he with h | rfl
    · exact hb e h
    · exact hb es[i] (by simp)
theorem run_updM {T : TypeId} {w : World} {b : Nat} {es : Array MapEntry} {clock : Nat} {key v : Value} {a : Option (Nat × Value)} (hu : P.underlying T = some (.map K E)) (hb : w.heap[b]? = some (.map es clock)) (hc : ∀ em, (Instr.checkKey em 10000 K key).run P w = .ok () w) (hf : (Instr.findKey K key es.toList).run P w = .ok a w) (hs : ∀ i x, a = some (i, x) → (((es[i]?).map (·.key)).getD key) = key) (hsb : Instr.sameBits 10000 key key = true) : (Instr.mapUpdate T (.map (some b)) key v).run P w = .ok () { w with heap := w.heap.setIfInBounds b (match a with | some (i, _) => .map (es.modify i fun e => { e with key, val := v }) clock | none => .map (es.push { key, val := v, born := clock }) (clock + 1)) } := by
  cases a with
  | none => simp [Instr.mapUpdate, run_underlying hu, MapKept.run_getObj_map hb, hc, hf, MapKept.run_setObj_map _ hb, Result.andThen]
  | some x =>
    obtain ⟨i, x⟩ := x
    have h := hs i x rfl
    simp [Instr.mapUpdate, run_underlying hu, MapKept.run_getObj_map hb, hc, hf, MapKept.run_setObj_map _ hb, Result.andThen, h, Instr.keyThatStays, hsb]
theorem find_mix [DecidableEq α] {m : List (α × β)} {x : α} {l : List MapEntry} (hlen : l.length = m.length) : ((m.map (·.1)).findIdx? fun y => decide (y = x)).bind (fun i => l[i]?.map fun e => (i, e.val)) = (mix m x).bind fun i => l[i]?.map fun e => (i, e.val) := rfl
theorem h_setM [DecidableEq α] (hT : TyOk P Ty) (hH : Holds σ0 O A σ) (k : Nat) {id : Nat} {m c : List (α × β)} {x : α} {y : β} {b : AV} (hc : mset m x y = c) (hk : O[k]? = some (id, cM ek ev m)) (he : EKey P K ek) (hd : tdOf Ty T = .map K E) (hm : aeval fr om = .mapr id) (hx : aeval fr ox = ek x) (hy : aeval fr oy = b) (hw : Wk b (ev y)) : ∃ τ, OpS P ⟨none, .mapUpdate T om ox oy, ty, pos, af, g⟩ fr σ (fun a' τ' => a' = .junk ∧ τ' = τ) ∧ Holds σ0 (O.set k (id, cM ek ev c)) A τ := by
  subst hc
  refine ⟨⟨σ.objs.set id (cM ek ev (mset m x y)), σ.opn, σ.gl⟩, OpS.of_runS fun w0 G ρ w hI hr => ?_, hH.put k hk _⟩
  have r1 := hr om (by simp [Op.operands])
  have r2 := hr ox (by simp [Op.operands])
  have r3 := hr oy (by simp [Op.operands])
  rw [hm] at r1
  rw [hx] at r2
  rw [hy] at r3
  have r4 := hw G _ r3
  obtain ⟨val, v1, v2, v3, v4⟩ := he
  obtain ⟨bl, es, clock, e1, e2, e3, e4, e5, e6⟩ := map_at hH k hk hI r1
  have e7 := v1 _ _ _ r2
  have hlen : es.toList.length = m.length := by have := e4.len; simpa using this
  have hkv := keys_val v1 e4
  have hf := v3 x w es.toList (m.map (·.1)) hkv
  rw [find_mix hlen] at hf
  have hlt : ∀ i, mix m x = some i → i < es.size ∧ ((es[i]?).map (·.key)) = some (val x) := fun i hi => by
    obtain ⟨v, hv⟩ := mix_get hi
    have h1 : i < m.length := (List.getElem?_eq_some_iff.1 hv).1
    have h2 : i < es.size := by simpa using (show i < es.toList.length by omega)
    have h3 : (es.toList.map (·.key))[i]? = some (val x) := by rw [hkv]; simp [hv]
    exact ⟨h2, by simpa using h3⟩
  have hu := run_updM (v := ρ oy) (tdOf_ok hT hd (by simp)) e3 (fun em => v2 em x w) hf (fun i z hi => by
    cases hmx : mix m x with
    | none => rw [hmx] at hi; cases hi
    | some j =>
      obtain ⟨h1, h2⟩ := hlt j hmx
      rw [hmx] at hi
      simp only [Option.bind_some, Option.map_eq_some_iff, Prod.mk.injEq] at hi
      obtain ⟨_, _, rfl, _⟩ := hi
      rw [h2]; rfl) (v4 x)
  refine ⟨_, G, ?_, .refl G, hI.set_sp (hH.at_ k hk) rfl e2 (o' := match (mix m x).bind fun i => es.toList[i]?.map fun e => (i, e.val) with | some (i, _) => .map (es.modify i fun e => { e with key := val x, val := ρ oy }) clock | none => .map (es.push { key := val x, val := ρ oy, born := clock }) (clock + 1)) (a' := .mpc ((mset m x y).map fun x => ek x.1) ((mset m x y).map fun x => ev x.2)) rfl ?_⟩
  · simp only [execOp, e1, e7, Sem.run_bind, hu, Result.andThen_ok]
    rfl
  · rw [e7] at r2
    cases hmx : mix m x with
    | none =>
      have hs : mset m x y = m ++ [(x, y)] := by unfold mset; rw [hmx]
      rw [hs]
      simp only [Option.bind_none, List.map_append, List.map_cons, List.map_nil]
      refine .mp _ _ _ _ ?_ ?_ fun e he => ?_
      · simp only [Array.toList_push, List.map_append, List.map_cons, List.map_nil]
        exact e4.append ((RelL.nil G).cons r2)
      · simp only [Array.toList_push, List.map_append, List.map_cons, List.map_nil]
        exact e5.append ((RelL.nil G).cons r4)
      · simp only [Array.toList_push, List.mem_append, List.mem_singleton] at he
        rcases he with h | rfl
        · have := e6 e h; omega
        · simp
    | some i =>
      obtain ⟨h1, h2⟩ := hlt i hmx
      have hs : mset m x y = m.set i (x, y) := by unfold mset; rw [hmx]
      have hb : ((some i).bind fun i => es.toList[i]?.map fun e => (i, e.val)) = some (i, es[i].val) := by simp [h1]
      rw [hs, hb]
      simp only [List.map_set]
      exact map_set e4 e5 e6 h1 r2 r4
theorem h_delM [DecidableEq α] (hT : TyOk P Ty) (hH : Holds σ0 O A σ) (k : Nat) {id : Nat} {m c : List (α × β)} {x : α} (hc : mdel m x = c) (hk : O[k]? = some (id, cM ek ev m)) (he : EKey P K ek) (hd : tdOf Ty T = .map K E) (hm : aeval fr om = .mapr id) (hx : aeval fr ox = ek x) : ∃ τ, OpS P ⟨none, .call ⟨.builtin .delete, #[om, ox], #[T, U]⟩, ty, pos, af, g⟩ fr σ (fun a' τ' => a' = .junk ∧ τ' = τ) ∧ Holds σ0 (O.set k (id, cM ek ev c)) A τ := by
  subst hc
  refine ⟨⟨σ.objs.set id (cM ek ev (mdel m x)), σ.opn, σ.gl⟩, OpS.of_run fun w0 G ρ w hI hr => ?_, hH.put k hk _⟩
  have r1 := hr om (by simp [Op.operands, Call.operands])
  have r2 := hr ox (by simp [Op.operands, Call.operands])
  rw [hm] at r1
  rw [hx] at r2
  obtain ⟨val, v1, v2, v3, v4⟩ := he
  obtain ⟨bl, es, clock, e1, e2, e3, e4, e5, e6⟩ := map_at hH k hk hI r1
  have e7 := v1 _ _ _ r2
  have hlen : es.toList.length = m.length := by have := e4.len; simpa using this
  have hkv := keys_val v1 e4
  have hf := v3 x w es.toList (m.map (·.1)) hkv
  rw [find_mix hlen] at hf
  have hu : P.underlying T = some (.map K E) := tdOf_ok hT hd (by simp)
  cases hmx : mix m x with
  | none =>
    have hs : mdel m x = m := by unfold mdel; rw [hmx]
    rw [hmx] at hf
    have hrun : (Builtin.delete_ #[T, U] ty #[.map (some bl), val x]).run P w = .ok (.tuple #[]) { w with heap := w.heap.setIfInBounds bl (.map es clock) } := by
      simp [Builtin.delete_, run_underlying hu, MapKept.run_getObj_map e3, v2, hf, MapKept.run_setObj_map _ e3, Result.andThen]
    refine ⟨.tuple #[], _, G, ?_, .refl G, hI.set_sp (hH.at_ k hk) rfl e2 (o' := .map es clock) (a' := .mpc ((mdel m x).map fun x => ek x.1) ((mdel m x).map fun x => ev x.2)) rfl ?_, .junk _⟩
    · simp [execOp, resolve, invoke, builtin, e1, e7, hrun]
    · rw [hs]; exact .mp _ _ _ _ e4 e5 e6
  | some i =>
    obtain ⟨v, hv⟩ := mix_get hmx
    have h1 : i < m.length := (List.getElem?_eq_some_iff.1 hv).1
    have h2 : i < es.size := by simpa using (show i < es.toList.length by omega)
    have hs : mdel m x = m.eraseIdx i := by unfold mdel; rw [hmx]
    have hb : ((some i).bind fun i => es.toList[i]?.map fun e => (i, e.val)) = some (i, es[i].val) := by simp [h2]
    rw [hmx, hb] at hf
    have hrun : (Builtin.delete_ #[T, U] ty #[.map (some bl), val x]).run P w = .ok (.tuple #[]) { w with heap := w.heap.setIfInBounds bl (.map (es.eraseIdxIfInBounds i) clock) } := by
      simp [Builtin.delete_, run_underlying hu, MapKept.run_getObj_map e3, v2, hf, MapKept.run_setObj_map _ e3, Result.andThen]
    have et : (es.eraseIdxIfInBounds i).toList = es.toList.eraseIdx i := by simp [Array.eraseIdxIfInBounds, h2]
    have er : ∀ {l : List Value} {m : List AV}, RelL G l m → RelL G (l.eraseIdx i) (m.eraseIdx i) := fun {l m} h => ⟨by simp only [List.length_eraseIdx, h.len], fun j x y q1 q2 => by
      rw [List.getElem?_eraseIdx] at q1 q2
      split at q1
      · rename_i hj; rw [if_pos hj] at q2; exact h.at_ _ _ _ q1 q2
      · rename_i hj; rw [if_neg hj] at q2; exact h.at_ _ _ _ q1 q2⟩
    have em : ∀ {γ δ : Type} (f : γ → δ) (l : List γ), (l.eraseIdx i).map f = (l.map f).eraseIdx i := fun f l => by
      rw [List.eraseIdx_eq_take_drop_succ, List.eraseIdx_eq_take_drop_succ, List.map_append, List.map_take, List.map_drop]
    refine ⟨.tuple #[], _, G, ?_, .refl G, hI.set_sp (hH.at_ k hk) rfl e2 (o' := .map (es.eraseIdxIfInBounds i) clock) (a' := .mpc ((mdel m x).map fun x => ek x.1) ((mdel m x).map fun x => ev x.2)) rfl ?_, .junk _⟩
    · simp [execOp, resolve, invoke, builtin, e1, e7, hrun]
    · rw [hs, em, em]
      refine .mp _ _ _ _ ?_ ?_ fun e he => ?_
      · rw [et, em]; exact er e4
      · rw [et, em]; exact er e5
      · rw [et] at he; exact e6 e (List.mem_of_mem_eraseIdx he)
end
end Go.Va
namespace Go.Proofs.YtgeflfdonoicaaaDoor
open Go Go.Va
set_option linter.unusedSimpArgs false
def ty : TypeId → Option TI
  | 1 => some ⟨.func, 1, 8, .nilf⟩
  | 2 => some ⟨.int .i64, 1, 8, .int .i64 0⟩
  | 3 => some ⟨.int .i64, 1, 8, .int .i64 0⟩
  | 4 => some ⟨.bool, 1, 1, .bool false⟩
  | 5 => some ⟨.int .u8, 1, 1, .int .u8 0⟩
  | 6 => some ⟨.int .u8, 1, 1, .int .u8 0⟩
  | 7 => some ⟨.struct [(0, 2), (1, 3), (2, 4), (3, 6)], 4, 24, .agg [.int .i64 0, .int .i64 0, .bool false, .int .u8 0]⟩
  | 8 => some ⟨.struct [(0, 2), (1, 3), (2, 4), (3, 6)], 4, 24, .agg [.int .i64 0, .int .i64 0, .bool false, .int .u8 0]⟩
  | 9 => some ⟨.str, 1, 16, .str ⟨#[]⟩⟩
  | 10 => some ⟨.str, 1, 16, .str ⟨#[]⟩⟩
  | 11 => some ⟨.str, 1, 16, .str ⟨#[]⟩⟩
  | 12 => some ⟨.int .u64, 1, 8, .int .u64 0⟩
  | 13 => some ⟨.struct [(0, 9), (1, 12)], 2, 24, .agg [.str ⟨#[]⟩, .int .u64 0]⟩
  | 14 => some ⟨.struct [(0, 9), (1, 12)], 2, 24, .agg [.str ⟨#[]⟩, .int .u64 0]⟩
  | 15 => some ⟨.ptr 93, 1, 8, .nilp⟩
  | 16 => some ⟨.ptr 96, 1, 8, .nilp⟩
  | 17 => some ⟨.ptr 105, 1, 8, .nilp⟩
  | 18 => some ⟨.struct [(0, 17)], 1, 8, .agg [.nilp]⟩
  | 19 => some ⟨.struct [(0, 17)], 1, 8, .agg [.nilp]⟩
  | 20 => some ⟨.iface, 1, 16, .nili⟩
  | 21 => some ⟨.int .i32, 1, 4, .int .i32 0⟩
  | 22 => some ⟨.slice 32, 1, 24, .nils⟩
  | 23 => some ⟨.func, 1, 8, .nilf⟩
  | 24 => some ⟨.iface, 1, 16, .nili⟩
  | 25 => some ⟨.iface, 1, 16, .nili⟩
  | 26 => some ⟨.func, 1, 8, .nilf⟩
  | 27 => some ⟨.func, 1, 8, .nilf⟩
  | 28 => some ⟨.slice 5, 1, 24, .nils⟩
  | 29 => some ⟨.struct [(0, 9), (1, 3), (2, 3), (3, 3), (4, 28)], 5, 64, .agg [.str ⟨#[]⟩, .int .i64 0, .int .i64 0, .int .i64 0, .nils]⟩
  | 30 => some ⟨.struct [(0, 9), (1, 3), (2, 3), (3, 3), (4, 28)], 5, 64, .agg [.str ⟨#[]⟩, .int .i64 0, .int .i64 0, .int .i64 0, .nils]⟩
  | 31 => some ⟨.struct [(0, 3), (1, 3), (2, 30), (7, 4)], 8, 88, .agg [.int .i64 0, .int .i64 0, .str ⟨#[]⟩, .int .i64 0, .int .i64 0, .int .i64 0, .nils, .bool false]⟩
  | 32 => some ⟨.struct [(0, 3), (1, 3), (2, 30), (7, 4)], 8, 88, .agg [.int .i64 0, .int .i64 0, .str ⟨#[]⟩, .int .i64 0, .int .i64 0, .int .i64 0, .nils, .bool false]⟩
  | 33 => some ⟨.func, 1, 8, .nilf⟩
  | 34 => some ⟨.slice 30, 1, 24, .nils⟩
  | 35 => some ⟨.func, 1, 8, .nilf⟩
  | 36 => some ⟨.ptr 52, 1, 8, .nilp⟩
  | 37 => some ⟨.func, 1, 8, .nilf⟩
  | 38 => some ⟨.func, 1, 8, .nilf⟩
  | 39 => some ⟨.func, 1, 8, .nilf⟩
  | 40 => some ⟨.int .i64, 1, 8, .int .i64 0⟩
  | 42 => some ⟨.func, 1, 8, .nilf⟩
  | 43 => some ⟨.func, 1, 8, .nilf⟩
  | 44 => some ⟨.func, 1, 8, .nilf⟩
  | 45 => some ⟨.func, 1, 8, .nilf⟩
  | 46 => some ⟨.map 3 32, 1, 8, .nilm⟩
  | 47 => some ⟨.map 9 3, 1, 8, .nilm⟩
  | 48 => some ⟨.map 64 3, 1, 8, .nilm⟩
  | 49 => some ⟨.map 3 3, 1, 8, .nilm⟩
  | 50 => some ⟨.arr 5 3, 5, 40, .agg [.int .i64 0, .int .i64 0, .int .i64 0, .int .i64 0, .int .i64 0]⟩
  | 51 => some ⟨.struct [(0, 3), (1, 46), (2, 47), (3, 48), (4, 49), (5, 50)], 10, 80, .agg [.int .i64 0, .nilm, .nilm, .nilm, .nilm, .int .i64 0, .int .i64 0, .int .i64 0, .int .i64 0, .int .i64 0]⟩
  | 52 => some ⟨.struct [(0, 3), (1, 46), (2, 47), (3, 48), (4, 49), (5, 50)], 10, 80, .agg [.int .i64 0, .nilm, .nilm, .nilm, .nilm, .int .i64 0, .int .i64 0, .int .i64 0, .int .i64 0, .int .i64 0]⟩
  | 54 => some ⟨.ptr 56, 1, 8, .nilp⟩
  | 55 => some ⟨.struct [(0, 9), (1, 3), (2, 40), (3, 25)], 4, 48, .agg [.str ⟨#[]⟩, .int .i64 0, .int .i64 0, .nili]⟩
  | 56 => some ⟨.struct [(0, 9), (1, 3), (2, 40), (3, 25)], 4, 48, .agg [.str ⟨#[]⟩, .int .i64 0, .int .i64 0, .nili]⟩
  | 57 => some ⟨.slice 60, 1, 24, .nils⟩
  | 58 => some ⟨.func, 1, 8, .nilf⟩
  | 59 => some ⟨.struct [(0, 9), (1, 3), (2, 40)], 3, 32, .agg [.str ⟨#[]⟩, .int .i64 0, .int .i64 0]⟩
  | 60 => some ⟨.struct [(0, 9), (1, 3), (2, 40)], 3, 32, .agg [.str ⟨#[]⟩, .int .i64 0, .int .i64 0]⟩
  | 61 => some ⟨.func, 1, 8, .nilf⟩
  | 62 => some ⟨.ptr 54, 1, 8, .nilp⟩
  | 63 => some ⟨.struct [(0, 3), (1, 9)], 2, 24, .agg [.int .i64 0, .str ⟨#[]⟩]⟩
  | 64 => some ⟨.struct [(0, 3), (1, 9)], 2, 24, .agg [.int .i64 0, .str ⟨#[]⟩]⟩
  | 66 => some ⟨.int .u64, 1, 8, .int .u64 0⟩
  | 69 => some ⟨.func, 1, 8, .nilf⟩
  | 70 => some ⟨.iface, 1, 16, .nili⟩
  | 71 => some ⟨.iface, 1, 16, .nili⟩
  | 72 => some ⟨.func, 1, 8, .nilf⟩
  | 73 => some ⟨.int .u8, 1, 1, .int .u8 0⟩
  | 74 => some ⟨.func, 1, 8, .nilf⟩
  | 75 => some ⟨.func, 1, 8, .nilf⟩
  | 76 => some ⟨.func, 1, 8, .nilf⟩
  | 77 => some ⟨.struct [(0, 17)], 1, 8, .agg [.nilp]⟩
  | 78 => some ⟨.struct [(0, 17)], 1, 8, .agg [.nilp]⟩
  | 79 => some ⟨.ptr 109, 1, 8, .nilp⟩
  | 80 => some ⟨.func, 1, 8, .nilf⟩
  | 81 => some ⟨.func, 1, 8, .nilf⟩
  | 82 => some ⟨.func, 1, 8, .nilf⟩
  | 83 => some ⟨.iface, 1, 16, .nili⟩
  | 85 => some ⟨.func, 1, 8, .nilf⟩
  | 86 => some ⟨.iface, 1, 16, .nili⟩
  | 87 => some ⟨.func, 1, 8, .nilf⟩
  | 88 => some ⟨.iface, 1, 16, .nili⟩
  | 89 => some ⟨.slice 25, 1, 24, .nils⟩
  | 90 => some ⟨.func, 1, 8, .nilf⟩
  | 91 => some ⟨.func, 1, 8, .nilf⟩
  | 92 => some ⟨.struct [(0, 17), (1, 17), (2, 17), (3, 9)], 4, 40, .agg [.nilp, .nilp, .nilp, .str ⟨#[]⟩]⟩
  | 93 => some ⟨.struct [(0, 17), (1, 17), (2, 17), (3, 9)], 4, 40, .agg [.nilp, .nilp, .nilp, .str ⟨#[]⟩]⟩
  | 97 => some ⟨.func, 1, 8, .nilf⟩
  | 98 => some ⟨.int .u32, 1, 4, .int .u32 0⟩
  | 99 => some ⟨.int .u8, 1, 1, .int .u8 0⟩
  | 100 => some ⟨.func, 1, 8, .nilf⟩
  | 101 => some ⟨.ptr 5, 1, 8, .nilp⟩
  | 102 => some ⟨.int .i32, 1, 4, .int .i32 0⟩
  | 103 => some ⟨.int .i32, 1, 4, .int .i32 0⟩
  | 104 => some ⟨.struct [(0, 12), (1, 12), (2, 98), (3, 99), (4, 5), (5, 5), (6, 73), (7, 100), (8, 101), (9, 102), (10, 103)], 11, 48, .agg [.int .u64 0, .int .u64 0, .int .u32 0, .int .u8 0, .int .u8 0, .int .u8 0, .int .u8 0, .nilf, .nilp, .int .i32 0, .int .i32 0]⟩
  | 105 => some ⟨.struct [(0, 12), (1, 12), (2, 98), (3, 99), (4, 5), (5, 5), (6, 73), (7, 100), (8, 101), (9, 102), (10, 103)], 11, 48, .agg [.int .u64 0, .int .u64 0, .int .u32 0, .int .u8 0, .int .u8 0, .int .u8 0, .int .u8 0, .nilf, .nilp, .int .i32 0, .int .i32 0]⟩
  | 106 => some ⟨.func, 1, 8, .nilf⟩
  | 107 => some ⟨.func, 1, 8, .nilf⟩
  | 108 => some ⟨.struct [(0, 9), (1, 73)], 2, 24, .agg [.str ⟨#[]⟩, .int .u8 0]⟩
  | 109 => some ⟨.struct [(0, 9), (1, 73)], 2, 24, .agg [.str ⟨#[]⟩, .int .u8 0]⟩
  | 110 => some ⟨.ptr 114, 1, 8, .nilp⟩
  | 111 => some ⟨.func, 1, 8, .nilf⟩
  | 112 => some ⟨.int .u16, 1, 2, .int .u16 0⟩
  | 113 => some ⟨.struct [(0, 102), (1, 112), (2, 112), (3, 98), (4, 98)], 5, 16, .agg [.int .i32 0, .int .u16 0, .int .u16 0, .int .u32 0, .int .u32 0]⟩
  | 114 => some ⟨.struct [(0, 102), (1, 112), (2, 112), (3, 98), (4, 98)], 5, 16, .agg [.int .i32 0, .int .u16 0, .int .u16 0, .int .u32 0, .int .u32 0]⟩
  | 115 => some ⟨.slice 118, 1, 24, .nils⟩
  | 116 => some ⟨.int .i32, 1, 4, .int .i32 0⟩
  | 117 => some ⟨.struct [(0, 102), (1, 103), (2, 116), (3, 116)], 4, 16, .agg [.int .i32 0, .int .i32 0, .int .i32 0, .int .i32 0]⟩
  | 118 => some ⟨.struct [(0, 102), (1, 103), (2, 116), (3, 116)], 4, 16, .agg [.int .i32 0, .int .i32 0, .int .i32 0, .int .i32 0]⟩
  | 119 => some ⟨.ptr 25, 1, 8, .nilp⟩
  | _ => none
theorem ty3 : ty 3 = some ⟨.int .i64, 1, 8, .int .i64 0⟩ := rfl
theorem td3 : tdOf ty 3 = .int .i64 := rfl
theorem sz3 : szOf ty 3 = 1 := rfl
theorem td4 : tdOf ty 4 = .bool := rfl
theorem sz4 : szOf ty 4 = 1 := rfl
theorem td5 : tdOf ty 5 = .int .u8 := rfl
theorem sz5 : szOf ty 5 = 1 := rfl
theorem td9 : tdOf ty 9 = .str := rfl
theorem sz9 : szOf ty 9 = 1 := rfl
theorem td22 : tdOf ty 22 = .slice 32 := rfl
theorem sz22 : szOf ty 22 = 1 := rfl
theorem sz25 : szOf ty 25 = 1 := rfl
theorem td28 : tdOf ty 28 = .slice 5 := rfl
theorem sz28 : szOf ty 28 = 1 := rfl
theorem ty30 : ty 30 = some ⟨.struct [(0, 9), (1, 3), (2, 3), (3, 3), (4, 28)], 5, 64, .agg [.str ⟨#[]⟩, .int .i64 0, .int .i64 0, .int .i64 0, .nils]⟩ := rfl
theorem sz30 : szOf ty 30 = 5 := rfl
theorem ty32 : ty 32 = some ⟨.struct [(0, 3), (1, 3), (2, 30), (7, 4)], 8, 88, .agg [.int .i64 0, .int .i64 0, .str ⟨#[]⟩, .int .i64 0, .int .i64 0, .int .i64 0, .nils, .bool false]⟩ := rfl
theorem sz32 : szOf ty 32 = 8 := rfl
theorem td34 : tdOf ty 34 = .slice 30 := rfl
theorem td40 : tdOf ty 40 = .int .i64 := rfl
theorem sz40 : szOf ty 40 = 1 := rfl
theorem td46 : tdOf ty 46 = .map 3 32 := rfl
theorem td47 : tdOf ty 47 = .map 9 3 := rfl
theorem td48 : tdOf ty 48 = .map 64 3 := rfl
theorem td49 : tdOf ty 49 = .map 3 3 := rfl
theorem td50 : tdOf ty 50 = .arr 5 3 := rfl
theorem ty54 : ty 54 = some ⟨.ptr 56, 1, 8, .nilp⟩ := rfl
theorem sz56 : szOf ty 56 = 4 := rfl
theorem td57 : tdOf ty 57 = .slice 60 := rfl
theorem ty60 : ty 60 = some ⟨.struct [(0, 9), (1, 3), (2, 40)], 3, 32, .agg [.str ⟨#[]⟩, .int .i64 0, .int .i64 0]⟩ := rfl
theorem sz60 : szOf ty 60 = 3 := rfl
theorem ty64 : ty 64 = some ⟨.struct [(0, 3), (1, 9)], 2, 24, .agg [.int .i64 0, .str ⟨#[]⟩]⟩ := rfl
theorem sz64 : szOf ty 64 = 2 := rfl
theorem ok1 : TiOk Tryd.prog 1 ⟨.func, 1, 8, .nilf⟩ := tiOk_mk (.nilFunc) ⟨_, _, _, Tryd.underlying1⟩ (by kernel_rfl) rfl rfl rfl (by simp [Value.cells, Value.oneCell'])
theorem ok2 : TiOk Tryd.prog 2 ⟨.int .i64, 1, 8, .int .i64 0⟩ := tiOk_mk (.int .i64 0) Tryd.underlying2 (by kernel_rfl) rfl rfl rfl (by simp [Value.cells, Value.oneCell'])
theorem ok3 : TiOk Tryd.prog 3 ⟨.int .i64, 1, 8, .int .i64 0⟩ := tiOk_mk (.int .i64 0) Tryd.underlying3 (by kernel_rfl) rfl rfl rfl (by simp [Value.cells, Value.oneCell'])
theorem ok4 : TiOk Tryd.prog 4 ⟨.bool, 1, 1, .bool false⟩ := tiOk_mk (.bool false) Tryd.underlying4 (by kernel_rfl) rfl rfl rfl (by simp [Value.cells, Value.oneCell'])
theorem ok5 : TiOk Tryd.prog 5 ⟨.int .u8, 1, 1, .int .u8 0⟩ := tiOk_mk (.int .u8 0) Tryd.underlying5 (by kernel_rfl) rfl rfl rfl (by simp [Value.cells, Value.oneCell'])
theorem ok6 : TiOk Tryd.prog 6 ⟨.int .u8, 1, 1, .int .u8 0⟩ := tiOk_mk (.int .u8 0) Tryd.underlying6 (by kernel_rfl) rfl rfl rfl (by simp [Value.cells, Value.oneCell'])
theorem ok7 : TiOk Tryd.prog 7 ⟨.struct [(0, 2), (1, 3), (2, 4), (3, 6)], 4, 24, .agg [.int .i64 0, .int .i64 0, .bool false, .int .u8 0]⟩ := tiOk_mk (.agg #[.int .i64 0, .int .i64 0, .bool false, .int .u8 0]) ⟨_, Tryd.underlying7, rfl⟩ (by kernel_rfl) rfl rfl rfl (by simp [Value.cells, Value.oneCell'])
theorem ok8 : TiOk Tryd.prog 8 ⟨.struct [(0, 2), (1, 3), (2, 4), (3, 6)], 4, 24, .agg [.int .i64 0, .int .i64 0, .bool false, .int .u8 0]⟩ := tiOk_mk (.agg #[.int .i64 0, .int .i64 0, .bool false, .int .u8 0]) ⟨_, Tryd.underlying8, rfl⟩ (by kernel_rfl) rfl rfl rfl (by simp [Value.cells, Value.oneCell'])
theorem ok9 : TiOk Tryd.prog 9 ⟨.str, 1, 16, .str ⟨#[]⟩⟩ := tiOk_mk (.string ⟨#[]⟩) Tryd.underlying9 (by kernel_rfl) rfl rfl rfl (by simp [Value.cells, Value.oneCell'])
theorem ok10 : TiOk Tryd.prog 10 ⟨.str, 1, 16, .str ⟨#[]⟩⟩ := tiOk_mk (.string ⟨#[]⟩) Tryd.underlying10 (by kernel_rfl) rfl rfl rfl (by simp [Value.cells, Value.oneCell'])
theorem ok11 : TiOk Tryd.prog 11 ⟨.str, 1, 16, .str ⟨#[]⟩⟩ := tiOk_mk (.string ⟨#[]⟩) Tryd.underlying11 (by kernel_rfl) rfl rfl rfl (by simp [Value.cells, Value.oneCell'])
theorem ok12 : TiOk Tryd.prog 12 ⟨.int .u64, 1, 8, .int .u64 0⟩ := tiOk_mk (.int .u64 0) Tryd.underlying12 (by kernel_rfl) rfl rfl rfl (by simp [Value.cells, Value.oneCell'])
theorem ok13 : TiOk Tryd.prog 13 ⟨.struct [(0, 9), (1, 12)], 2, 24, .agg [.str ⟨#[]⟩, .int .u64 0]⟩ := tiOk_mk (.agg #[.string ⟨#[]⟩, .int .u64 0]) ⟨_, Tryd.underlying13, rfl⟩ (by kernel_rfl) rfl rfl rfl (by simp [Value.cells, Value.oneCell'])
theorem ok14 : TiOk Tryd.prog 14 ⟨.struct [(0, 9), (1, 12)], 2, 24, .agg [.str ⟨#[]⟩, .int .u64 0]⟩ := tiOk_mk (.agg #[.string ⟨#[]⟩, .int .u64 0]) ⟨_, Tryd.underlying14, rfl⟩ (by kernel_rfl) rfl rfl rfl (by simp [Value.cells, Value.oneCell'])
theorem ok15 : TiOk Tryd.prog 15 ⟨.ptr 93, 1, 8, .nilp⟩ := tiOk_mk (.pointer none) Tryd.underlying15 (by kernel_rfl) rfl rfl rfl (by simp [Value.cells, Value.oneCell'])
theorem ok16 : TiOk Tryd.prog 16 ⟨.ptr 96, 1, 8, .nilp⟩ := tiOk_mk (.pointer none) Tryd.underlying16 (by kernel_rfl) rfl rfl rfl (by simp [Value.cells, Value.oneCell'])
theorem ok17 : TiOk Tryd.prog 17 ⟨.ptr 105, 1, 8, .nilp⟩ := tiOk_mk (.pointer none) Tryd.underlying17 (by kernel_rfl) rfl rfl rfl (by simp [Value.cells, Value.oneCell'])
theorem ok18 : TiOk Tryd.prog 18 ⟨.struct [(0, 17)], 1, 8, .agg [.nilp]⟩ := tiOk_mk (.agg #[.pointer none]) ⟨_, Tryd.underlying18, rfl⟩ (by kernel_rfl) rfl rfl rfl (by simp [Value.cells, Value.oneCell'])
theorem ok19 : TiOk Tryd.prog 19 ⟨.struct [(0, 17)], 1, 8, .agg [.nilp]⟩ := tiOk_mk (.agg #[.pointer none]) ⟨_, Tryd.underlying19, rfl⟩ (by kernel_rfl) rfl rfl rfl (by simp [Value.cells, Value.oneCell'])
theorem ok20 : TiOk Tryd.prog 20 ⟨.iface, 1, 16, .nili⟩ := tiOk_mk (.nilIface) ⟨_, Tryd.underlying20⟩ (by kernel_rfl) rfl rfl rfl (by simp [Value.cells, Value.oneCell'])
theorem ok21 : TiOk Tryd.prog 21 ⟨.int .i32, 1, 4, .int .i32 0⟩ := tiOk_mk (.int .i32 0) Tryd.underlying21 (by kernel_rfl) rfl rfl rfl (by simp [Value.cells, Value.oneCell'])
theorem ok22 : TiOk Tryd.prog 22 ⟨.slice 32, 1, 24, .nils⟩ := tiOk_mk (.slice none 0 0) Tryd.underlying22 (by kernel_rfl) rfl rfl rfl (by simp [Value.cells, Value.oneCell'])
theorem ok23 : TiOk Tryd.prog 23 ⟨.func, 1, 8, .nilf⟩ := tiOk_mk (.nilFunc) ⟨_, _, _, Tryd.underlying23⟩ (by kernel_rfl) rfl rfl rfl (by simp [Value.cells, Value.oneCell'])
theorem ok24 : TiOk Tryd.prog 24 ⟨.iface, 1, 16, .nili⟩ := tiOk_mk (.nilIface) ⟨_, Tryd.underlying24⟩ (by kernel_rfl) rfl rfl rfl (by simp [Value.cells, Value.oneCell'])
theorem ok25 : TiOk Tryd.prog 25 ⟨.iface, 1, 16, .nili⟩ := tiOk_mk (.nilIface) ⟨_, Tryd.underlying25⟩ (by kernel_rfl) rfl rfl rfl (by simp [Value.cells, Value.oneCell'])
theorem ok26 : TiOk Tryd.prog 26 ⟨.func, 1, 8, .nilf⟩ := tiOk_mk (.nilFunc) ⟨_, _, _, Tryd.underlying26⟩ (by kernel_rfl) rfl rfl rfl (by simp [Value.cells, Value.oneCell'])
theorem ok27 : TiOk Tryd.prog 27 ⟨.func, 1, 8, .nilf⟩ := tiOk_mk (.nilFunc) ⟨_, _, _, Tryd.underlying27⟩ (by kernel_rfl) rfl rfl rfl (by simp [Value.cells, Value.oneCell'])
theorem ok28 : TiOk Tryd.prog 28 ⟨.slice 5, 1, 24, .nils⟩ := tiOk_mk (.slice none 0 0) Tryd.underlying28 (by kernel_rfl) rfl rfl rfl (by simp [Value.cells, Value.oneCell'])
theorem ok29 : TiOk Tryd.prog 29 ⟨.struct [(0, 9), (1, 3), (2, 3), (3, 3), (4, 28)], 5, 64, .agg [.str ⟨#[]⟩, .int .i64 0, .int .i64 0, .int .i64 0, .nils]⟩ := tiOk_mk (.agg #[.string ⟨#[]⟩, .int .i64 0, .int .i64 0, .int .i64 0, .slice none 0 0]) ⟨_, Tryd.underlying29, rfl⟩ (by kernel_rfl) rfl rfl rfl (by simp [Value.cells, Value.oneCell'])
theorem ok30 : TiOk Tryd.prog 30 ⟨.struct [(0, 9), (1, 3), (2, 3), (3, 3), (4, 28)], 5, 64, .agg [.str ⟨#[]⟩, .int .i64 0, .int .i64 0, .int .i64 0, .nils]⟩ := tiOk_mk (.agg #[.string ⟨#[]⟩, .int .i64 0, .int .i64 0, .int .i64 0, .slice none 0 0]) ⟨_, Tryd.underlying30, rfl⟩ (by kernel_rfl) rfl rfl rfl (by simp [Value.cells, Value.oneCell'])
theorem ok31 : TiOk Tryd.prog 31 ⟨.struct [(0, 3), (1, 3), (2, 30), (7, 4)], 8, 88, .agg [.int .i64 0, .int .i64 0, .str ⟨#[]⟩, .int .i64 0, .int .i64 0, .int .i64 0, .nils, .bool false]⟩ := tiOk_mk (.agg #[.int .i64 0, .int .i64 0, .string ⟨#[]⟩, .int .i64 0, .int .i64 0, .int .i64 0, .slice none 0 0, .bool false]) ⟨_, Tryd.underlying31, rfl⟩ (by kernel_rfl) rfl rfl rfl (by simp [Value.cells, Value.oneCell'])
theorem ok32 : TiOk Tryd.prog 32 ⟨.struct [(0, 3), (1, 3), (2, 30), (7, 4)], 8, 88, .agg [.int .i64 0, .int .i64 0, .str ⟨#[]⟩, .int .i64 0, .int .i64 0, .int .i64 0, .nils, .bool false]⟩ := tiOk_mk (.agg #[.int .i64 0, .int .i64 0, .string ⟨#[]⟩, .int .i64 0, .int .i64 0, .int .i64 0, .slice none 0 0, .bool false]) ⟨_, Tryd.underlying32, rfl⟩ (by kernel_rfl) rfl rfl rfl (by simp [Value.cells, Value.oneCell'])
theorem ok33 : TiOk Tryd.prog 33 ⟨.func, 1, 8, .nilf⟩ := tiOk_mk (.nilFunc) ⟨_, _, _, Tryd.underlying33⟩ (by kernel_rfl) rfl rfl rfl (by simp [Value.cells, Value.oneCell'])
theorem ok34 : TiOk Tryd.prog 34 ⟨.slice 30, 1, 24, .nils⟩ := tiOk_mk (.slice none 0 0) Tryd.underlying34 (by kernel_rfl) rfl rfl rfl (by simp [Value.cells, Value.oneCell'])
theorem ok35 : TiOk Tryd.prog 35 ⟨.func, 1, 8, .nilf⟩ := tiOk_mk (.nilFunc) ⟨_, _, _, Tryd.underlying35⟩ (by kernel_rfl) rfl rfl rfl (by simp [Value.cells, Value.oneCell'])
theorem ok36 : TiOk Tryd.prog 36 ⟨.ptr 52, 1, 8, .nilp⟩ := tiOk_mk (.pointer none) Tryd.underlying36 (by kernel_rfl) rfl rfl rfl (by simp [Value.cells, Value.oneCell'])
theorem ok37 : TiOk Tryd.prog 37 ⟨.func, 1, 8, .nilf⟩ := tiOk_mk (.nilFunc) ⟨_, _, _, Tryd.underlying37⟩ (by kernel_rfl) rfl rfl rfl (by simp [Value.cells, Value.oneCell'])
theorem ok38 : TiOk Tryd.prog 38 ⟨.func, 1, 8, .nilf⟩ := tiOk_mk (.nilFunc) ⟨_, _, _, Tryd.underlying38⟩ (by kernel_rfl) rfl rfl rfl (by simp [Value.cells, Value.oneCell'])
theorem ok39 : TiOk Tryd.prog 39 ⟨.func, 1, 8, .nilf⟩ := tiOk_mk (.nilFunc) ⟨_, _, _, Tryd.underlying39⟩ (by kernel_rfl) rfl rfl rfl (by simp [Value.cells, Value.oneCell'])
theorem ok40 : TiOk Tryd.prog 40 ⟨.int .i64, 1, 8, .int .i64 0⟩ := tiOk_mk (.int .i64 0) Tryd.underlying40 (by kernel_rfl) rfl rfl rfl (by simp [Value.cells, Value.oneCell'])
theorem ok42 : TiOk Tryd.prog 42 ⟨.func, 1, 8, .nilf⟩ := tiOk_mk (.nilFunc) ⟨_, _, _, Tryd.underlying42⟩ (by kernel_rfl) rfl rfl rfl (by simp [Value.cells, Value.oneCell'])
theorem ok43 : TiOk Tryd.prog 43 ⟨.func, 1, 8, .nilf⟩ := tiOk_mk (.nilFunc) ⟨_, _, _, Tryd.underlying43⟩ (by kernel_rfl) rfl rfl rfl (by simp [Value.cells, Value.oneCell'])
theorem ok44 : TiOk Tryd.prog 44 ⟨.func, 1, 8, .nilf⟩ := tiOk_mk (.nilFunc) ⟨_, _, _, Tryd.underlying44⟩ (by kernel_rfl) rfl rfl rfl (by simp [Value.cells, Value.oneCell'])
theorem ok45 : TiOk Tryd.prog 45 ⟨.func, 1, 8, .nilf⟩ := tiOk_mk (.nilFunc) ⟨_, _, _, Tryd.underlying45⟩ (by kernel_rfl) rfl rfl rfl (by simp [Value.cells, Value.oneCell'])
theorem ok46 : TiOk Tryd.prog 46 ⟨.map 3 32, 1, 8, .nilm⟩ := tiOk_mk (.map none) Tryd.underlying46 (by kernel_rfl) rfl rfl rfl (by simp [Value.cells, Value.oneCell'])
theorem ok47 : TiOk Tryd.prog 47 ⟨.map 9 3, 1, 8, .nilm⟩ := tiOk_mk (.map none) Tryd.underlying47 (by kernel_rfl) rfl rfl rfl (by simp [Value.cells, Value.oneCell'])
theorem ok48 : TiOk Tryd.prog 48 ⟨.map 64 3, 1, 8, .nilm⟩ := tiOk_mk (.map none) Tryd.underlying48 (by kernel_rfl) rfl rfl rfl (by simp [Value.cells, Value.oneCell'])
theorem ok49 : TiOk Tryd.prog 49 ⟨.map 3 3, 1, 8, .nilm⟩ := tiOk_mk (.map none) Tryd.underlying49 (by kernel_rfl) rfl rfl rfl (by simp [Value.cells, Value.oneCell'])
theorem ok50 : TiOk Tryd.prog 50 ⟨.arr 5 3, 5, 40, .agg [.int .i64 0, .int .i64 0, .int .i64 0, .int .i64 0, .int .i64 0]⟩ := tiOk_mk (.agg #[.int .i64 0, .int .i64 0, .int .i64 0, .int .i64 0, .int .i64 0]) Tryd.underlying50 (by kernel_rfl) rfl rfl rfl (by simp [Value.cells, Value.oneCell'])
theorem ok51 : TiOk Tryd.prog 51 ⟨.struct [(0, 3), (1, 46), (2, 47), (3, 48), (4, 49), (5, 50)], 10, 80, .agg [.int .i64 0, .nilm, .nilm, .nilm, .nilm, .int .i64 0, .int .i64 0, .int .i64 0, .int .i64 0, .int .i64 0]⟩ := tiOk_mk (.agg #[.int .i64 0, .map none, .map none, .map none, .map none, .int .i64 0, .int .i64 0, .int .i64 0, .int .i64 0, .int .i64 0]) ⟨_, Tryd.underlying51, rfl⟩ (by kernel_rfl) rfl rfl rfl (by simp [Value.cells, Value.oneCell'])
theorem ok52 : TiOk Tryd.prog 52 ⟨.struct [(0, 3), (1, 46), (2, 47), (3, 48), (4, 49), (5, 50)], 10, 80, .agg [.int .i64 0, .nilm, .nilm, .nilm, .nilm, .int .i64 0, .int .i64 0, .int .i64 0, .int .i64 0, .int .i64 0]⟩ := tiOk_mk (.agg #[.int .i64 0, .map none, .map none, .map none, .map none, .int .i64 0, .int .i64 0, .int .i64 0, .int .i64 0, .int .i64 0]) ⟨_, Tryd.underlying52, rfl⟩ (by kernel_rfl) rfl rfl rfl (by simp [Value.cells, Value.oneCell'])
theorem ok54 : TiOk Tryd.prog 54 ⟨.ptr 56, 1, 8, .nilp⟩ := tiOk_mk (.pointer none) Tryd.underlying54 (by kernel_rfl) rfl rfl rfl (by simp [Value.cells, Value.oneCell'])
theorem ok55 : TiOk Tryd.prog 55 ⟨.struct [(0, 9), (1, 3), (2, 40), (3, 25)], 4, 48, .agg [.str ⟨#[]⟩, .int .i64 0, .int .i64 0, .nili]⟩ := tiOk_mk (.agg #[.string ⟨#[]⟩, .int .i64 0, .int .i64 0, .nilIface]) ⟨_, Tryd.underlying55, rfl⟩ (by kernel_rfl) rfl rfl rfl (by simp [Value.cells, Value.oneCell'])
theorem ok56 : TiOk Tryd.prog 56 ⟨.struct [(0, 9), (1, 3), (2, 40), (3, 25)], 4, 48, .agg [.str ⟨#[]⟩, .int .i64 0, .int .i64 0, .nili]⟩ := tiOk_mk (.agg #[.string ⟨#[]⟩, .int .i64 0, .int .i64 0, .nilIface]) ⟨_, Tryd.underlying56, rfl⟩ (by kernel_rfl) rfl rfl rfl (by simp [Value.cells, Value.oneCell'])
theorem ok57 : TiOk Tryd.prog 57 ⟨.slice 60, 1, 24, .nils⟩ := tiOk_mk (.slice none 0 0) Tryd.underlying57 (by kernel_rfl) rfl rfl rfl (by simp [Value.cells, Value.oneCell'])
theorem ok58 : TiOk Tryd.prog 58 ⟨.func, 1, 8, .nilf⟩ := tiOk_mk (.nilFunc) ⟨_, _, _, Tryd.underlying58⟩ (by kernel_rfl) rfl rfl rfl (by simp [Value.cells, Value.oneCell'])
theorem ok59 : TiOk Tryd.prog 59 ⟨.struct [(0, 9), (1, 3), (2, 40)], 3, 32, .agg [.str ⟨#[]⟩, .int .i64 0, .int .i64 0]⟩ := tiOk_mk (.agg #[.string ⟨#[]⟩, .int .i64 0, .int .i64 0]) ⟨_, Tryd.underlying59, rfl⟩ (by kernel_rfl) rfl rfl rfl (by simp [Value.cells, Value.oneCell'])
theorem ok60 : TiOk Tryd.prog 60 ⟨.struct [(0, 9), (1, 3), (2, 40)], 3, 32, .agg [.str ⟨#[]⟩, .int .i64 0, .int .i64 0]⟩ := tiOk_mk (.agg #[.string ⟨#[]⟩, .int .i64 0, .int .i64 0]) ⟨_, Tryd.underlying60, rfl⟩ (by kernel_rfl) rfl rfl rfl (by simp [Value.cells, Value.oneCell'])
theorem ok61 : TiOk Tryd.prog 61 ⟨.func, 1, 8, .nilf⟩ := tiOk_mk (.nilFunc) ⟨_, _, _, Tryd.underlying61⟩ (by kernel_rfl) rfl rfl rfl (by simp [Value.cells, Value.oneCell'])
theorem ok62 : TiOk Tryd.prog 62 ⟨.ptr 54, 1, 8, .nilp⟩ := tiOk_mk (.pointer none) Tryd.underlying62 (by kernel_rfl) rfl rfl rfl (by simp [Value.cells, Value.oneCell'])
theorem ok63 : TiOk Tryd.prog 63 ⟨.struct [(0, 3), (1, 9)], 2, 24, .agg [.int .i64 0, .str ⟨#[]⟩]⟩ := tiOk_mk (.agg #[.int .i64 0, .string ⟨#[]⟩]) ⟨_, Tryd.underlying63, rfl⟩ (by kernel_rfl) rfl rfl rfl (by simp [Value.cells, Value.oneCell'])
theorem ok64 : TiOk Tryd.prog 64 ⟨.struct [(0, 3), (1, 9)], 2, 24, .agg [.int .i64 0, .str ⟨#[]⟩]⟩ := tiOk_mk (.agg #[.int .i64 0, .string ⟨#[]⟩]) ⟨_, Tryd.underlying64, rfl⟩ (by kernel_rfl) rfl rfl rfl (by simp [Value.cells, Value.oneCell'])
theorem ok66 : TiOk Tryd.prog 66 ⟨.int .u64, 1, 8, .int .u64 0⟩ := tiOk_mk (.int .u64 0) Tryd.underlying66 (by kernel_rfl) rfl rfl rfl (by simp [Value.cells, Value.oneCell'])
theorem ok69 : TiOk Tryd.prog 69 ⟨.func, 1, 8, .nilf⟩ := tiOk_mk (.nilFunc) ⟨_, _, _, Tryd.underlying69⟩ (by kernel_rfl) rfl rfl rfl (by simp [Value.cells, Value.oneCell'])
theorem ok70 : TiOk Tryd.prog 70 ⟨.iface, 1, 16, .nili⟩ := tiOk_mk (.nilIface) ⟨_, Tryd.underlying70⟩ (by kernel_rfl) rfl rfl rfl (by simp [Value.cells, Value.oneCell'])
theorem ok71 : TiOk Tryd.prog 71 ⟨.iface, 1, 16, .nili⟩ := tiOk_mk (.nilIface) ⟨_, Tryd.underlying71⟩ (by kernel_rfl) rfl rfl rfl (by simp [Value.cells, Value.oneCell'])
theorem ok72 : TiOk Tryd.prog 72 ⟨.func, 1, 8, .nilf⟩ := tiOk_mk (.nilFunc) ⟨_, _, _, Tryd.underlying72⟩ (by kernel_rfl) rfl rfl rfl (by simp [Value.cells, Value.oneCell'])
theorem ok73 : TiOk Tryd.prog 73 ⟨.int .u8, 1, 1, .int .u8 0⟩ := tiOk_mk (.int .u8 0) Tryd.underlying73 (by kernel_rfl) rfl rfl rfl (by simp [Value.cells, Value.oneCell'])
theorem ok74 : TiOk Tryd.prog 74 ⟨.func, 1, 8, .nilf⟩ := tiOk_mk (.nilFunc) ⟨_, _, _, Tryd.underlying74⟩ (by kernel_rfl) rfl rfl rfl (by simp [Value.cells, Value.oneCell'])
theorem ok75 : TiOk Tryd.prog 75 ⟨.func, 1, 8, .nilf⟩ := tiOk_mk (.nilFunc) ⟨_, _, _, Tryd.underlying75⟩ (by kernel_rfl) rfl rfl rfl (by simp [Value.cells, Value.oneCell'])
theorem ok76 : TiOk Tryd.prog 76 ⟨.func, 1, 8, .nilf⟩ := tiOk_mk (.nilFunc) ⟨_, _, _, Tryd.underlying76⟩ (by kernel_rfl) rfl rfl rfl (by simp [Value.cells, Value.oneCell'])
theorem ok77 : TiOk Tryd.prog 77 ⟨.struct [(0, 17)], 1, 8, .agg [.nilp]⟩ := tiOk_mk (.agg #[.pointer none]) ⟨_, Tryd.underlying77, rfl⟩ (by kernel_rfl) rfl rfl rfl (by simp [Value.cells, Value.oneCell'])
theorem ok78 : TiOk Tryd.prog 78 ⟨.struct [(0, 17)], 1, 8, .agg [.nilp]⟩ := tiOk_mk (.agg #[.pointer none]) ⟨_, Tryd.underlying78, rfl⟩ (by kernel_rfl) rfl rfl rfl (by simp [Value.cells, Value.oneCell'])
theorem ok79 : TiOk Tryd.prog 79 ⟨.ptr 109, 1, 8, .nilp⟩ := tiOk_mk (.pointer none) Tryd.underlying79 (by kernel_rfl) rfl rfl rfl (by simp [Value.cells, Value.oneCell'])
theorem ok80 : TiOk Tryd.prog 80 ⟨.func, 1, 8, .nilf⟩ := tiOk_mk (.nilFunc) ⟨_, _, _, Tryd.underlying80⟩ (by kernel_rfl) rfl rfl rfl (by simp [Value.cells, Value.oneCell'])
theorem ok81 : TiOk Tryd.prog 81 ⟨.func, 1, 8, .nilf⟩ := tiOk_mk (.nilFunc) ⟨_, _, _, Tryd.underlying81⟩ (by kernel_rfl) rfl rfl rfl (by simp [Value.cells, Value.oneCell'])
theorem ok82 : TiOk Tryd.prog 82 ⟨.func, 1, 8, .nilf⟩ := tiOk_mk (.nilFunc) ⟨_, _, _, Tryd.underlying82⟩ (by kernel_rfl) rfl rfl rfl (by simp [Value.cells, Value.oneCell'])
theorem ok83 : TiOk Tryd.prog 83 ⟨.iface, 1, 16, .nili⟩ := tiOk_mk (.nilIface) ⟨_, Tryd.underlying83⟩ (by kernel_rfl) rfl rfl rfl (by simp [Value.cells, Value.oneCell'])
theorem ok85 : TiOk Tryd.prog 85 ⟨.func, 1, 8, .nilf⟩ := tiOk_mk (.nilFunc) ⟨_, _, _, Tryd.underlying85⟩ (by kernel_rfl) rfl rfl rfl (by simp [Value.cells, Value.oneCell'])
theorem ok86 : TiOk Tryd.prog 86 ⟨.iface, 1, 16, .nili⟩ := tiOk_mk (.nilIface) ⟨_, Tryd.underlying86⟩ (by kernel_rfl) rfl rfl rfl (by simp [Value.cells, Value.oneCell'])
theorem ok87 : TiOk Tryd.prog 87 ⟨.func, 1, 8, .nilf⟩ := tiOk_mk (.nilFunc) ⟨_, _, _, Tryd.underlying87⟩ (by kernel_rfl) rfl rfl rfl (by simp [Value.cells, Value.oneCell'])
theorem ok88 : TiOk Tryd.prog 88 ⟨.iface, 1, 16, .nili⟩ := tiOk_mk (.nilIface) ⟨_, Tryd.underlying88⟩ (by kernel_rfl) rfl rfl rfl (by simp [Value.cells, Value.oneCell'])
theorem ok89 : TiOk Tryd.prog 89 ⟨.slice 25, 1, 24, .nils⟩ := tiOk_mk (.slice none 0 0) Tryd.underlying89 (by kernel_rfl) rfl rfl rfl (by simp [Value.cells, Value.oneCell'])
theorem ok90 : TiOk Tryd.prog 90 ⟨.func, 1, 8, .nilf⟩ := tiOk_mk (.nilFunc) ⟨_, _, _, Tryd.underlying90⟩ (by kernel_rfl) rfl rfl rfl (by simp [Value.cells, Value.oneCell'])
theorem ok91 : TiOk Tryd.prog 91 ⟨.func, 1, 8, .nilf⟩ := tiOk_mk (.nilFunc) ⟨_, _, _, Tryd.underlying91⟩ (by kernel_rfl) rfl rfl rfl (by simp [Value.cells, Value.oneCell'])
theorem ok92 : TiOk Tryd.prog 92 ⟨.struct [(0, 17), (1, 17), (2, 17), (3, 9)], 4, 40, .agg [.nilp, .nilp, .nilp, .str ⟨#[]⟩]⟩ := tiOk_mk (.agg #[.pointer none, .pointer none, .pointer none, .string ⟨#[]⟩]) ⟨_, Tryd.underlying92, rfl⟩ (by kernel_rfl) rfl rfl rfl (by simp [Value.cells, Value.oneCell'])
theorem ok93 : TiOk Tryd.prog 93 ⟨.struct [(0, 17), (1, 17), (2, 17), (3, 9)], 4, 40, .agg [.nilp, .nilp, .nilp, .str ⟨#[]⟩]⟩ := tiOk_mk (.agg #[.pointer none, .pointer none, .pointer none, .string ⟨#[]⟩]) ⟨_, Tryd.underlying93, rfl⟩ (by kernel_rfl) rfl rfl rfl (by simp [Value.cells, Value.oneCell'])
theorem ok97 : TiOk Tryd.prog 97 ⟨.func, 1, 8, .nilf⟩ := tiOk_mk (.nilFunc) ⟨_, _, _, Tryd.underlying97⟩ (by kernel_rfl) rfl rfl rfl (by simp [Value.cells, Value.oneCell'])
theorem ok98 : TiOk Tryd.prog 98 ⟨.int .u32, 1, 4, .int .u32 0⟩ := tiOk_mk (.int .u32 0) Tryd.underlying98 (by kernel_rfl) rfl rfl rfl (by simp [Value.cells, Value.oneCell'])
theorem ok99 : TiOk Tryd.prog 99 ⟨.int .u8, 1, 1, .int .u8 0⟩ := tiOk_mk (.int .u8 0) Tryd.underlying99 (by kernel_rfl) rfl rfl rfl (by simp [Value.cells, Value.oneCell'])
theorem ok100 : TiOk Tryd.prog 100 ⟨.func, 1, 8, .nilf⟩ := tiOk_mk (.nilFunc) ⟨_, _, _, Tryd.underlying100⟩ (by kernel_rfl) rfl rfl rfl (by simp [Value.cells, Value.oneCell'])
theorem ok101 : TiOk Tryd.prog 101 ⟨.ptr 5, 1, 8, .nilp⟩ := tiOk_mk (.pointer none) Tryd.underlying101 (by kernel_rfl) rfl rfl rfl (by simp [Value.cells, Value.oneCell'])
theorem ok102 : TiOk Tryd.prog 102 ⟨.int .i32, 1, 4, .int .i32 0⟩ := tiOk_mk (.int .i32 0) Tryd.underlying102 (by kernel_rfl) rfl rfl rfl (by simp [Value.cells, Value.oneCell'])
theorem ok103 : TiOk Tryd.prog 103 ⟨.int .i32, 1, 4, .int .i32 0⟩ := tiOk_mk (.int .i32 0) Tryd.underlying103 (by kernel_rfl) rfl rfl rfl (by simp [Value.cells, Value.oneCell'])
theorem ok104 : TiOk Tryd.prog 104 ⟨.struct [(0, 12), (1, 12), (2, 98), (3, 99), (4, 5), (5, 5), (6, 73), (7, 100), (8, 101), (9, 102), (10, 103)], 11, 48, .agg [.int .u64 0, .int .u64 0, .int .u32 0, .int .u8 0, .int .u8 0, .int .u8 0, .int .u8 0, .nilf, .nilp, .int .i32 0, .int .i32 0]⟩ := tiOk_mk (.agg #[.int .u64 0, .int .u64 0, .int .u32 0, .int .u8 0, .int .u8 0, .int .u8 0, .int .u8 0, .nilFunc, .pointer none, .int .i32 0, .int .i32 0]) ⟨_, Tryd.underlying104, rfl⟩ (by kernel_rfl) rfl rfl rfl (by simp [Value.cells, Value.oneCell'])
theorem ok105 : TiOk Tryd.prog 105 ⟨.struct [(0, 12), (1, 12), (2, 98), (3, 99), (4, 5), (5, 5), (6, 73), (7, 100), (8, 101), (9, 102), (10, 103)], 11, 48, .agg [.int .u64 0, .int .u64 0, .int .u32 0, .int .u8 0, .int .u8 0, .int .u8 0, .int .u8 0, .nilf, .nilp, .int .i32 0, .int .i32 0]⟩ := tiOk_mk (.agg #[.int .u64 0, .int .u64 0, .int .u32 0, .int .u8 0, .int .u8 0, .int .u8 0, .int .u8 0, .nilFunc, .pointer none, .int .i32 0, .int .i32 0]) ⟨_, Tryd.underlying105, rfl⟩ (by kernel_rfl) rfl rfl rfl (by simp [Value.cells, Value.oneCell'])
theorem ok106 : TiOk Tryd.prog 106 ⟨.func, 1, 8, .nilf⟩ := tiOk_mk (.nilFunc) ⟨_, _, _, Tryd.underlying106⟩ (by kernel_rfl) rfl rfl rfl (by simp [Value.cells, Value.oneCell'])
theorem ok107 : TiOk Tryd.prog 107 ⟨.func, 1, 8, .nilf⟩ := tiOk_mk (.nilFunc) ⟨_, _, _, Tryd.underlying107⟩ (by kernel_rfl) rfl rfl rfl (by simp [Value.cells, Value.oneCell'])
theorem ok108 : TiOk Tryd.prog 108 ⟨.struct [(0, 9), (1, 73)], 2, 24, .agg [.str ⟨#[]⟩, .int .u8 0]⟩ := tiOk_mk (.agg #[.string ⟨#[]⟩, .int .u8 0]) ⟨_, Tryd.underlying108, rfl⟩ (by kernel_rfl) rfl rfl rfl (by simp [Value.cells, Value.oneCell'])
theorem ok109 : TiOk Tryd.prog 109 ⟨.struct [(0, 9), (1, 73)], 2, 24, .agg [.str ⟨#[]⟩, .int .u8 0]⟩ := tiOk_mk (.agg #[.string ⟨#[]⟩, .int .u8 0]) ⟨_, Tryd.underlying109, rfl⟩ (by kernel_rfl) rfl rfl rfl (by simp [Value.cells, Value.oneCell'])
theorem ok110 : TiOk Tryd.prog 110 ⟨.ptr 114, 1, 8, .nilp⟩ := tiOk_mk (.pointer none) Tryd.underlying110 (by kernel_rfl) rfl rfl rfl (by simp [Value.cells, Value.oneCell'])
theorem ok111 : TiOk Tryd.prog 111 ⟨.func, 1, 8, .nilf⟩ := tiOk_mk (.nilFunc) ⟨_, _, _, Tryd.underlying111⟩ (by kernel_rfl) rfl rfl rfl (by simp [Value.cells, Value.oneCell'])
theorem ok112 : TiOk Tryd.prog 112 ⟨.int .u16, 1, 2, .int .u16 0⟩ := tiOk_mk (.int .u16 0) Tryd.underlying112 (by kernel_rfl) rfl rfl rfl (by simp [Value.cells, Value.oneCell'])
theorem ok113 : TiOk Tryd.prog 113 ⟨.struct [(0, 102), (1, 112), (2, 112), (3, 98), (4, 98)], 5, 16, .agg [.int .i32 0, .int .u16 0, .int .u16 0, .int .u32 0, .int .u32 0]⟩ := tiOk_mk (.agg #[.int .i32 0, .int .u16 0, .int .u16 0, .int .u32 0, .int .u32 0]) ⟨_, Tryd.underlying113, rfl⟩ (by kernel_rfl) rfl rfl rfl (by simp [Value.cells, Value.oneCell'])
theorem ok114 : TiOk Tryd.prog 114 ⟨.struct [(0, 102), (1, 112), (2, 112), (3, 98), (4, 98)], 5, 16, .agg [.int .i32 0, .int .u16 0, .int .u16 0, .int .u32 0, .int .u32 0]⟩ := tiOk_mk (.agg #[.int .i32 0, .int .u16 0, .int .u16 0, .int .u32 0, .int .u32 0]) ⟨_, Tryd.underlying114, rfl⟩ (by kernel_rfl) rfl rfl rfl (by simp [Value.cells, Value.oneCell'])
theorem ok115 : TiOk Tryd.prog 115 ⟨.slice 118, 1, 24, .nils⟩ := tiOk_mk (.slice none 0 0) Tryd.underlying115 (by kernel_rfl) rfl rfl rfl (by simp [Value.cells, Value.oneCell'])
theorem ok116 : TiOk Tryd.prog 116 ⟨.int .i32, 1, 4, .int .i32 0⟩ := tiOk_mk (.int .i32 0) Tryd.underlying116 (by kernel_rfl) rfl rfl rfl (by simp [Value.cells, Value.oneCell'])
theorem ok117 : TiOk Tryd.prog 117 ⟨.struct [(0, 102), (1, 103), (2, 116), (3, 116)], 4, 16, .agg [.int .i32 0, .int .i32 0, .int .i32 0, .int .i32 0]⟩ := tiOk_mk (.agg #[.int .i32 0, .int .i32 0, .int .i32 0, .int .i32 0]) ⟨_, Tryd.underlying117, rfl⟩ (by kernel_rfl) rfl rfl rfl (by simp [Value.cells, Value.oneCell'])
theorem ok118 : TiOk Tryd.prog 118 ⟨.struct [(0, 102), (1, 103), (2, 116), (3, 116)], 4, 16, .agg [.int .i32 0, .int .i32 0, .int .i32 0, .int .i32 0]⟩ := tiOk_mk (.agg #[.int .i32 0, .int .i32 0, .int .i32 0, .int .i32 0]) ⟨_, Tryd.underlying118, rfl⟩ (by kernel_rfl) rfl rfl rfl (by simp [Value.cells, Value.oneCell'])
theorem ok119 : TiOk Tryd.prog 119 ⟨.ptr 25, 1, 8, .nilp⟩ := tiOk_mk (.pointer none) Tryd.underlying119 (by kernel_rfl) rfl rfl rfl (by simp [Value.cells, Value.oneCell'])
theorem tk : TyOk Tryd.prog ty := by
  intro t i h
  unfold ty at h
  split at h
  · cases h; exact ok1
  · cases h; exact ok2
  · cases h; exact ok3
  · cases h; exact ok4
  · cases h; exact ok5
  · cases h; exact ok6
  · cases h; exact ok7
  · cases h; exact ok8
  · cases h; exact ok9
  · cases h; exact ok10
  · cases h; exact ok11
  · cases h; exact ok12
  · cases h; exact ok13
  · cases h; exact ok14
  · cases h; exact ok15
  · cases h; exact ok16
  · cases h; exact ok17
  · cases h; exact ok18
  · cases h; exact ok19
  · cases h; exact ok20
  · cases h; exact ok21
  · cases h; exact ok22
  · cases h; exact ok23
  · cases h; exact ok24
  · cases h; exact ok25
  · cases h; exact ok26
  · cases h; exact ok27
  · cases h; exact ok28
  · cases h; exact ok29
  · cases h; exact ok30
  · cases h; exact ok31
  · cases h; exact ok32
  · cases h; exact ok33
  · cases h; exact ok34
  · cases h; exact ok35
  · cases h; exact ok36
  · cases h; exact ok37
  · cases h; exact ok38
  · cases h; exact ok39
  · cases h; exact ok40
  · cases h; exact ok42
  · cases h; exact ok43
  · cases h; exact ok44
  · cases h; exact ok45
  · cases h; exact ok46
  · cases h; exact ok47
  · cases h; exact ok48
  · cases h; exact ok49
  · cases h; exact ok50
  · cases h; exact ok51
  · cases h; exact ok52
  · cases h; exact ok54
  · cases h; exact ok55
  · cases h; exact ok56
  · cases h; exact ok57
  · cases h; exact ok58
  · cases h; exact ok59
  · cases h; exact ok60
  · cases h; exact ok61
  · cases h; exact ok62
  · cases h; exact ok63
  · cases h; exact ok64
  · cases h; exact ok66
  · cases h; exact ok69
  · cases h; exact ok70
  · cases h; exact ok71
  · cases h; exact ok72
  · cases h; exact ok73
  · cases h; exact ok74
  · cases h; exact ok75
  · cases h; exact ok76
  · cases h; exact ok77
  · cases h; exact ok78
  · cases h; exact ok79
  · cases h; exact ok80
  · cases h; exact ok81
  · cases h; exact ok82
  · cases h; exact ok83
  · cases h; exact ok85
  · cases h; exact ok86
  · cases h; exact ok87
  · cases h; exact ok88
  · cases h; exact ok89
  · cases h; exact ok90
  · cases h; exact ok91
  · cases h; exact ok92
  · cases h; exact ok93
  · cases h; exact ok97
  · cases h; exact ok98
  · cases h; exact ok99
  · cases h; exact ok100
  · cases h; exact ok101
  · cases h; exact ok102
  · cases h; exact ok103
  · cases h; exact ok104
  · cases h; exact ok105
  · cases h; exact ok106
  · cases h; exact ok107
  · cases h; exact ok108
  · cases h; exact ok109
  · cases h; exact ok110
  · cases h; exact ok111
  · cases h; exact ok112
  · cases h; exact ok113
  · cases h; exact ok114
  · cases h; exact ok115
  · cases h; exact ok116
  · cases h; exact ok117
  · cases h; exact ok118
  · cases h; exact ok119
  · cases h
theorem mixed : Tryd.prog.follows .mixedOrders = true := by kernel_rfl
end Go.Proofs.YtgeflfdonoicaaaDoor
namespace Go.Proofs.YtgeflfdonoicaaaDoor
open Go Go.Va
set_option linter.unusedSimpArgs false
set_option linter.unusedVariables false
inductive Err where
  | nil
  | fault (op : List (BitVec 8)) (at_ : Int) (code : Int) (under : Err)
  deriving DecidableEq
def Err.isNil : Err → Bool
  | .nil => true
  | _ => false
def eErr : Err → AV
  | .nil => .nili
  | .fault o a c u => .iface 54 (.fptr [eS o, eI a, eI c, eErr u] 0)
theorem eErr_cut (nl nt : Nat → Option Nat) : ∀ e, cutAV nl nt (eErr e) = eErr e
  | .nil => rfl
  | .fault o a c u => by simp only [eErr, cutAV, cutL, eErr_cut nl nt u, eS, eI]
theorem eErr_flat (e : Err) : flatAV (eErr e) = true := by cases e <;> rfl
theorem encErr : Enc ty 25 1 eErr := ⟨sz25, by decide, fun x => (by cases x <;> rfl), fun h => (by cases h), fun _ x => (by cases x <;> rfl), fun x => (by cases x <;> rfl), eErr_cut⟩
structure runtime_boundsError where
  x : Int
  y : Int
  signed : Bool
  code : BitVec 8
  deriving DecidableEq
def c_runtime_boundsError (x : runtime_boundsError) : List AV := [eI x.x, eI x.y, eB x.signed, (@eU .u8 8) x.code]
def e_runtime_boundsError (x : runtime_boundsError) : AV := .agg (c_runtime_boundsError x)
def z_runtime_boundsError : runtime_boundsError := ⟨(0 : Int), (0 : Int), false, 0#8⟩
structure runtime_errorAddressString where
  msg : List (BitVec 8)
  addr : BitVec 64
  deriving DecidableEq
def c_runtime_errorAddressString (x : runtime_errorAddressString) : List AV := [eS x.msg, (@eU .u64 64) x.addr]
def e_runtime_errorAddressString (x : runtime_errorAddressString) : AV := .agg (c_runtime_errorAddressString x)
def z_runtime_errorAddressString : runtime_errorAddressString := ⟨([] : List (BitVec 8)), 0#64⟩
structure api_Entry where
  Key : List (BitVec 8)
  Version : Int
  AsOf : Int
  Ends : Int
  Value : List (BitVec 8)
  deriving DecidableEq
def c_api_Entry (x : api_Entry) : List AV := [eS x.Key, eI x.Version, eI x.AsOf, eI x.Ends, (eL 1 (@eU .u8 8)) x.Value]
def e_api_Entry (x : api_Entry) : AV := .agg (c_api_Entry x)
def z_api_Entry : api_Entry := ⟨([] : List (BitVec 8)), (0 : Int), (0 : Int), (0 : Int), ([] : List (BitVec 8))⟩
theorem c_api_Entry_cut (nl nt : Nat → Option Nat) (x : api_Entry) : cutL nl nt (c_api_Entry x) = c_api_Entry x := by simp only [cutL, e_api_Entry, c_api_Entry, cutAV, (enc_s td9 sz9).cut nl nt, (enc_i64 td3 sz3).cut nl nt, (enc_i64 td3 sz3).cut nl nt, (enc_i64 td3 sz3).cut nl nt, (enc_l td28 sz28 (enc_u td5 sz5).cut).cut nl nt]
theorem enc30 : Enc ty 30 5 e_api_Entry := ⟨sz30, by decide, fun _ => rfl, fun _ _ => rfl, fun h => (by cases h), fun _ => rfl, fun nl nt x => by simp only [e_api_Entry, cutAV, c_api_Entry_cut]⟩
structure api_Event where
  Kind : Int
  Node : Int
  X : api_Entry
  Found : Bool
  deriving DecidableEq
def c_api_Event (x : api_Event) : List AV := [eI x.Kind] ++ [eI x.Node] ++ (c_api_Entry x.X) ++ [eB x.Found]
def e_api_Event (x : api_Event) : AV := .agg (c_api_Event x)
def z_api_Event : api_Event := ⟨(0 : Int), (0 : Int), z_api_Entry, false⟩
theorem c_api_Event_cut (nl nt : Nat → Option Nat) (x : api_Event) : cutL nl nt (c_api_Event x) = c_api_Event x := by simp only [cutL, e_api_Event, c_api_Event, cutAV, (enc_i64 td3 sz3).cut nl nt, (enc_i64 td3 sz3).cut nl nt, (enc_b td4 sz4).cut nl nt, c_api_Entry_cut nl nt, cutL_append]
theorem enc32 : Enc ty 32 8 e_api_Event := ⟨sz32, by decide, fun _ => rfl, fun _ _ => rfl, fun h => (by cases h), fun _ => rfl, fun nl nt x => by simp only [e_api_Event, cutAV, c_api_Event_cut]⟩
structure judge_spot where
  node : Int
  key : List (BitVec 8)
  deriving DecidableEq
def c_judge_spot (x : judge_spot) : List AV := [eI x.node, eS x.key]
def e_judge_spot (x : judge_spot) : AV := .agg (c_judge_spot x)
def z_judge_spot : judge_spot := ⟨(0 : Int), ([] : List (BitVec 8))⟩
theorem c_judge_spot_cut (nl nt : Nat → Option Nat) (x : judge_spot) : cutL nl nt (c_judge_spot x) = c_judge_spot x := by simp only [cutL, e_judge_spot, c_judge_spot, cutAV, (enc_i64 td3 sz3).cut nl nt, (enc_s td9 sz9).cut nl nt]
theorem enc64 : Enc ty 64 2 e_judge_spot := ⟨sz64, by decide, fun _ => rfl, fun _ _ => rfl, fun h => (by cases h), fun _ => rfl, fun nl nt x => by simp only [e_judge_spot, cutAV, c_judge_spot_cut]⟩
structure judge_Judge where
  n : Int
  written : List (Int × api_Event)
  done : List ((List (BitVec 8)) × Int)
  served : List (judge_spot × Int)
  open_ : List (Int × Int)
  counts : Vector Int 5
  deriving DecidableEq
def c_judge_Judge (i_written i_done i_served i_open_ : Nat) (x : judge_Judge) : List AV := [eI x.n] ++ [.mapr i_written] ++ [.mapr i_done] ++ [.mapr i_served] ++ [.mapr i_open_] ++ (cL eI x.counts.toList)
def z_judge_Judge : judge_Judge := ⟨(0 : Int), [], [], [], [], (Vector.replicate 5 (0 : Int))⟩
theorem c_judge_Judge_cut {nl nt : Nat → Option Nat} {i_written i_done i_served i_open_ j_written j_done j_served j_open_ : Nat} (h_i_written : cutAV nl nt (.mapr i_written) = .mapr j_written) (h_i_done : cutAV nl nt (.mapr i_done) = .mapr j_done) (h_i_served : cutAV nl nt (.mapr i_served) = .mapr j_served) (h_i_open_ : cutAV nl nt (.mapr i_open_) = .mapr j_open_) (x : judge_Judge) : cutL nl nt (c_judge_Judge i_written i_done i_served i_open_ x) = c_judge_Judge j_written j_done j_served j_open_ x := by simp only [c_judge_Judge, cutL, cutL_append, h_i_written, h_i_done, h_i_served, h_i_open_, (enc_i64 td3 sz3).cut nl nt, cut_cL (enc_i64 td3 sz3).cut nl nt]
theorem g_judge_Judge_n {i_written i_done i_served i_open_ : Nat} (x : judge_Judge) : acut ty 3 (c_judge_Judge i_written i_done i_served i_open_ x) 0 = some (eI x.n) := rfl
theorem s_judge_Judge_n {i_written i_done i_served i_open_ : Nat} (x : judge_Judge) (y : Int) : repl (c_judge_Judge i_written i_done i_served i_open_ x) 0 (eI y).cells = c_judge_Judge i_written i_done i_served i_open_ { x with n := y } := rfl
theorem g_judge_Judge_written {i_written i_done i_served i_open_ : Nat} (x : judge_Judge) : acut ty 46 (c_judge_Judge i_written i_done i_served i_open_ x) 1 = some (.mapr i_written) := rfl
theorem g_judge_Judge_done {i_written i_done i_served i_open_ : Nat} (x : judge_Judge) : acut ty 47 (c_judge_Judge i_written i_done i_served i_open_ x) 2 = some (.mapr i_done) := rfl
theorem g_judge_Judge_served {i_written i_done i_served i_open_ : Nat} (x : judge_Judge) : acut ty 48 (c_judge_Judge i_written i_done i_served i_open_ x) 3 = some (.mapr i_served) := rfl
theorem g_judge_Judge_open_ {i_written i_done i_served i_open_ : Nat} (x : judge_Judge) : acut ty 49 (c_judge_Judge i_written i_done i_served i_open_ x) 4 = some (.mapr i_open_) := rfl
def a_judge_Judge_counts (i_written i_done i_served i_open_ : Nat) (x : judge_Judge) : List AV := [eI x.n] ++ [.mapr i_written] ++ [.mapr i_done] ++ [.mapr i_served] ++ [.mapr i_open_]
def b_judge_Judge_counts (i_written i_done i_served i_open_ : Nat) (x : judge_Judge) : List AV := []
theorem sp_judge_Judge_counts {i_written i_done i_served i_open_ : Nat} (x : judge_Judge) : c_judge_Judge i_written i_done i_served i_open_ x = a_judge_Judge_counts i_written i_done i_served i_open_ x ++ (cL eI x.counts.toList ++ b_judge_Judge_counts i_written i_done i_served i_open_ x) := by simp only [c_judge_Judge, a_judge_Judge_counts, b_judge_Judge_counts, List.append_assoc, List.nil_append, List.append_nil, List.cons_append]
theorem al_judge_Judge_counts {i_written i_done i_served i_open_ : Nat} (x : judge_Judge) : (a_judge_Judge_counts i_written i_done i_served i_open_ x).length = 5 := by simp [a_judge_Judge_counts, cL_length (enc_i64 td3 sz3).len]
theorem cl_judge_Judge {i_written i_done i_served i_open_ : Nat} (x : judge_Judge) : (c_judge_Judge i_written i_done i_served i_open_ x).length = 10 := by simp [c_judge_Judge, cL_length (enc_i64 td3 sz3).len]
structure trouble_fault where
  op : List (BitVec 8)
  at_ : Int
  code : Int
  under : Err
  deriving DecidableEq
def c_trouble_fault (x : trouble_fault) : List AV := [eS x.op, eI x.at_, eI x.code, eErr x.under]
def e_trouble_fault (x : trouble_fault) : AV := .agg (c_trouble_fault x)
def z_trouble_fault : trouble_fault := ⟨([] : List (BitVec 8)), (0 : Int), (0 : Int), Err.nil⟩
theorem c_trouble_fault_cut (nl nt : Nat → Option Nat) (x : trouble_fault) : cutL nl nt (c_trouble_fault x) = c_trouble_fault x := by simp only [cutL, e_trouble_fault, c_trouble_fault, cutAV, (enc_s td9 sz9).cut nl nt, (enc_i64 td3 sz3).cut nl nt, (enc_i64 td40 sz40).cut nl nt, encErr.cut nl nt]
theorem enc56 : Enc ty 56 4 e_trouble_fault := ⟨sz56, by decide, fun _ => rfl, fun _ _ => rfl, fun h => (by cases h), fun x => (by simp only [e_trouble_fault, c_trouble_fault, AV.cells, List.all_cons, List.all_nil, eErr_flat]; rfl), fun nl nt x => by simp only [e_trouble_fault, cutAV, c_trouble_fault_cut]⟩
structure api_Step where
  Op : List (BitVec 8)
  At : Int
  Code : Int
  deriving DecidableEq
def c_api_Step (x : api_Step) : List AV := [eS x.Op, eI x.At, eI x.Code]
def e_api_Step (x : api_Step) : AV := .agg (c_api_Step x)
def z_api_Step : api_Step := ⟨([] : List (BitVec 8)), (0 : Int), (0 : Int)⟩
theorem c_api_Step_cut (nl nt : Nat → Option Nat) (x : api_Step) : cutL nl nt (c_api_Step x) = c_api_Step x := by simp only [cutL, e_api_Step, c_api_Step, cutAV, (enc_s td9 sz9).cut nl nt, (enc_i64 td3 sz3).cut nl nt, (enc_i64 td40 sz40).cut nl nt]
theorem enc60 : Enc ty 60 3 e_api_Step := ⟨sz60, by decide, fun _ => rfl, fun _ _ => rfl, fun h => (by cases h), fun _ => rfl, fun nl nt x => by simp only [e_api_Step, cutAV, c_api_Step_cut]⟩
structure reflectlite_ValueError where
  Method : List (BitVec 8)
  Kind : BitVec 8
  deriving DecidableEq
def c_reflectlite_ValueError (x : reflectlite_ValueError) : List AV := [eS x.Method, (@eU .u8 8) x.Kind]
def e_reflectlite_ValueError (x : reflectlite_ValueError) : AV := .agg (c_reflectlite_ValueError x)
def z_reflectlite_ValueError : reflectlite_ValueError := ⟨([] : List (BitVec 8)), 0#8⟩
structure abi_Method where
  Name : Int
  Mtyp : Int
  Ifn : Int
  Tfn : Int
  deriving DecidableEq
def c_abi_Method (x : abi_Method) : List AV := [(eK .i32) x.Name, (eK .i32) x.Mtyp, (eK .i32) x.Ifn, (eK .i32) x.Tfn]
def e_abi_Method (x : abi_Method) : AV := .agg (c_abi_Method x)
def z_abi_Method : abi_Method := ⟨(0 : Int), (0 : Int), (0 : Int), (0 : Int)⟩
theorem ek46 : EKey Tryd.prog 3 eI := ekey_i Tryd.underlying3
theorem mz46 : ZeroV Tryd.prog 32 (e_api_Event z_api_Event) := .mk (a := .agg [.int .i64 0, .int .i64 0, .str ⟨#[]⟩, .int .i64 0, .int .i64 0, .int .i64 0, .nils, .bool false]) (.agg #[.int .i64 0, .int .i64 0, .string ⟨#[]⟩, .int .i64 0, .int .i64 0, .int .i64 0, .slice none 0 0, .bool false]) (by kernel_rfl) (zero_agg rfl) (wk_agg (bs := c_api_Event z_api_Event) (.cons (.of_eq rfl) (.cons (.of_eq rfl) (.cons (.of_eq rfl) (.cons (.of_eq rfl) (.cons (.of_eq rfl) (.cons (.of_eq rfl) (.cons (by exact wk_nils _) (.cons (.of_eq rfl) .nil)))))))))
theorem ek47 : EKey Tryd.prog 9 eS := ekey_s Tryd.underlying9
theorem mz47 : ZeroV Tryd.prog 3 (eI (0 : Int)) := .mk (Value.int .i64 0) (by kernel_rfl) (fun G => .int _ _) (Wk.refl _)
theorem ke48 (x y : judge_spot) : eqCells Tryd.prog (Tryd.prog.fieldsOf 64).toList (c_judge_spot x) (c_judge_spot y) = some (decide (x = y)) := by
  obtain ⟨x0, x1⟩ := x
  obtain ⟨y0, y1⟩ := y
  simp only [Program.fieldsOf, Tryd.underlying64]
  simp [eqCells, c_judge_spot, eU, eI, eB, eS, eK, mkB_inj, Tryd.underlying3, Tryd.underlying9]
  repeat' split
  all_goals simp_all [← BitVec.toNat_inj, Int.natCast_inj]
theorem ek48 : EKey Tryd.prog 64 e_judge_spot := ekey_st2 (c := c_judge_spot) (by simp only [Program.fieldsOf, Tryd.underlying64]) (by kernel_rfl) ke48 (fun x => rfl) (fun x em w => check2 (a0 := eI x.node) (a1 := eS x.key) Tryd.underlying64 Tryd.underlying3 Tryd.underlying9 rfl rfl rfl trivial em w)
theorem mz48 : ZeroV Tryd.prog 3 (eI (0 : Int)) := .mk (Value.int .i64 0) (by kernel_rfl) (fun G => .int _ _) (Wk.refl _)
theorem ek49 : EKey Tryd.prog 3 eI := ekey_i Tryd.underlying3
theorem mz49 : ZeroV Tryd.prog 3 (eI (0 : Int)) := .mk (Value.int .i64 0) (by kernel_rfl) (fun G => .int _ _) (Wk.refl _)
end Go.Proofs.YtgeflfdonoicaaaDoor
namespace Go.Proofs.YtgeflfdonoicaaaDoor
open Go Go.Va
set_option linter.unusedVariables false
set_option linter.unusedSimpArgs false
set_option maxRecDepth 20000
noncomputable def L06_Light_b0 (x0 : List api_Entry) (c6 : Int) (c7 : Int) : Option ((Int × Int) ⊕ (Unit ⊕ (Int))) :=
 lt (((x0).length : Int)) fun v18 =>
 lt (decide (c7 < v18)) fun v20 =>
 if v20 = true then
  (
   (ix x0 c7).bind fun v27 =>
   lt (((v27.Key).length : Int)) fun v29 =>
   lt (decide (v29 > (200 : Int))) fun v31 =>
   if v31 = true then
    some true
   else
    (ix x0 c7).bind fun v34 =>
    lt (((v34.Value).length : Int)) fun v36 =>
    lt (decide (v36 > (5000 : Int))) fun v38 =>
    some v38
  : Option (Bool)).bind fun s22 =>
   if s22 = true then
    some (.inr (.inr (1 : Int)))
   else
    (ix x0 c7).bind fun v43 =>
    lt (((v43.Value).length : Int)) fun v45 =>
    lt (w64 (c6 + v45)) fun v47 =>
    lt (decide (v47 > (12000 : Int))) fun v49 =>
    if v49 = true then
     some (.inr (.inr (1 : Int)))
    else
     lt (w64 (c7 + (1 : Int))) fun v53 =>
     some (.inl (v47, v53))
 else
  some (.inr (.inl ()))
noncomputable def L06_Light_l0 (x0 : List api_Entry) (s : Int × Int) : Option (Unit ⊕ (Int)) := loopO (fun s => L06_Light_b0 x0 s.1 s.2) s
noncomputable def L06_Light (x0 : List api_Entry) : Option (Int) :=
 lt (((x0).length : Int)) fun v2 =>
 lt (decide (v2 > (40 : Int))) fun v4 =>
 if v4 = true then
  some (1 : Int)
 else
  (L06_Light_l0 x0 ((0 : Int), (0 : Int))).bind fun o8 =>
   Sum.elim (fun s15 : Unit =>
    some (0 : Int)
    ) (fun y => some y) o8
noncomputable def L28_Light_b0 (x0 : List api_Event) (c6 : List api_Entry) (c7 : Int) : Option (((List api_Entry) × Int) ⊕ ((List api_Entry))) :=
 lt (((x0).length : Int)) fun v19 =>
 lt (decide (c7 < v19)) fun v21 =>
 if v21 = true then
  (ix x0 c7).bind fun v24 =>
  lt (([v24.X] : List api_Entry)) fun v26 =>
  (app 64 c6 v26).bind fun v28 =>
  lt (w64 (c7 + (1 : Int))) fun v32 =>
  some (.inl (v28, v32))
 else
  some (.inr c6)
noncomputable def L28_Light_l0 (x0 : List api_Event) (s : (List api_Entry) × Int) : Option ((List api_Entry)) := loopO (fun s => L28_Light_b0 x0 s.1 s.2) s
noncomputable def L28_Light (x0 : List api_Event) : Option (Int) :=
 lt (((x0).length : Int)) fun v2 =>
 lt (decide (v2 > (40 : Int))) fun v4 =>
 if v4 = true then
  some (1 : Int)
 else
  (L28_Light_l0 x0 ([], (0 : Int))).bind fun s16 =>
   (L06_Light s16).bind fun v35 =>
   some v35
noncomputable def trouble_New (x0 : List (BitVec 8)) (x1 : Int) (x2 : Int) : Option (Err) :=
 lt (x2 == (0 : Int)) fun v2 =>
 if v2 = true then
  some Err.nil
 else
  lt ((⟨x0, x1, x2, Err.nil⟩ : trouble_fault)) fun v5 =>
  some (Err.fault v5.op v5.at_ v5.code v5.under)
noncomputable def judge_New : Option (judge_Judge) :=
 some ({ (⟨(0 : Int), ([] : List (Int × api_Event)), ([] : List ((List (BitVec 8)) × Int)), ([] : List (judge_spot × Int)), ([] : List (Int × Int)), (Vector.replicate 5 (0 : Int))⟩ : judge_Judge) with written := ([] : List (Int × api_Event)), done := ([] : List ((List (BitVec 8)) × Int)), served := ([] : List (judge_spot × Int)), open_ := ([] : List (Int × Int)) } : judge_Judge)
noncomputable def judge_Judge_hit (x0 : judge_Judge) (x1 : api_Event) : Option (Int × judge_Judge) :=
 (some ((mget x0.written x1.X.Version).getD z_api_Event, (mget x0.written x1.X.Version).isSome)).bind fun v2 =>
 lt ((v2.1 : api_Event)) fun c6 =>
 lt ((⟨x1.Node, x1.X.Key⟩ : judge_spot)) fun v9 =>
 lt ((v9 : judge_spot)) fun c13 =>
 (some ((mget x0.served c13).getD (0 : Int))).bind fun v16 =>
 lt ((if x1.X.Version > v16 then x1.X.Version else v16)) fun v18 =>
 lt (mset x0.served c13 v18) fun c20 =>
 (
  lt (!v2.2) fun v27 =>
  if v27 = true then
   some true
  else
   lt (!c6.Found) fun v30 =>
   if v30 = true then
    some true
   else
    lt (c6.X.Key != x1.X.Key) fun v33 =>
    if v33 = true then
     some true
    else
     lt (c6.X.Value != x1.X.Value) fun v36 =>
     some v36
 : Option (Bool)).bind fun s22 =>
  if s22 = true then
   some ((1 : Int), ({ x0 with served := c20 } : judge_Judge))
  else
   (some ((mget x0.done x1.X.Key).getD (0 : Int))).bind fun v40 =>
   lt (decide (x1.X.Version < v40)) fun v42 =>
   if v42 = true then
    some ((2 : Int), ({ x0 with served := c20 } : judge_Judge))
   else
    lt (decide (x1.X.Version < v16)) fun v45 =>
    if v45 = true then
     some ((3 : Int), ({ x0 with served := c20 } : judge_Judge))
    else
     some ((0 : Int), ({ x0 with served := c20 } : judge_Judge))
noncomputable def judge_Judge_Tell (x0 : judge_Judge) (x1 : api_Event) : Option (Int × judge_Judge) :=
 lt (w64 (x0.n + (1 : Int))) fun v2 =>
 lt (({ x0 with n := v2 } : judge_Judge)) fun c4 =>
 (
  lt (decide (x1.Kind ≥ (1 : Int))) fun v11 =>
  if v11 = true then
   lt (decide (x1.Kind ≤ (4 : Int))) fun v14 =>
   some v14
  else
   some false
 : Option (Bool)).bind fun s6 =>
  (
   if s6 = true then
    (chk 5 x1.Kind).bind fun v22 =>
    (ixA 5 (c4.counts).toList x1.Kind).bind fun v24 =>
    lt (w64 (v24 + (1 : Int))) fun v26 =>
    (chk 5 x1.Kind).bind fun v28 =>
    (updV (c4.counts) x1.Kind (fun _ => v26)).bind fun v30 =>
    lt (({ c4 with counts := v30 } : judge_Judge)) fun c32 =>
    some c32
   else
    some c4
  : Option (judge_Judge)).bind fun s16 =>
   lt (x1.Kind == (1 : Int)) fun v37 =>
   if v37 = true then
    (judge_Judge_hit ({ s16 with written := x0.written, done := x0.done, served := x0.served, open_ := x0.open_ } : judge_Judge) x1).bind fun v40 =>
    some (v40.1, v40.2)
   else
    lt (x1.Kind == (3 : Int)) fun v42 =>
    if v42 = true then
     lt (mset x0.written x1.X.Version x1) fun c45 =>
     lt (mset x0.open_ x1.X.Version s16.n) fun c48 =>
     some ((0 : Int), ({ s16 with written := c45, done := x0.done, served := x0.served, open_ := c48 } : judge_Judge))
    else
     lt (x1.Kind == (4 : Int)) fun v51 =>
     if v51 = true then
      (some ((mget x0.written x1.X.Version).getD z_api_Event, (mget x0.written x1.X.Version).isSome)).bind fun v54 =>
      lt ((v54.1 : api_Event)) fun c58 =>
      (some ((mget x0.open_ x1.X.Version).getD (0 : Int), (mget x0.open_ x1.X.Version).isSome)).bind fun v61 =>
      (
       lt (!v54.2) fun v67 =>
       if v67 = true then
        some true
       else
        lt (!v61.2) fun v70 =>
        some v70
      : Option (Bool)).bind fun s62 =>
       if s62 = true then
        some ((4 : Int), ({ s16 with written := x0.written, done := x0.done, served := x0.served, open_ := x0.open_ } : judge_Judge))
       else
        lt (mdel x0.open_ x1.X.Version) fun c74 =>
        (some ((mget x0.done c58.X.Key).getD (0 : Int))).bind fun v77 =>
        lt ((if x1.X.Version > v77 then x1.X.Version else v77)) fun v79 =>
        lt (mset x0.done c58.X.Key v79) fun c81 =>
        some ((0 : Int), ({ s16 with written := x0.written, done := c81, served := x0.served, open_ := c74 } : judge_Judge))
     else
      some ((0 : Int), ({ s16 with written := x0.written, done := x0.done, served := x0.served, open_ := x0.open_ } : judge_Judge))
noncomputable def judge_All_b0 (x0 : List api_Event) (v6 : Int) (c7 : Int) (c8 : judge_Judge) (c9 : List (Int × api_Event)) (c10 : List ((List (BitVec 8)) × Int)) (c11 : List (judge_spot × Int)) (c12 : List (Int × Int)) : Option ((Int × judge_Judge × (List (Int × api_Event)) × (List ((List (BitVec 8)) × Int)) × (List (judge_spot × Int)) × (List (Int × Int))) ⊕ ((judge_Judge × (List (Int × api_Event)) × (List ((List (BitVec 8)) × Int)) × (List (judge_spot × Int)) × (List (Int × Int))) ⊕ (Err))) :=
 lt (decide (c7 < v6)) fun v23 =>
 if v23 = true then
  (ix x0 c7).bind fun v26 =>
  lt ((v26 : api_Event)) fun c30 =>
  (judge_Judge_Tell ({ c8 with written := c9, done := c10, served := c11, open_ := c12 } : judge_Judge) c30).bind fun v33 =>
  lt (v33.1 == (1 : Int)) fun v35 =>
  if v35 = true then
   (trouble_New ([102#8, 111#8, 114#8, 103#8, 101#8, 100#8] : List (BitVec 8)) c7 (5 : Int)).bind fun v38 =>
   some (.inr (.inr v38))
  else
   lt (v33.1 == (2 : Int)) fun v41 =>
   if v41 = true then
    (trouble_New ([115#8, 116#8, 97#8, 108#8, 101#8] : List (BitVec 8)) c7 (10 : Int)).bind fun v44 =>
    some (.inr (.inr v44))
   else
    lt (v33.1 == (3 : Int)) fun v47 =>
    if v47 = true then
     (trouble_New ([102#8, 97#8, 108#8, 108#8, 115#8] : List (BitVec 8)) c7 (2 : Int)).bind fun v50 =>
     some (.inr (.inr v50))
    else
     lt (v33.1 == (4 : Int)) fun v53 =>
     if v53 = true then
      (trouble_New ([108#8, 111#8, 111#8, 115#8, 101#8] : List (BitVec 8)) c7 (9 : Int)).bind fun v56 =>
      some (.inr (.inr v56))
     else
      lt (w64 (c7 + (1 : Int))) fun v59 =>
      some (.inl (v59, v33.2, v33.2.written, v33.2.done, v33.2.served, v33.2.open_))
 else
  some (.inr (.inl (c8, c9, c10, c11, c12)))
noncomputable def judge_All_l0 (x0 : List api_Event) (v6 : Int) (s : Int × judge_Judge × (List (Int × api_Event)) × (List ((List (BitVec 8)) × Int)) × (List (judge_spot × Int)) × (List (Int × Int))) : Option ((judge_Judge × (List (Int × api_Event)) × (List ((List (BitVec 8)) × Int)) × (List (judge_spot × Int)) × (List (Int × Int))) ⊕ (Err)) := loopO (fun s => judge_All_b0 x0 v6 s.1 s.2.1 s.2.2.1 s.2.2.2.1 s.2.2.2.2.1 s.2.2.2.2.2) s
noncomputable def judge_All (x0 : List api_Event) : Option (Err) :=
 (judge_New).bind fun v2 =>
 lt (((x0).length : Int)) fun v6 =>
 (judge_All_l0 x0 v6 ((0 : Int), v2, v2.written, v2.done, v2.served, v2.open_)).bind fun o13 =>
  Sum.elim (fun s20 : judge_Judge × (List (Int × api_Event)) × (List ((List (BitVec 8)) × Int)) × (List (judge_spot × Int)) × (List (Int × Int)) =>
   some Err.nil
   ) (fun y => some y) o13
end Go.Proofs.YtgeflfdonoicaaaDoor
namespace Go.Va
open Go
set_option linter.unusedVariables false
set_option linter.unusedSimpArgs false

theorem loopO_up {S X : Type} {body : S → Option (S ⊕ X)} (g : Nat → S) (n : Nat) {x : X} (h : ∀ i, i < n → body (g i) = some (.inl (g (i + 1)))) (hx : body (g n) = some (.inr x)) : loopO body (g 0) = some x := by
  have key : ∀ k, k ≤ n → loopO body (g (n - k)) = some x := by
    intro k
    induction k with
    | zero => intro _; exact loopO_out hx
    | succ k ih =>
      intro hk
      rw [loopO_in (h (n - (k + 1)) (by omega)), show n - (k + 1) + 1 = n - k by omega]
      exact ih (by omega)
  have := key n (Nat.le_refl _)
  rwa [Nat.sub_self] at this
def nx {S X : Type} (o : Option X) (s : S) : S ⊕ X := match o with | none => .inl s | some y => .inr y
theorem loopO_inv {S X : Type} {body : S → Option (S ⊕ X)} (I : S → Prop) (m : S → Nat) (Q : X → Prop) (h : ∀ s, I s → (∃ s', body s = some (.inl s') ∧ I s' ∧ m s' < m s) ∨ ∃ x, body s = some (.inr x) ∧ Q x) {s : S} (h0 : I s) : ∃ x, loopO body s = some x ∧ Q x := by
  generalize hk : m s = k
  induction k using Nat.strongRecOn generalizing s with
  | _ k ih =>
    rcases h s h0 with ⟨s', h1, h2, h3⟩ | ⟨x, h1, h2⟩
    · obtain ⟨x, k1, k2⟩ := ih (m s') (hk ▸ h3) h2 rfl
      exact ⟨x, by rw [loopO_in h1]; exact k1, k2⟩
    · exact ⟨x, loopO_out h1, h2⟩
theorem ix_nat {α : Type} {l : List α} {i : Nat} (h : i < l.length) : ix l (i : Int) = some l[i] := by
  unfold ix
  rw [if_pos (by omega)]
  simp [h]
theorem ixA_nat {α : Type} {l : List α} {n i : Nat} (hn : i < n) (h : i < l.length) : ixA n l (i : Int) = some l[i] := by
  unfold ixA
  rw [if_pos ⟨by omega, by omega⟩]
  simp [h]
theorem w64_nat {i : Nat} (h : i < 9223372036854775807) : w64 ((i : Int) + 1) = ((i + 1 : Nat) : Int) := by
  rw [w64_eq (by omega) (by omega)]; omega
theorem app_eq {α : Type} {b : Nat} {l m : List α} (h : (l.length + m.length) * b ≤ 140737488355328) : app b l m = some (l ++ m) := by simp [app, h]
end Go.Va
namespace Go.Proofs.YtgeflfdonoicaaaDoor
open Go Go.Va
set_option linter.unusedVariables false
set_option linter.unusedSimpArgs false
set_option maxRecDepth 20000
def trouble_Chain_b0 (s : Err × List api_Step) : Option ((Err × List api_Step) ⊕ List api_Step) := match s.1 with
 | .nil => some (.inr s.2)
 | .fault o a c u => (app 32 s.2 [⟨o, a, c⟩]).bind fun v => some (.inl (u, v))
noncomputable def trouble_Chain (x : Err) : Option (List api_Step) := loopO trouble_Chain_b0 (x, [])
noncomputable def trouble_Where (x0 : Err) : Option (Int × Bool) :=
 (trouble_Chain x0).bind fun v2 =>
 lt (((v2).length : Int)) fun v4 =>
 lt (v4 == (0 : Int)) fun v6 =>
 if v6 = true then
  some ((0 : Int), false)
 else
  lt (((v2).length : Int)) fun v9 =>
  lt (w64 (v9 - (1 : Int))) fun v11 =>
  (ix v2 v11).bind fun v13 =>
  some (v13.At, true)
def codeOf : Err → Int
 | .nil => 0
 | .fault o a c u => if c = 0 then codeOf u else c
def trouble_Of_b0 : Err → Option (Err ⊕ (Unit ⊕ Int))
 | .nil => some (.inr (.inl ()))
 | .fault o a c u => if (c != 0) = true then some (.inr (.inr c)) else some (.inl u)
def trouble_Of (x : Err) : Option Int := some (codeOf x)
theorem trouble_Of_l0 : ∀ x : Err, loopO trouble_Of_b0 x = some (if codeOf x = 0 then .inl () else .inr (codeOf x))
 | .nil => loopO_out rfl
 | .fault o a c u => by
  by_cases hc : c = 0
  · rw [loopO_in (s' := u) (by simp [trouble_Of_b0, hc]), trouble_Of_l0 u]; simp [codeOf, hc]
  · rw [loopO_out (x := .inr c) (by simp [trouble_Of_b0, hc])]; simp [codeOf, hc]
noncomputable def judge_Judge_Count (x0 : judge_Judge) (x1 : Int) : Option (Int) :=
 (
  lt (decide (x1 < (1 : Int))) fun v6 =>
  if v6 = true then
   some true
  else
   lt (decide (x1 > (4 : Int))) fun v9 =>
   some v9
 : Option (Bool)).bind fun s1 =>
  if s1 = true then
   some (0 : Int)
  else
   (chk 5 x1).bind fun v13 =>
   (ixA 5 (x0.counts).toList x1).bind fun v15 =>
   some v15
noncomputable def judge_Judge_Open (x0 : judge_Judge) : Option (Int) :=
 some ((x0.open_).length : Int)
noncomputable def judge_Judge_Told (x0 : judge_Judge) : Option (Int) :=
 some x0.n
noncomputable def L28_works : Option (Bool) :=
 lt ((⟨([107#8] : List (BitVec 8)), (1 : Int), (0 : Int), (0 : Int), ([118#8] : List (BitVec 8))⟩ : api_Entry)) fun v2 =>
 lt ((⟨(3 : Int), (0 : Int), v2, true⟩ : api_Event)) fun v4 =>
 lt ((v4 : api_Event)) fun c8 =>
 lt ((⟨([107#8] : List (BitVec 8)), (1 : Int), (4 : Int), (0 : Int), ([118#8] : List (BitVec 8))⟩ : api_Entry)) fun v11 =>
 lt ((⟨(1 : Int), (2 : Int), v11, false⟩ : api_Event)) fun v13 =>
 lt ((v13 : api_Event)) fun c17 =>
 lt ((⟨(4 : Int), (0 : Int), (⟨([] : List (BitVec 8)), (2 : Int), (0 : Int), (0 : Int), ([] : List (BitVec 8))⟩ : api_Entry), false⟩ : api_Event)) fun v20 =>
 lt ((v20 : api_Event)) fun c24 =>
 lt ((⟨(3 : Int), (0 : Int), (⟨([107#8] : List (BitVec 8)), (2 : Int), (0 : Int), (0 : Int), ([] : List (BitVec 8))⟩ : api_Entry), false⟩ : api_Event)) fun v27 =>
 lt ((v27 : api_Event)) fun c31 =>
 lt (([c8, c17, c31, c17, c24, c17] : List api_Event)) fun v34 =>
 (judge_All v34).bind fun v36 =>
 (trouble_Where v36).bind fun v38 =>
 (judge_New).bind fun v40 =>
 (judge_Judge_Tell v40 c17).bind fun v44 =>
 (judge_Judge_Tell v44.2 c8).bind fun v46 =>
 if v38.2 = true then
  lt (v38.1 == (5 : Int)) fun v49 =>
  if v49 = true then
   lt (([c17] : List api_Event)) fun v52 =>
   (judge_All v52).bind fun v54 =>
   (trouble_Of v54).bind fun v56 =>
   lt (v56 == (5 : Int)) fun v58 =>
   if v58 = true then
    lt (([c24] : List api_Event)) fun v61 =>
    (judge_All v61).bind fun v63 =>
    (trouble_Of v63).bind fun v65 =>
    lt (v65 == (9 : Int)) fun v67 =>
    if v67 = true then
     lt (([c8, c17] : List api_Event)) fun v70 =>
     (judge_All v70).bind fun v72 =>
     lt (Err.isNil v72) fun v74 =>
     if v74 = true then
      lt (v44.1 == (1 : Int)) fun v77 =>
      if v77 = true then
       lt (v46.1 == (0 : Int)) fun v80 =>
       if v80 = true then
        (judge_Judge_Count v46.2 (1 : Int)).bind fun v83 =>
        lt (v83 == (1 : Int)) fun v85 =>
        if v85 = true then
         (judge_Judge_Open v46.2).bind fun v88 =>
         lt (v88 == (1 : Int)) fun v90 =>
         if v90 = true then
          (judge_Judge_Told v46.2).bind fun v93 =>
          lt (v93 == (2 : Int)) fun v95 =>
          some v95
         else
          some false
        else
         some false
       else
        some false
      else
       some false
     else
      some false
    else
     some false
   else
    some false
  else
   some false
 else
  some false
noncomputable def L28_JudgeFine_b1 (x0 : List api_Event) (c18 : Int) (c40 : Bool) (c41 : Int) : Option ((Bool × Int) ⊕ (Bool ⊕ ((Int) ⊕ (Unit ⊕ (Bool))))) :=
 lt (decide (c41 < c18)) fun v52 =>
 if v52 = true then
  (
   if c40 = true then
    some true
   else
    (ix x0 c41).bind fun v60 =>
    lt (v60.Kind == (3 : Int)) fun v62 =>
    if v62 = true then
     (ix x0 c41).bind fun v65 =>
     if v65.Found = true then
      (ix x0 c41).bind fun v68 =>
      (ix x0 c18).bind fun v70 =>
      lt (v68.X.Key == v70.X.Key) fun v72 =>
      if v72 = true then
       (ix x0 c41).bind fun v75 =>
       (ix x0 c18).bind fun v77 =>
       lt (v75.X.Version == v77.X.Version) fun v79 =>
       if v79 = true then
        (ix x0 c41).bind fun v82 =>
        (ix x0 c18).bind fun v84 =>
        lt (v82.X.Value == v84.X.Value) fun v86 =>
        some v86
       else
        some false
      else
       some false
     else
      some false
    else
     some false
  : Option (Bool)).bind fun s54 =>
   (
    (ix x0 c41).bind fun v93 =>
    lt (v93.Kind == (1 : Int)) fun v95 =>
    if v95 = true then
     (ix x0 c41).bind fun v98 =>
     (ix x0 c18).bind fun v100 =>
     lt (v98.Node == v100.Node) fun v102 =>
     if v102 = true then
      (ix x0 c41).bind fun v105 =>
      (ix x0 c18).bind fun v107 =>
      lt (v105.X.Key == v107.X.Key) fun v109 =>
      if v109 = true then
       (ix x0 c41).bind fun v112 =>
       (ix x0 c18).bind fun v114 =>
       lt (decide (v112.X.Version > v114.X.Version)) fun v116 =>
       some v116
      else
       some false
     else
      some false
    else
     some false
   : Option (Bool)).bind fun s88 =>
    if s88 = true then
     some (.inr (.inr (.inr (.inr false))))
    else
     lt (w64 (c41 + (1 : Int))) fun v122 =>
     some (.inl (s54, v122))
 else
  some (.inr (.inl c40))
noncomputable def L28_JudgeFine_l1 (x0 : List api_Event) (c18 : Int) (s : Bool × Int) : Option (Bool ⊕ ((Int) ⊕ (Unit ⊕ (Bool)))) := loopO (fun s => L28_JudgeFine_b1 x0 c18 s.1 s.2) s
noncomputable def L28_JudgeFine_b0 (x0 : List api_Event) (c18 : Int) : Option ((Int) ⊕ (Unit ⊕ (Bool))) :=
 lt (((x0).length : Int)) fun v29 =>
 lt (decide (c18 < v29)) fun v31 =>
 if v31 = true then
  (ix x0 c18).bind fun v34 =>
  lt (v34.Kind != (1 : Int)) fun v36 =>
  if v36 = true then
   lt (w64 (c18 + (1 : Int))) fun v39 =>
   some (.inl v39)
  else
   (L28_JudgeFine_l1 x0 c18 (false, (0 : Int))).bind fun o42 =>
    Sum.elim (fun s49 : Bool =>
     lt (!s49) fun v125 =>
     if v125 = true then
      some (.inr (.inr false))
     else
      lt (w64 (c18 + (1 : Int))) fun v129 =>
      some (.inl v129)
     ) (fun y => some y) o42
 else
  some (.inr (.inl ()))
noncomputable def L28_JudgeFine_l0 (x0 : List api_Event) (s : Int) : Option (Unit ⊕ (Bool)) := loopO (fun s => L28_JudgeFine_b0 x0 s) s
noncomputable def L28_JudgeFine (x0 : List api_Event) : Option (Bool) :=
 (
  (L28_Light x0).bind fun v6 =>
  lt (decide (v6 > (0 : Int))) fun v8 =>
  if v8 = true then
   some true
  else
   (judge_All x0).bind fun v11 =>
   lt (!Err.isNil v11) fun v13 =>
   some v13
 : Option (Bool)).bind fun s1 =>
  if s1 = true then
   (L28_works).bind fun v17 =>
   some v17
  else
   (L28_JudgeFine_l0 x0 (0 : Int)).bind fun o19 =>
    Sum.elim (fun s26 : Unit =>
     (L28_works).bind fun v132 =>
     some v132
     ) (fun y => some y) o19
end Go.Proofs.YtgeflfdonoicaaaDoor
namespace Go.Proofs.YtgeflfdonoicaaaDoor
open Go.RowKit Go.Extern.Stop Go.Stop Go.Extern
theorem Tryd.valueOf27 (t : Addr) (w : World) : (ReflectliteValue.unpack (.iface 62 (.pointer (some t)))).run Tryd.prog w
    = .ok (.agg #[.pointer (some ⟨1, 62, none⟩), .pointer (some ⟨w.heap.size, 0, none⟩), .int .u64 150]) (w.alloc (.cells #[.pointer (some t)] 62)) := by kernel_rfl
theorem Tryd.type27 (a : Addr) (w : World) : (ReflectliteValue.methodAny (ReflectliteValue.valueError "reflectlite.Value.Type" 0) (fun t _ _ _ => ReflectliteType.toType t) #[.agg #[.pointer (some ⟨1, 62, none⟩), .pointer (some a), .int .u64 150]]).run Tryd.prog w
    = .ok (.iface 78 (.agg #[.pointer (some ⟨1, 62, none⟩)])) w := by kernel_rfl
theorem Tryd.methodKind (h : Value) (w : World) : (Go.method 220 78 (.agg #[h]) "Kind").run Tryd.prog w = .ok (40, h) w := by kernel_rfl
theorem Tryd.kind27 (w : World) : ((ReflectliteType.abiMethod fun t => (fun a : Nat => Value.int IntKind.u8 (a : Int)) <$> Rtype.kind t) #[.pointer (some ⟨1, 62, none⟩)]).run Tryd.prog w = .ok (.int .u8 22) w := by kernel_rfl
theorem Tryd.kind25 (w : World) : ((ReflectliteType.abiMethod fun t => (fun a : Nat => Value.int IntKind.u8 (a : Int)) <$> Rtype.kind t) #[.pointer (some ⟨1, 54, none⟩)]).run Tryd.prog w = .ok (.int .u8 22) w := by kernel_rfl

theorem rlm (z : Sem Value) (f : TypeId → Addr → Nat → Nat → Sem Value) (v : Value) :
    ReflectliteValue.method z f #[v] = (do match ← ReflectliteValue.parts v with | none => z | some (t, a, fl) => f t a fl (fl % 32)) := rfl
theorem Tryd.parts27 (a : Addr) (w : World) : (ReflectliteValue.parts (.agg #[.pointer (some ⟨1, 62, none⟩), .pointer (some a), .int .u64 150])).run Tryd.prog w = .ok (some (62, a, 150)) w := by kernel_rfl
theorem Tryd.isNil27 (a p : Addr) (W : World) (ha : W.cell? a = some (.pointer (some p))) :
    (ReflectliteValue.method (ReflectliteValue.valueError "reflectlite.Value.IsNil" 0) ReflectliteValue.isNil #[.agg #[.pointer (some ⟨1, 62, none⟩), .pointer (some a), .int .u64 150]]).run Tryd.prog W = .ok (.bool false) W := by
  rw [rlm]
  simp only [Sem.run_bind, Tryd.parts27, Result.andThen]
  simp [ReflectliteValue.isNil, loadVar, isAgg, underlying, Tryd.underlying62, ha, Result.andThen]

theorem Tryd.methodElem (h : Value) (w : World) : (Go.method 220 78 (.agg #[h]) "Elem").run Tryd.prog w = .ok (51, .agg #[h]) w := by kernel_rfl
theorem Tryd.methodImplements (h : Value) (w : World) : (Go.method 220 78 (.agg #[h]) "Implements").run Tryd.prog w = .ok (52, .agg #[h]) w := by kernel_rfl
theorem Tryd.methodAssignableTo (h : Value) (w : World) : (Go.method 220 78 (.agg #[h]) "AssignableTo").run Tryd.prog w = .ok (49, .agg #[h]) w := by kernel_rfl
theorem Tryd.elem27 (w : World) : (ReflectliteType.method ReflectliteType.elem #[.agg #[.pointer (some ⟨1, 62, none⟩)]]).run Tryd.prog w = .ok (.iface 78 (.agg #[.pointer (some ⟨1, 54, none⟩)])) w := by kernel_rfl
theorem Tryd.implements25 (w : World) : (ReflectliteType.relation "Implements" ReflectliteType.implements_ #[.agg #[.pointer (some ⟨1, 54, none⟩)], .iface 78 (.agg #[.pointer (some ⟨1, 25, none⟩)])]).run Tryd.prog w = .ok (.bool true) w := by kernel_rfl
theorem Tryd.typeOf25 (v : Value) (w : World) : (ReflectliteType.typeOf #[.iface 54 v]).run Tryd.prog w = .ok (.iface 78 (.agg #[.pointer (some ⟨1, 54, none⟩)])) w := by kernel_rfl
theorem Tryd.assignable25 (w : World) : (ReflectliteType.relation "AssignableTo" ReflectliteType.assignableTo #[.agg #[.pointer (some ⟨1, 54, none⟩)], .iface 78 (.agg #[.pointer (some ⟨1, 54, none⟩)])]).run Tryd.prog w = .ok (.bool true) w := by kernel_rfl
theorem Tryd.valueOf25 (e : Addr) (w : World) : (ReflectliteValue.unpack (.iface 54 (.pointer (some e)))).run Tryd.prog w
    = .ok (.agg #[.pointer (some ⟨1, 54, none⟩), .pointer (some ⟨w.heap.size, 0, none⟩), .int .u64 150]) (w.alloc (.cells #[.pointer (some e)] 54)) := by kernel_rfl

theorem Tryd.elemOf27 (w : World) : (Rtype.elem? 62).run Tryd.prog w = .ok (some 54) w := by kernel_rfl
theorem Tryd.mk25 (p : Addr) (w : World) : (ReflectliteValue.mk 54 p ReflectliteValue.flagAddr).run Tryd.prog w = .ok (.agg #[.pointer (some ⟨1, 54, none⟩), .pointer (some p), .int .u64 406]) w := by kernel_rfl
theorem Tryd.elemV27 (a p : Addr) (W : World) (ha : W.cell? a = some (.pointer (some p))) :
    (ReflectliteValue.method (ReflectliteValue.valueError "reflectlite.Value.Elem" 0) ReflectliteValue.elem #[.agg #[.pointer (some ⟨1, 62, none⟩), .pointer (some a), .int .u64 150]]).run Tryd.prog W
      = .ok (.agg #[.pointer (some ⟨1, 54, none⟩), .pointer (some p), .int .u64 406]) W := by
  rw [rlm]
  simp only [Sem.run_bind, Tryd.parts27, Result.andThen]
  simp [ReflectliteValue.elem, loadVar, isAgg, underlying, Tryd.underlying62, ha, Result.andThen, Tryd.elemOf27, Tryd.mk25]
theorem rls (v x : Value) : ReflectliteValue.set #[v, x] = (do
    let (some (dst, a, fl), some (src, b, _)) := (← ReflectliteValue.parts v, ← ReflectliteValue.parts x)
      | unsupported (.noEntry "extern/(internal/reflectlite.Value).Set.zeroValue")
    if fl / ReflectliteValue.flagAddr % 2 == 0 then unsupported (.noEntry "extern/(internal/reflectlite.Value).Set.unaddressable")
    let val ← loadVar src b
    if ← Rtype.directlyAssignable dst src then storeVar dst a val
    else if ← Rtype.implements dst src then
      if (← Rtype.kind src) == 20 then
        match val with
        | .nilIface => unsupported (.noEntry "extern/reflectlite: a nil value of one interface type handed on as a value of another")
        | _ => storeVar dst a val
      else storeVar dst a (.iface src val)
    else panicString ("reflectlite.Set: value of type " ++ (← Rtype.spelt src) ++ " is not assignable to type " ++ (← Rtype.spelt dst))
    pure (.tuple #[])) := rfl
theorem Tryd.parts25a (a : Addr) (w : World) : (ReflectliteValue.parts (.agg #[.pointer (some ⟨1, 54, none⟩), .pointer (some a), .int .u64 406])).run Tryd.prog w = .ok (some (54, a, 406)) w := by kernel_rfl
theorem Tryd.parts25 (a : Addr) (w : World) : (ReflectliteValue.parts (.agg #[.pointer (some ⟨1, 54, none⟩), .pointer (some a), .int .u64 150])).run Tryd.prog w = .ok (some (54, a, 150)) w := by kernel_rfl
theorem Tryd.direct25 (w : World) : (Rtype.directlyAssignable 54 54).run Tryd.prog w = .ok true w := by kernel_rfl
theorem Tryd.set25 (ta b e : Addr) (old : Value) (W : World) (hb : W.cell? b = some (.pointer (some e))) (ht : W.cell? ta = some old) (hf : W.frozen? ta = false) :
    (ReflectliteValue.set #[.agg #[.pointer (some ⟨1, 54, none⟩), .pointer (some ta), .int .u64 406], .agg #[.pointer (some ⟨1, 54, none⟩), .pointer (some b), .int .u64 150]]).run Tryd.prog W
      = .ok (.tuple #[]) (W.setCell ta (.pointer (some e))) := by
  rw [rls]
  simp only [Sem.run_bind, Tryd.parts25a, Tryd.parts25, Result.andThen]
  simp [ReflectliteValue.flagAddr, loadVar, isAgg, underlying, Tryd.underlying54, hb, Result.andThen, Tryd.direct25, storeVar, Value.cells, storeCells, Addr.add]
  rw [run_store Tryd.prog W ta _ _ (by rfl)]
  simp [ht, hf]

set_option maxHeartbeats 8000000 in
set_option maxRecDepth 100000 in
theorem as_hit (e t : Addr) (old : Value) (w : World) (hg : w.cell? ⟨0, 0, none⟩ = some (.iface 78 (.agg #[.pointer (some ⟨1, 25, none⟩)]))) (ht0 : w.cell? t = some old) (hf0 : w.frozen? t = false) :
    Calls Tryd.prog 18 #[.iface 54 (.pointer (some e)), .iface 62 (.pointer (some t))] w fun ev w' => ev = .returned (.bool true) ∧ w' = ((((w.alloc (.cells #[.pointer (some t)] 62)).alloc (.cells #[.pointer (some ⟨1, 62, none⟩), .pointer (some ⟨w.heap.size, 0, none⟩), .int .u64 150] 68)).alloc (.cells #[.pointer (some ⟨1, 62, none⟩), .pointer (some ⟨w.heap.size, 0, none⟩), .int .u64 150] 68)).alloc (.cells #[.pointer (some e)] 54)).setCell t (.pointer (some e)) := by
  have h6 := @run_callFunc_extern Tryd.prog 19 _ (fun args => ReflectliteValue.unpack (args.getD 0 (.tuple #[]))) Tryd.func19 (by kernel_rfl) (by kernel_rfl) (by kernel_rfl) (by kernel_rfl)
  have h7 := @run_callFunc_extern Tryd.prog 20 _ (ReflectliteValue.methodAny (ReflectliteValue.valueError "reflectlite.Value.Type" 0) (fun t _ _ _ => ReflectliteType.toType t)) Tryd.func20 (by kernel_rfl) (by kernel_rfl) (by kernel_rfl) (by kernel_rfl)
  have h8 := @run_callFunc_extern Tryd.prog 21 _ (ReflectliteValue.method (ReflectliteValue.valueError "reflectlite.Value.IsNil" 0) ReflectliteValue.isNil) Tryd.func21 (by kernel_rfl) (by kernel_rfl) (by kernel_rfl) (by kernel_rfl)
  have h27 := @run_callFunc_extern Tryd.prog 40 _ (ReflectliteType.abiMethod fun t => do pure (.int .u8 (← Rtype.kind t))) Tryd.func40 (by kernel_rfl) (by kernel_rfl) (by kernel_rfl) (by kernel_rfl)
  have h37 := @run_callFunc_extern Tryd.prog 51 _ (ReflectliteType.method ReflectliteType.elem) Tryd.func51 (by kernel_rfl) (by kernel_rfl) (by kernel_rfl) (by kernel_rfl)
  have h38 := @run_callFunc_extern Tryd.prog 52 _ (ReflectliteType.relation "Implements" ReflectliteType.implements_) Tryd.func52 (by kernel_rfl) (by kernel_rfl) (by kernel_rfl) (by kernel_rfl)
  have h10 := @run_callFunc_extern Tryd.prog 23 _ ReflectliteType.typeOf Tryd.func23 (by kernel_rfl) (by kernel_rfl) (by kernel_rfl) (by kernel_rfl)
  have h35 := @run_callFunc_extern Tryd.prog 49 _ (ReflectliteType.relation "AssignableTo" ReflectliteType.assignableTo) Tryd.func49 (by kernel_rfl) (by kernel_rfl) (by kernel_rfl) (by kernel_rfl)
  have h11 := @run_callFunc_extern Tryd.prog 24 _ (ReflectliteValue.method (ReflectliteValue.valueError "reflectlite.Value.Elem" 0) ReflectliteValue.elem) Tryd.func24 (by kernel_rfl) (by kernel_rfl) (by kernel_rfl) (by kernel_rfl)
  have h12 := @run_callFunc_extern Tryd.prog 25 _ ReflectliteValue.set Tryd.func25 (by kernel_rfl) (by kernel_rfl) (by kernel_rfl) (by kernel_rfl)
  have tO := Tryd.typeOf25
  have mA := Tryd.methodAssignableTo
  have a25 := Tryd.assignable25
  have v25 := Tryd.valueOf25
  have f6 := Tryd.valueOf27
  have f7 := Tryd.type27
  have mK := Tryd.methodKind
  have mE := Tryd.methodElem
  have mI := Tryd.methodImplements
  have k27 := Tryd.kind27
  have k25 := Tryd.kind25
  have e27 := Tryd.elem27
  have i25 := Tryd.implements25
  have n8 := Tryd.isNil27 ⟨w.heap.size, 0, none⟩ t ((w.alloc (.cells #[.pointer (some t)] 62)).alloc (.cells #[.pointer (some ⟨1, 62, none⟩), .pointer (some ⟨w.heap.size, 0, none⟩), .int .u64 150] 68)) (by simp)
  have hlt : 0 < w.heap.size := by
    rcases Nat.eq_zero_or_pos w.heap.size with h0 | h
    · simp [World.cell?, h0] at hg
    · exact h
  have hg2 : ((w.alloc (.cells #[.pointer (some t)] 62)).alloc (.cells #[.pointer (some ⟨1, 62, none⟩), .pointer (some ⟨w.heap.size, 0, none⟩), .int .u64 150] 68)).cell? ⟨0, 0, none⟩ = some (.iface 78 (.agg #[.pointer (some ⟨1, 25, none⟩)])) := by
    rw [World.cell?_alloc_lt _ _ ⟨0, 0, none⟩ (by simp), World.cell?_alloc_lt _ _ ⟨0, 0, none⟩ hlt]; exact hg
  have htl : t.block < w.heap.size := by
    rcases Nat.lt_or_ge t.block w.heap.size with h | h
    · exact h
    · simp [World.cell?, Array.getElem?_eq_none h] at ht0
  have el := Tryd.elemV27 ⟨w.heap.size, 0, none⟩ t (((w.alloc (.cells #[.pointer (some t)] 62)).alloc (.cells #[.pointer (some ⟨1, 62, none⟩), .pointer (some ⟨w.heap.size, 0, none⟩), .int .u64 150] 68)).alloc (.cells #[.pointer (some ⟨1, 62, none⟩), .pointer (some ⟨w.heap.size, 0, none⟩), .int .u64 150] 68)) (by rw [World.cell?_alloc_lt _ _ ⟨w.heap.size, 0, none⟩ (by simp; omega)]; simp)
  have st := Tryd.set25 t ⟨w.heap.size + 1 + 1 + 1, 0, none⟩ e old ((((w.alloc (.cells #[.pointer (some t)] 62)).alloc (.cells #[.pointer (some ⟨1, 62, none⟩), .pointer (some ⟨w.heap.size, 0, none⟩), .int .u64 150] 68)).alloc (.cells #[.pointer (some ⟨1, 62, none⟩), .pointer (some ⟨w.heap.size, 0, none⟩), .int .u64 150] 68)).alloc (.cells #[.pointer (some e)] 54))
    (by rw [World.cell?_alloc_at _ _ _ _ (by simp)]; rfl)
    (by rw [World.cell?_alloc_lt _ _ t (by simp; omega), World.cell?_alloc_lt _ _ t (by simp; omega), World.cell?_alloc_lt _ _ t (by simp; omega), World.cell?_alloc_lt _ _ t htl]; exact ht0)
    (by rw [World.frozen?_alloc_old _ _ t (by simp; omega), World.frozen?_alloc_old _ _ t (by simp; omega), World.frozen?_alloc_old _ _ t (by simp; omega), World.frozen?_alloc_old _ _ t (Nat.ne_of_lt htl)]; exact hf0)
  go_enter Tryd.func18, Tryd.ntmps18
  go_wp2
  refine wp_loop_rounds 1 ?_
  rw [rounds_succ]
  go_wp2
  go_ret
  exact ⟨rfl, rfl⟩
end Go.Proofs.YtgeflfdonoicaaaDoor
namespace Go.Proofs.YtgeflfdonoicaaaDoor
open Go Go.Va
set_option linter.unusedVariables false
set_option linter.unusedSimpArgs false
def gls : List (Addr × Value) := [(⟨0, 0, none⟩, .iface 78 (.agg #[.pointer (some ⟨1, 25, none⟩)]))]
section
variable {P : Program} {Ty : TypeId → Option TI} {fr : Nat → AV} {d : Option Tmp} {t : TypeId} {pos : String} {af : Array Edge} {g : Option (Nat × Bool)} {ox oy : Operand} {T T' : TypeId}
theorem o_err_eql (hT : TyOk P Ty) {x : Err} (ht : tdOf Ty T = .iface) (hx : aeval fr ox = eErr x) (hy : oy = .const .nilIface) : OpP P ⟨d, .binOp .eql T ox oy T', t, pos, af, g⟩ fr (eB x.isNil) := by
  subst hy
  refine OpP.of_aop' hT (mu := false) rfl (fun τ => ?_)
  have h2 : aeval fr (.const .nilIface) = .nili := rfl
  simp only [aop, hx, h2]
  cases x with
  | nil => simp [eErr, abin', abin, ht, isC, aeq, pairO, Err.isNil, eB]
  | fault o a c u => simp [eErr, abin', abin, ht, isC, aeq, pairO, Err.isNil, eB]
theorem o_err_neq (hT : TyOk P Ty) {x : Err} (ht : tdOf Ty T = .iface) (hx : aeval fr ox = eErr x) (hy : oy = .const .nilIface) : OpP P ⟨d, .binOp .neq T ox oy T', t, pos, af, g⟩ fr (eB (!x.isNil)) := by
  subst hy
  refine OpP.of_aop' hT (mu := false) rfl (fun τ => ?_)
  have h2 : aeval fr (.const .nilIface) = .nili := rfl
  simp only [aop, hx, h2]
  cases x with
  | nil => simp [eErr, abin', abin, ht, isC, aeq, pairO, Err.isNil, eB]
  | fault o a c u => simp [eErr, abin', abin, ht, isC, aeq, pairO, Err.isNil, eB]
end
def Err.ptr : Err → AV
  | .nil => .nilp
  | .fault o a c u => .fptr [eS o, eI a, eI c, eErr u] 0
theorem as_ok {x : Err} (hx : x.isNil = false) {σ : St} {id : Nat} (ho : σ.objs[id]? = some [.nilp]) (hg : σ.gl = gls) : ACall Tryd.prog 18 [eErr x, .iface 62 (.ref id 0)] σ (fun a τ => a = eB true ∧ τ = σ.puts [(id, [x.ptr])]) := by
  cases x with
  | nil => cases hx
  | fault o a c u =>
    refine ⟨⟨_, Tryd.func18, by decide, rfl⟩, fun w0 G w vs hI hr => ?_⟩
    obtain ⟨v0, h0, r0⟩ := hr.get (i := 0) rfl
    obtain ⟨v1, h1, r1⟩ := hr.get (i := 1) rfl
    have hvs : vs = #[v0, v1] := by
      obtain ⟨l⟩ := vs
      have hl := hr.len
      simp only [List.length_cons, List.length_nil] at hl h0 h1
      match l, hl, h0, h1 with
      | [x, y], _, h0, h1 => simp at h0 h1; subst h0; subst h1; rfl
    subst hvs
    simp only [eErr] at r0
    cases r0 with | iface _ v0 _ r0 =>
    cases r1 with | iface _ v1 _ r1 =>
    cases r0 with | fptr b o' off _ val hf hv =>
    cases r1 with | ref _ _ b1 hl =>
    obtain ⟨b2, T, cs, e1, e2, e3, e4, e5, e6⟩ := hI.loc id _ ho (by simp) rfl
    rw [hl] at e1
    cases e1
    obtain ⟨u1, hu1, ru1⟩ := e4.rel.get (i := 0) rfl
    have hcs : cs[0]? = some (.pointer none) := by
      cases ru1
      rw [List.getElem?_take] at hu1
      simpa using hu1
    have hsz : 1 ≤ cs.size := e4.le
    have hglob := hI.below
    have hg0 : w0.cell? ⟨0, 0, none⟩ = some (.iface 78 (.agg #[.pointer (some ⟨1, 25, none⟩)])) := hI.gl _ (by rw [hg]; exact List.mem_singleton.2 rfl)
    have hg1 : w.cell? ⟨0, 0, none⟩ = some (.iface 78 (.agg #[.pointer (some ⟨1, 25, none⟩)])) := by
      have hb := World.block_lt_of_cell? w0 _ hg0
      simp only [World.cell?] at hg0 ⊢
      rw [hI.below.block _ hb]; exact hg0
    have hc : w.cell? ⟨b1, 0, none⟩ = some (.pointer none) := by simp [World.cell?, e3, hcs]
    have hfz : w.frozen? ⟨b1, 0, none⟩ = false := by simp [World.frozen?, e3]
    refine (as_hit ⟨b, o' + 0, none⟩ ⟨b1, 0, none⟩ (.pointer none) w hg1 hc hfz).mono ?_
    rintro e w' ⟨rfl, rfl⟩
    have k1 := hI.alloc_fz #[.pointer (some ⟨b1, 0, none⟩)] 62 (by simp [Value.oneCell']) (0, 0)
    have k2 := k1.2.alloc_fz #[.pointer (some ⟨1, 62, none⟩), .pointer (some ⟨w.heap.size, 0, none⟩), .int .u64 150] 68 (by simp [Value.oneCell']) (0, 0)
    have k3 := k2.2.alloc_fz #[.pointer (some ⟨1, 62, none⟩), .pointer (some ⟨w.heap.size, 0, none⟩), .int .u64 150] 68 (by simp [Value.oneCell']) (0, 0)
    have k4 := k3.2.alloc_fz #[.pointer (some ⟨b, o' + 0, none⟩)] 54 (by simp [Value.oneCell']) (0, 0)
    have hle := k1.1.trans (k2.1.trans (k3.1.trans k4.1))
    have hb1 : b1 < w.heap.size := (Array.getElem?_eq_some_iff.1 e3).1
    have k5 := k4.2.write (id := id) (off := 0) (news := [.pointer (some ⟨b, o' + 0, none⟩)]) (nc := [.fptr [eS o, eI a, eI c, eErr u] 0]) ho (hle.loc _ _ hl) (by simp) rfl ((RelL.nil _).cons (.fptr b o' 0 _ val (fun j a h1 => hle.fz _ _ _ (hf j a h1)) (fun j a h1 => (hv j a h1).mono hle))) (by simp [Value.oneCell']) (by simp) (by rw [hle.bsz _ _ hl, ← e6]; simpa using hsz)
    refine ⟨.bool true, eB true, _, _, rfl, hle, ?_, .bool true, rfl, rfl⟩
    simp only [World.setCells, List.take_zero, List.nil_append, List.length_cons, List.length_nil, List.drop_succ_cons, List.drop_zero, List.drop_nil, List.append_nil] at k5
    exact k5
end Go.Proofs.YtgeflfdonoicaaaDoor
namespace Go.Proofs.YtgeflfdonoicaaaDoor
open Go Go.Va
set_option linter.unusedVariables false
set_option linter.unusedSimpArgs false
set_option maxRecDepth 20000
theorem L06_Light_ok {x0 : List api_Entry} {r : Int} (H : L06_Light x0 = some r) (σ : St)  : ACall Tryd.prog 7 [((eL 5 e_api_Entry) x0)] σ (fun a τ => a = eI r ∧ τ = σ) := by
 unfold L06_Light at H
 refine ACall.pure (acall_start tk Tryd.func7 (by decide) rfl (nb rfl) ?_)
 have hH := Holds.init σ
 refine sr rfl (ma tk (eI (0 : Int)) rfl rfl (wpo_nil (awp_seq (sr rfl (mm tk ((eL 5 e_api_Entry) x0) rfl rfl ?_)))))
 refine l_ H eI rfl (o_len tk td34 rfl) fun v2 H1 => ?_
 refine l_ H1 eB rfl (o_ar tk rfl rfl rfl) fun v4 H3 => ?_
 refine wpo_nil ?_
 refine awp_if H3 rfl (fun H5 => ?_) (fun H5 => ?_)
 ·refine sr rfl (ma tk (eI (1 : Int)) rfl rfl (wpo_nil (awp_ret ?_)))
  obtain rfl := oi H5
  exact ⟨_, (eI (1 : Int)), rfl, wr, .of_eq ((enc_i64 td3 sz3).cut _ _ _), hH.noT⟩
 ·refine awp_skip (sr rfl (ma tk (eI (0 : Int)) rfl rfl (wpo_nil (awp_seq (sr rfl (ma tk (eI (0 : Int)) rfl rfl (wpo_nil (awp_block ?_))))))))
  obtain ⟨o8, hs9, hj10⟩ := ob H5
  refine awp_cutx 0 (fun fr τ => ∃ s15 : Unit, o8 = .inl s15 ∧ WkF fr (fm []) ∧ Holds σ [] [] τ) ?_ ?_
  ·rintro fr τ ⟨s15, rfl, hfr, hH⟩
   have H54 := hj10
   simp only [Sum.elim_inl] at H54
   refine AWP.fm [] hfr ?_
   refine sr rfl (ma tk (eI (0 : Int)) rfl rfl (wpo_nil (awp_ret ?_)))
   obtain rfl := oi H54
   exact ⟨_, (eI (0 : Int)), rfl, wr, .of_eq ((enc_i64 td3 sz3).cut _ _ _), hH.noT⟩
  ·refine awp_loopO (body := fun s => L06_Light_b0 x0 s.1 s.2) hs9 (fun (s : Int × Int) fr τ => WkF fr (fm [(0, ((eL 5 e_api_Entry) x0)), (3, (eI s.1)), (4, (eI s.2))]) ∧ Holds σ [] [] τ) ⟨(wc (wc (wc (wkf_nil _)))), hH⟩ ?_
   rintro ⟨c6, c7⟩ fr τ y11 ⟨hfr, hH⟩ hb13 hy14
   have H16 : L06_Light_b0 x0 c6 c7 = some y11 := hb13
   unfold L06_Light_b0 at H16
   refine AWP.fm [(0, ((eL 5 e_api_Entry) x0)), (3, (eI c6)), (4, (eI c7))] hfr ?_
   have hH : Holds σ [] [] τ := hH
   refine awp_seq (sr rfl (mm tk (eI c7) rfl rfl (mm tk ((eL 5 e_api_Entry) x0) rfl rfl ?_)))
   refine l_ H16 eI rfl (o_len tk td34 rfl) fun v18 H17 => ?_
   refine l_ H17 eB rfl (o_ar tk rfl rfl rfl) fun v20 H19 => ?_
   refine wpo_nil ?_
   refine awp_if H19 rfl (fun H21 => ?_) (fun H21 => ?_)
   ·refine awp_skip (awp_seq (awp_block (awp_seq (awp_seq ?_))))
    obtain ⟨s22, hs24, hj25⟩ := ob H21
    refine awp_cutn (fun fr τ => WkF fr (fm [(0, ((eL 5 e_api_Entry) x0)), (3, (eI c6)), (4, (eI c7)), (29, (eB s22))]) ∧ Holds σ [] [] τ) ?_ ?_
    ·rintro fr τ ⟨hfr, hH⟩
     have H39 := hj25
     refine AWP.fm [(0, ((eL 5 e_api_Entry) x0)), (3, (eI c6)), (4, (eI c7)), (29, (eB s22))] hfr ?_
     refine awp_if H39 rfl (fun H40 => ?_) (fun H40 => ?_)
     ·refine sr rfl (ma tk (eI (1 : Int)) rfl rfl (wpo_nil (awp_ret ?_)))
      have hz := hy14 _ (inj_inr H40)
      refine ⟨⟨_, inj_inr H40⟩, ?_⟩
      rw [← hz] at hj10
      have H41 := (show some _ = some _ from hj10)
      obtain rfl := oi H41
      exact ⟨_, (eI (1 : Int)), rfl, wr, .of_eq ((enc_i64 td3 sz3).cut _ _ _), hH.noT⟩
     ·refine awp_skip (sr rfl (mm tk (eI c6) rfl rfl (mm tk ((eL 5 e_api_Entry) x0) rfl rfl (mm tk (eI c7) rfl rfl ?_))))
      refine b_ H40 (fun y => .fptr (e_api_Entry y).cells 0) rfl (fun v43 hv => o_ixa tk hv td34 enc30 rfl rfl) fun v43 hv43 H42 => ?_
      refine mc tk (.fptr (c_api_Entry v43) 4) rfl rfl (fun _ => rfl) (m_ ((eL 1 (@eU .u8 8)) v43.Value) rfl (o_ld tk rfl rfl) ?_)
      refine l_ H42 eI rfl (o_len tk td28 rfl) fun v45 H44 => ?_
      refine l_ H44 eI rfl (o_ar tk rfl rfl rfl) fun v47 H46 => ?_
      refine ma tk (eI v47) rfl rfl (wpo_nil (sr rfl (mm tk (eI v47) rfl rfl ?_)))
      refine l_ H46 eB rfl (o_ar tk rfl rfl rfl) fun v49 H48 => ?_
      refine wpo_nil ?_
      refine awp_if H48 rfl (fun H50 => ?_) (fun H50 => ?_)
      ·refine sr rfl (ma tk (eI (1 : Int)) rfl rfl (wpo_nil (awp_ret ?_)))
       have hz := hy14 _ (inj_inr H50)
       refine ⟨⟨_, inj_inr H50⟩, ?_⟩
       rw [← hz] at hj10
       have H51 := (show some _ = some _ from hj10)
       obtain rfl := oi H51
       exact ⟨_, (eI (1 : Int)), rfl, wr, .of_eq ((enc_i64 td3 sz3).cut _ _ _), hH.noT⟩
      ·refine awp_skip (awp_region rfl (mm tk (eI c7) rfl rfl ?_))
       refine l_ H50 eI rfl (o_ar tk rfl rfl rfl) fun v53 H52 => ?_
       refine ma tk (eI v53) rfl rfl (wpo_nil ?_)
       exact ⟨(v47, v53), inj_inl H52, (wc (wc (wc (wkf_nil _)))), hH⟩
    ·refine awp_region rfl (mm tk ((eL 5 e_api_Entry) x0) rfl rfl (mm tk (eI c7) rfl rfl ?_))
     refine b_ hs24 (fun y => .fptr (e_api_Entry y).cells 0) rfl (fun v27 hv => o_ixa tk hv td34 enc30 rfl rfl) fun v27 hv27 H26 => ?_
     refine mc tk (.fptr (c_api_Entry v27) 0) rfl rfl (fun _ => rfl) (m_ (eS v27.Key) rfl (o_ld tk rfl rfl) ?_)
     refine l_ H26 eI rfl (o_len_s tk td9 rfl) fun v29 H28 => ?_
     refine l_ H28 eB rfl (o_ar tk rfl rfl rfl) fun v31 H30 => ?_
     refine mm tk (eB v31) rfl rfl ?_
     refine if_split H30 (fun hb H32 => ?_) (fun hb H32 => ?_)
     ·subst hb
      refine k_ rfl (k_ rfl (k_ rfl (k_ rfl (k_ rfl (k_ rfl (k_ rfl (pt tk (eB true) rfl rfl rfl (wpo_nil ?_))))))))
      have e := oi H32
      subst e
      exact ⟨(wc (wc (wc (wc (wkf_nil _))))), hH⟩
     ·subst hb
      refine mm tk ((eL 5 e_api_Entry) x0) rfl rfl (mm tk (eI c7) rfl rfl ?_)
      refine b_ H32 (fun y => .fptr (e_api_Entry y).cells 0) rfl (fun v34 hv => o_ixa tk hv td34 enc30 rfl rfl) fun v34 hv34 H33 => ?_
      refine mc tk (.fptr (c_api_Entry v34) 4) rfl rfl (fun _ => rfl) (m_ ((eL 1 (@eU .u8 8)) v34.Value) rfl (o_ld tk rfl rfl) ?_)
      refine l_ H33 eI rfl (o_len tk td28 rfl) fun v36 H35 => ?_
      refine l_ H35 eB rfl (o_ar tk rfl rfl rfl) fun v38 H37 => ?_
      refine pf tk (eB v38) rfl rfl rfl (wpo_nil ?_)
      have e := oi H37
      subst e
      exact ⟨(wc (wc (wc (wc (wkf_nil _))))), hH⟩
   ·refine awp_exit ?_
    have hz := hy14 _ (inj_inr H21)
    exact ⟨⟨_, inj_inr H21⟩, (), hz.symm, (wkf_nil _), hH⟩
theorem L28_Light_ok {x0 : List api_Event} {r : Int} (H : L28_Light x0 = some r) (σ : St)  : ACall Tryd.prog 4 [((eL 8 e_api_Event) x0)] σ (fun a τ => a = eI r ∧ τ = σ) := by
 unfold L28_Light at H
 refine ACall.pure (acall_start tk Tryd.func4 (by decide) rfl (nb rfl) ?_)
 have hH := Holds.init σ
 refine sr rfl (ma tk (eI (0 : Int)) rfl rfl (wpo_nil (awp_seq (sr rfl (mm tk ((eL 8 e_api_Event) x0) rfl rfl ?_)))))
 refine l_ H eI rfl (o_len tk td22 rfl) fun v2 H1 => ?_
 refine l_ H1 eB rfl (o_ar tk rfl rfl rfl) fun v4 H3 => ?_
 refine wpo_nil ?_
 refine awp_if H3 rfl (fun H5 => ?_) (fun H5 => ?_)
 ·refine sr rfl (ma tk (eI (1 : Int)) rfl rfl (wpo_nil (awp_ret ?_)))
  obtain rfl := oi H5
  exact ⟨_, (eI (1 : Int)), rfl, wr, .of_eq ((enc_i64 td3 sz3).cut _ _ _), hH.noT⟩
 ·refine awp_skip (sr rfl (ma tk AV.nils rfl rfl (wpo_nil (awp_seq (sr rfl (ma tk (eI (0 : Int)) rfl rfl (wpo_nil (awp_block ?_))))))))
  refine AWP.tokN hH 3 5 rfl fun tk8 τ hH => ?_
  obtain ⟨s16, hs10, hj11⟩ := ob H5
  refine awp_cutx 0 (fun fr τ => ∃ tk_3, WkF fr (fm [(3, (eT tk_3 5 e_api_Entry s16))]) ∧ Holds σ [] [tk_3] τ) ?_ ?_
  ·rintro fr τ ⟨tk_3, hfr, hH⟩
   have H33 := hj11
   refine AWP.fm [(3, (eT tk_3 5 e_api_Entry s16))] hfr ?_
   refine sr rfl (mm tk (eT tk_3 5 e_api_Entry s16) rfl rfl ?_)
   refine b_ H33 eI rfl (fun v35 hv => OpP.of_call rfl rfl (.cons wk_no .nil) (L06_Light_ok hv)) fun v35 hv35 H34 => ?_
   refine ma tk (eI v35) rfl rfl (wpo_nil (awp_ret ?_))
   obtain rfl := oi H34
   exact ⟨_, (eI v35), rfl, wr, .of_eq ((enc_i64 td3 sz3).cut _ _ _), hH.noT⟩
  ·refine awp_loopO (body := fun s => L28_Light_b0 x0 s.1 s.2) hs10 (fun (s : (List api_Entry) × Int) fr τ => ∃ tk_3, WkF fr (fm [(0, ((eL 8 e_api_Event) x0)), (3, (eT tk_3 5 e_api_Entry s.1)), (4, (eI s.2))]) ∧ Holds σ [] [tk_3] τ) ⟨tk8, (wc (wc (wc (wkf_nil _)))), hH⟩ ?_
   rintro ⟨c6, c7⟩ fr τ y12 ⟨tk_3, hfr, hH⟩ hb14 hy15
   have H17 : L28_Light_b0 x0 c6 c7 = some y12 := hb14
   unfold L28_Light_b0 at H17
   refine AWP.fm [(0, ((eL 8 e_api_Event) x0)), (3, (eT tk_3 5 e_api_Entry c6)), (4, (eI c7))] hfr ?_
   have hH : Holds σ [] [tk_3] τ := hH
   refine awp_seq (sr rfl (mm tk (eI c7) rfl rfl (mm tk ((eL 8 e_api_Event) x0) rfl rfl ?_)))
   refine l_ H17 eI rfl (o_len tk td22 rfl) fun v19 H18 => ?_
   refine l_ H18 eB rfl (o_ar tk rfl rfl rfl) fun v21 H20 => ?_
   refine wpo_nil ?_
   refine awp_if H20 rfl (fun H22 => ?_) (fun H22 => ?_)
   ·refine awp_skip (awp_seq (awp_block (awp_region rfl (mm tk (eT tk_3 5 e_api_Entry c6) rfl rfl (mm tk ((eL 8 e_api_Event) x0) rfl rfl (mm tk (eI c7) rfl rfl ?_))))))
    refine b_ H22 (fun y => .fptr (e_api_Event y).cells 0) rfl (fun v24 hv => o_ixa tk hv td22 enc32 rfl rfl) fun v24 hv24 H23 => ?_
    refine mc tk (.fptr (c_api_Event v24) 2) rfl rfl (fun _ => rfl) (m_ (e_api_Entry v24.X) rfl (o_ld tk rfl rfl) ?_)
    refine l_ H23 (eF 5 e_api_Entry) rfl (o_c tk false rfl (fun _ => rfl)) fun v26 H25 => ?_
    obtain ⟨v28, hv29, H27⟩ := ob H25
    refine wpo_a (av := fun t => eT t 5 e_api_Entry v28) rfl rfl rfl (h_app tk hH 0 hv29 rfl td34 ty30 rfl (by decide) rfl (src_l td34 rfl)) fun tk30 τ hH => ?_
    refine ma tk (eT tk30 5 e_api_Entry v28) rfl rfl (wpo_nil (awp_region rfl (mm tk (eI c7) rfl rfl ?_)))
    refine l_ H27 eI rfl (o_ar tk rfl rfl rfl) fun v32 H31 => ?_
    refine ma tk (eI v32) rfl rfl (wpo_nil ?_)
    exact ⟨(v28, v32), inj_inl H31, tk30, (wc (wc (wc (wkf_nil _)))), hH⟩
   ·refine awp_exit ?_
    have hz := hy15 _ (inj_inr H22)
    subst hz
    exact ⟨⟨_, inj_inr H22⟩, tk_3, (wc (wkf_nil _)), hH⟩
theorem trouble_New_ok {x0 : List (BitVec 8)} {x1 : Int} {x2 : Int} {r : Err} (H : trouble_New x0 x1 x2 = some r) (σ : St)  : ACall Tryd.prog 10 [(eS x0), (eI x1), (eI x2)] σ (fun a τ => a = eErr r ∧ τ = σ) := by
 unfold trouble_New at H
 refine ACall.pure (acall_start tk Tryd.func10 (by decide) rfl (nb rfl) ?_)
 have hH := Holds.init σ
 refine sr rfl (ma tk (eErr Err.nil) rfl rfl (wpo_nil (awp_seq (sr rfl (mm tk (eI x2) rfl rfl ?_)))))
 refine l_ H eB rfl (o_ar tk rfl rfl rfl) fun v2 H1 => ?_
 refine wpo_nil ?_
 refine awp_if H1 rfl (fun H3 => ?_) (fun H3 => ?_)
 ·refine sr rfl (ma tk (eErr Err.nil) rfl rfl (wpo_nil (awp_ret ?_)))
  obtain rfl := oi H3
  exact ⟨_, (eErr Err.nil), rfl, wr, .of_eq (encErr.cut _ _ _), hH.noT⟩
 ·refine awp_skip (sr rfl (mm tk (eS x0) rfl rfl (mm tk (eI x1) rfl rfl (mm tk (eI x2) rfl rfl ?_))))
  refine l_ H3 e_trouble_fault rfl (o_c tk false rfl (fun _ => rfl)) fun v5 H4 => ?_
  refine m_ (.fptr (c_trouble_fault v5) 0) rfl (o_boxf tk rfl wr (b := (e_trouble_fault v5)) (enc56.flat _)) (mc tk (eErr (Err.fault v5.op v5.at_ v5.code v5.under)) rfl rfl (fun _ => rfl) (ma tk (eErr (Err.fault v5.op v5.at_ v5.code v5.under)) rfl rfl (wpo_nil (awp_ret ?_))))
  obtain rfl := oi H4
  exact ⟨_, (eErr (Err.fault v5.op v5.at_ v5.code v5.under)), rfl, wr, .of_eq (encErr.cut _ _ _), hH.noT⟩
theorem judge_New_ok  {r : judge_Judge} (H : judge_New = some r) (σ : St)  : ACall Tryd.prog 8 [] σ (fun a τ => a = .ref σ.objs.length 0 ∧ τ = ⟨σ.objs ++ (fun f c => [(c_judge_Judge (f 1) (f 2) (f 3) (f 4) c), (cM eI e_api_Event c.written), (cM eS eI c.done), (cM e_judge_spot eI c.served), (cM eI eI c.open_)]) (fun i => σ.objs.length + i) r, σ.opn, σ.gl⟩) := by
 unfold judge_New at H
 refine ACall.newB1 (args := []) (B := (fun f c => [(c_judge_Judge (f 1) (f 2) (f 3) (f 4) c), (cM eI e_api_Event c.written), (cM eS eI c.done), (cM e_judge_spot eI c.served), (cM eI eI c.open_)])) (c := r) 5 (fun f => rfl) (by decide) (fun ρ κ f g h => by exact (.cons rfl (.of_eqL (c_judge_Judge_cut (cut_mapr_id (h 1 (by decide))) (cut_mapr_id (h 2 (by decide))) (cut_mapr_id (h 3 (by decide))) (cut_mapr_id (h 4 (by decide))) _)) (.same (cM_cut (fun ρ κ x => (enc_i64 td3 sz3).cut ρ κ x) (fun ρ κ x => enc32.cut ρ κ x) _ _ _) (.same (cM_cut (fun ρ κ x => (enc_s td9 sz9).cut ρ κ x) (fun ρ κ x => (enc_i64 td3 sz3).cut ρ κ x) _ _ _) (.same (cM_cut (fun ρ κ x => enc64.cut ρ κ x) (fun ρ κ x => (enc_i64 td3 sz3).cut ρ κ x) _ _ _) (.same (cM_cut (fun ρ κ x => (enc_i64 td3 sz3).cut ρ κ x) (fun ρ κ x => (enc_i64 td3 sz3).cut ρ κ x) _ _ _) .nil)))))) (acall_start tk Tryd.func8 (by decide) rfl (nb rfl) ?_)
 have hH := Holds.init σ
 refine sr rfl (ma tk .nilp rfl rfl (wpo_nil (sr rfl ?_)))
 refine wpo_a (av := fun id => .mapr id) rfl rfl rfl (h_mkM hH eI e_api_Event) fun id1 τ ⟨hH, n2⟩ => ?_
 refine wpo_a (av := fun id => .mapr id) rfl rfl rfl (h_mkM hH eS eI) fun id3 τ ⟨hH, n4⟩ => ?_
 refine wpo_a (av := fun id => .mapr id) rfl rfl rfl (h_mkM hH e_judge_spot eI) fun id5 τ ⟨hH, n6⟩ => ?_
 refine wpo_a (av := fun id => .mapr id) rfl rfl rfl (h_mkM hH eI eI) fun id7 τ ⟨hH, n8⟩ => ?_
 refine mc tk (.agg (c_judge_Judge id1 id3 id5 id7 (⟨(0 : Int), ([] : List (Int × api_Event)), ([] : List ((List (BitVec 8)) × Int)), ([] : List (judge_spot × Int)), ([] : List (Int × Int)), (Vector.replicate 5 (0 : Int))⟩ : judge_Judge))) rfl rfl (fun _ => rfl) ?_
 refine wpo_a (av := fun id => .ref id 0) rfl rfl rfl (h_box tk hH rfl wr (b := (.agg (c_judge_Judge id1 id3 id5 id7 (⟨(0 : Int), ([] : List (Int × api_Event)), ([] : List ((List (BitVec 8)) × Int)), ([] : List (judge_spot × Int)), ([] : List (Int × Int)), (Vector.replicate 5 (0 : Int))⟩ : judge_Judge)))) rfl (c_judge_Judge id1 id3 id5 id7 (⟨(0 : Int), ([] : List (Int × api_Event)), ([] : List ((List (BitVec 8)) × Int)), ([] : List (judge_spot × Int)), ([] : List (Int × Int)), (Vector.replicate 5 (0 : Int))⟩ : judge_Judge)) rfl) fun id9 τ ⟨hH, n10⟩ => ?_
 refine ma tk (.ref id9 0) rfl rfl (wpo_nil (awp_ret ?_))
 obtain rfl := oi H
 have hH : Holds σ [(id9, (c_judge_Judge id1 id3 id5 id7 (⟨(0 : Int), ([] : List (Int × api_Event)), ([] : List ((List (BitVec 8)) × Int)), ([] : List (judge_spot × Int)), ([] : List (Int × Int)), (Vector.replicate 5 (0 : Int))⟩ : judge_Judge))), (id7, (cM eI eI ([] : List (Int × Int)))), (id5, (cM e_judge_spot eI ([] : List (judge_spot × Int)))), (id3, (cM eS eI ([] : List ((List (BitVec 8)) × Int)))), (id1, (cM eI e_api_Event ([] : List (Int × api_Event))))] [] _ := hH
 have hF : Holds σ [(id9, (c_judge_Judge id1 id3 id5 id7 (⟨(0 : Int), ([] : List (Int × api_Event)), ([] : List ((List (BitVec 8)) × Int)), ([] : List (judge_spot × Int)), ([] : List (Int × Int)), (Vector.replicate 5 (0 : Int))⟩ : judge_Judge))), (id1, (cM eI e_api_Event ([] : List (Int × api_Event)))), (id3, (cM eS eI ([] : List ((List (BitVec 8)) × Int)))), (id5, (cM e_judge_spot eI ([] : List (judge_spot × Int)))), (id7, (cM eI eI ([] : List (Int × Int))))] [] _ := hH.pick (by simp only [List.mem_cons, List.not_mem_nil, or_false]; rintro _ (rfl | rfl | rfl | rfl | rfl) <;> simp) (pw_zip (hH.pw [0, 4, 3, 2, 1] rfl (by decide))) (by simp only [List.mem_cons, List.not_mem_nil, or_false]; rintro _ (rfl | rfl | rfl | rfl | rfl) <;> first | exact .inl (by assumption) | exact .inr (by simp)) (fun t h => by cases h) .nil
 exact ⟨_, .ref id9 0, rfl, .of_eq rfl, fun i => [id9, id1, id3, id5, id7].getD i 0, rfl, by intro i hi; match i, hi with | 0, _ => exact n10 | 1, _ => exact n2 | 2, _ => exact n4 | 3, _ => exact n6 | 4, _ => exact n8 | k + 5, hi => exact absurd hi (by simp), hF⟩
theorem judge_Judge_hit_ok {x0 : judge_Judge} {x1 : api_Event} {r : Int × judge_Judge} (H : judge_Judge_hit x0 x1 = some r) (σ : St) {p0 p0_written p0_done p0_served p0_open_ : Nat} (h0 : σ.objs[p0]? = some (c_judge_Judge p0_written p0_done p0_served p0_open_ x0)) (h0_written : σ.objs[p0_written]? = some (cM eI e_api_Event x0.written)) (h0_done : σ.objs[p0_done]? = some (cM eS eI x0.done)) (h0_served : σ.objs[p0_served]? = some (cM e_judge_spot eI x0.served)) (h0_open_ : σ.objs[p0_open_]? = some (cM eI eI x0.open_)) (hd : [p0, p0_written, p0_done, p0_served, p0_open_].Pairwise fun a b => a ≠ b) : ACall Tryd.prog 16 [(.ref p0 0), (e_api_Event x1)] σ (fun a τ => a = eI r.1 ∧ τ = σ.puts [(p0, (c_judge_Judge p0_written p0_done p0_served p0_open_ r.2)), (p0_written, (cM eI e_api_Event r.2.written)), (p0_done, (cM eS eI r.2.done)), (p0_served, (cM e_judge_spot eI r.2.served)), (p0_open_, (cM eI eI r.2.open_))]) := by
 unfold judge_Judge_hit at H
 refine ACall.outB [(p0, (c_judge_Judge p0_written p0_done p0_served p0_open_ r.2)), (p0_written, (cM eI e_api_Event r.2.written)), (p0_done, (cM eS eI r.2.done)), (p0_served, (cM e_judge_spot eI r.2.served)), (p0_open_, (cM eI eI r.2.open_))] (by simp only [List.mem_cons, List.not_mem_nil, or_false]; rintro _ (rfl | rfl | rfl | rfl | rfl) <;> first | exact c_judge_Judge_cut (cut_mapr_id (idl_get h0_written)) (cut_mapr_id (idl_get h0_done)) (cut_mapr_id (idl_get h0_served)) (cut_mapr_id (idl_get h0_open_)) _ | exact cM_cut (fun ρ κ x => (enc_i64 td3 sz3).cut ρ κ x) (fun ρ κ x => enc32.cut ρ κ x) _ _ _ | exact cM_cut (fun ρ κ x => (enc_s td9 sz9).cut ρ κ x) (fun ρ κ x => (enc_i64 td3 sz3).cut ρ κ x) _ _ _ | exact cM_cut (fun ρ κ x => enc64.cut ρ κ x) (fun ρ κ x => (enc_i64 td3 sz3).cut ρ κ x) _ _ _ | exact cM_cut (fun ρ κ x => (enc_i64 td3 sz3).cut ρ κ x) (fun ρ κ x => (enc_i64 td3 sz3).cut ρ κ x) _ _ _) (acall_start tk Tryd.func16 (by decide) rfl (nb rfl) ?_)
 have hH := Holds.brings (σ := σ) [(p0, (c_judge_Judge p0_written p0_done p0_served p0_open_ x0)), (p0_written, (cM eI e_api_Event x0.written)), (p0_done, (cM eS eI x0.done)), (p0_served, (cM e_judge_spot eI x0.served)), (p0_open_, (cM eI eI x0.open_))] (by simp only [List.mem_cons, List.not_mem_nil, or_false]; rintro _ (rfl | rfl | rfl | rfl | rfl) <;> assumption) hd
 refine sr rfl (m_ (.fptr (c_api_Event x1) 0) rfl (o_boxf tk rfl wr (b := (e_api_Event x1)) (enc32.flat _)) (ma tk (eI (0 : Int)) rfl rfl (wpo_nil (awp_seq ?_))))
 refine awp_drawR mixed [11, 12] rfl (by decide +kernel) rfl rfl (fun σ => σ.objs[p0_written]? = some (cM eI e_api_Event x0.written) ∧ σ.objs[p0]? = some (c_judge_Judge p0_written p0_done p0_served p0_open_ x0)) 1 ⟨hH.at_ 1 rfl, hH.at_ 0 rfl⟩ ?_
 refine wpdR_mv (a := (.ref p0 0)) rfl rfl rfl (o_mv tk rfl (Wk.refl _)) ?_
 refine wpdR_mv (a := (.ref p0 0)) rfl rfl rfl (o_c tk false rfl (fun _ => rfl)) ?_
 refine wpdR_mv (a := (.ref p0 1)) rfl rfl rfl (o_c tk false rfl (fun _ => rfl)) ?_
 refine wpdR_rdp (a := (.mapr p0_written)) rfl (by decide +kernel) rfl rfl (fun σ hF => (h_ld tk (Holds.one hF.2) 0 rfl (g_judge_Judge_written _) rfl)) ?_
 refine wpdR_mv (a := (.fptr (c_api_Event x1) 2)) rfl rfl rfl (o_c tk false rfl (fun _ => rfl)) ?_
 refine wpdR_mv (a := (.fptr (c_api_Event x1) 3)) rfl rfl rfl (o_c tk false rfl (fun _ => rfl)) ?_
 refine wpdR_mv (a := (eI x1.X.Version)) rfl rfl rfl (o_ld tk rfl rfl) ?_
 refine wpdR_bdrp H (fun r => .tup [e_api_Event r.1, eB r.2]) rfl (by decide +kernel) rfl rfl (fun v2 hv σ hF => h_look2 tk (Holds.one hF.1) 0 hv rfl ek46 mz46 td46 rfl rfl) fun v2 hv2 H1 => ?_
 refine wpdR_mv (a := (.tup [(e_api_Event v2.1), (eB v2.2)])) rfl rfl rfl (o_mv tk rfl (Wk.refl _)) ?_
 refine wpdR_mv (a := (e_api_Event v2.1)) rfl rfl rfl (o_ext tk rfl rfl) ?_
 refine wpdR_mv (a := (eB v2.2)) rfl rfl rfl (o_ext tk rfl rfl) ?_
 refine wpdR_a (av := fun id => .ref id 0) rfl rfl rfl (h_allocw tk hH ty32 (c_api_Event z_api_Event) (.cons wr (.cons wr (.cons wr (.cons wr (.cons wr (.cons wr (.cons (by exact wk_nils _) (.cons wr .nil))))))))) fun id3 τ ⟨hH, n4⟩ => ⟨fun _ => ⟨hH.at_ 2 rfl, hH.at_ 1 rfl⟩, ?_⟩
 obtain ⟨c6, hc7, H5⟩ := lt_ex H1
 refine wpdR_z rfl rfl rfl (h_st tk hH 0 rfl ty32 (by simp) rfl rfl wr (b := (e_api_Event v2.1)) (enc32.flat _) rfl (nb rfl) (c_api_Event c6) (by rw [← hc7]; rfl)) fun τ hH => ⟨fun h => absurd h (by decide +kernel), ?_⟩
 refine wpdR_mv (a := (eB v2.2)) rfl rfl rfl (o_as tk rfl (Wk.refl _)) ?_
 refine wpdR_nil ?_
 refine sr rfl (mc tk (.fptr (c_api_Event x1) 1) rfl rfl (fun _ => rfl) (m_ (eI x1.Node) rfl (o_ld tk rfl rfl) (mc tk (.fptr (c_api_Event x1) 2) rfl rfl (fun _ => rfl) (mc tk (.fptr (c_api_Event x1) 2) rfl rfl (fun _ => rfl) (m_ (eS x1.X.Key) rfl (o_ld tk rfl rfl) ?_)))))
 refine l_ H5 e_judge_spot rfl (o_c tk false rfl (fun _ => rfl)) fun v9 H8 => ?_
 refine wpo_a (av := fun id => .ref id 0) rfl rfl rfl (h_alloc tk hH ty64 (c_judge_spot z_judge_spot) rfl) fun id10 τ ⟨hH, n11⟩ => ?_
 obtain ⟨c13, hc14, H12⟩ := lt_ex H8
 refine wpo_z rfl rfl (h_st tk hH 0 rfl ty64 (by simp) rfl rfl wr (b := (e_judge_spot v9)) (enc64.flat _) rfl (nb rfl) (c_judge_spot c13) (by rw [← hc14]; rfl)) fun τ hH => ?_
 refine wpo_nil (awp_seq ?_)
 refine awp_drawS mixed [] rfl (by decide +kernel) rfl rfl ?_
 refine wpdS_mv (a := (.ref p0 0)) rfl rfl rfl (o_mv tk rfl (Wk.refl _)) (wpdS_mv (a := (.ref p0 0)) rfl rfl rfl (o_c tk false rfl (fun _ => rfl)) (wpdS_mv (a := (.ref p0 3)) rfl rfl rfl (o_c tk false rfl (fun _ => rfl)) (wpdS_rd (a := (.mapr p0_served)) rfl (by decide +kernel) rfl rfl (h_ld tk hH 2 rfl (g_judge_Judge_served _) rfl) (wpdS_rd (a := (e_judge_spot c13)) rfl (by decide +kernel) rfl rfl (h_ld tk hH 0 rfl rfl rfl) ?_))))
 refine wpdS_bdr H12 eI rfl (by decide +kernel) rfl rfl (fun v16 hv => h_look tk hH 5 hv rfl ek48 mz48 td48 rfl rfl) fun v16 hv16 H15 => ?_
 refine wpdS_mv (a := (eI v16)) rfl rfl rfl (o_as tk rfl (Wk.refl _)) (wpdS_nil (awp_seq ?_))
 refine awp_drawS mixed [10] rfl (by decide +kernel) rfl rfl ?_
 refine wpdS_mv (a := (.ref p0 0)) rfl rfl rfl (o_mv tk rfl (Wk.refl _)) (wpdS_mv (a := (.ref p0 0)) rfl rfl rfl (o_c tk false rfl (fun _ => rfl)) (wpdS_mv (a := (.ref p0 3)) rfl rfl rfl (o_c tk false rfl (fun _ => rfl)) (wpdS_rd (a := (.mapr p0_served)) rfl (by decide +kernel) rfl rfl (h_ld tk hH 2 rfl (g_judge_Judge_served _) rfl) (wpdS_rd (a := (e_judge_spot c13)) rfl (by decide +kernel) rfl rfl (h_ld tk hH 0 rfl rfl rfl) (wpdS_mv (a := (eI v16)) rfl rfl rfl (o_mv tk rfl (Wk.refl _)) (wpdS_mv (a := (.fptr (c_api_Event x1) 2)) rfl rfl rfl (o_c tk false rfl (fun _ => rfl)) (wpdS_mv (a := (.fptr (c_api_Event x1) 3)) rfl rfl rfl (o_c tk false rfl (fun _ => rfl)) (wpdS_mv (a := (eI x1.X.Version)) rfl rfl rfl (o_ld tk rfl rfl) ?_))))))))
 refine wpdS_lt H15 eI rfl rfl rfl (o_max tk rfl rfl) fun v18 H17 => ?_
 obtain ⟨c20, hc21, H19⟩ := lt_ex H17
 refine wpdS_z rfl rfl rfl (h_setM tk hH 5 hc21 rfl ek48 td48 rfl rfl rfl wr) fun τ hH => ?_
 refine wpdS_nil (awp_seq (awp_block (awp_seq ?_)))
 obtain ⟨s22, hs24, hj25⟩ := ob H19
 refine awp_cutn (fun fr τ => WkF fr (fm [(0, (.ref p0 0)), (3, (.fptr (c_api_Event x1) 0)), (8, (eI v16)), (42, (eB s22))]) ∧ Holds σ [(id10, (c_judge_spot c13)), (id3, (c_api_Event c6)), (p0, (c_judge_Judge p0_written p0_done p0_served p0_open_ x0)), (p0_written, (cM eI e_api_Event x0.written)), (p0_done, (cM eS eI x0.done)), (p0_served, (cM e_judge_spot eI c20)), (p0_open_, (cM eI eI x0.open_))] [] τ) ?_ ?_
 ·rintro fr τ ⟨hfr, hH⟩
  have H37 := hj25
  refine AWP.fm [(0, (.ref p0 0)), (3, (.fptr (c_api_Event x1) 0)), (8, (eI v16)), (42, (eB s22))] hfr ?_
  refine awp_if H37 rfl (fun H38 => ?_) (fun H38 => ?_)
  ·refine sr rfl (ma tk (eI (1 : Int)) rfl rfl (wpo_nil (awp_ret ?_)))
   obtain rfl := oi H38
   exact ⟨_, (eI (1 : Int)), rfl, wr, .of_eq ((enc_i64 td3 sz3).cut _ _ _), ((hH.noT.drop n11).drop n4)⟩
  ·refine awp_seq ?_
   refine awp_drawS mixed [] rfl (by decide +kernel) rfl rfl ?_
   refine wpdS_mv (a := (.fptr (c_api_Event x1) 2)) rfl rfl rfl (o_c tk false rfl (fun _ => rfl)) (wpdS_mv (a := (.fptr (c_api_Event x1) 3)) rfl rfl rfl (o_c tk false rfl (fun _ => rfl)) (wpdS_mv (a := (eI x1.X.Version)) rfl rfl rfl (o_ld tk rfl rfl) (wpdS_mv (a := (.ref p0 0)) rfl rfl rfl (o_mv tk rfl (Wk.refl _)) (wpdS_mv (a := (.ref p0 0)) rfl rfl rfl (o_c tk false rfl (fun _ => rfl)) (wpdS_mv (a := (.ref p0 2)) rfl rfl rfl (o_c tk false rfl (fun _ => rfl)) (wpdS_rd (a := (.mapr p0_done)) rfl (by decide +kernel) rfl rfl (h_ld tk hH 2 rfl (g_judge_Judge_done _) rfl) (wpdS_mv (a := (.fptr (c_api_Event x1) 2)) rfl rfl rfl (o_c tk false rfl (fun _ => rfl)) (wpdS_mv (a := (.fptr (c_api_Event x1) 2)) rfl rfl rfl (o_c tk false rfl (fun _ => rfl)) ?_))))))))
   refine wpdS_mv (a := (eS x1.X.Key)) rfl rfl rfl (o_ld tk rfl rfl) ?_
   refine wpdS_bdr H38 eI rfl (by decide +kernel) rfl rfl (fun v40 hv => h_look tk hH 4 hv rfl ek47 mz47 td47 rfl rfl) fun v40 hv40 H39 => ?_
   refine wpdS_lt H39 eB rfl rfl rfl (o_ar tk rfl rfl rfl) fun v42 H41 => ?_
   refine wpdS_mv (a := (eB v42)) rfl rfl rfl (o_as tk rfl (Wk.refl _)) (wpdS_nil ?_)
   refine awp_if H41 rfl (fun H43 => ?_) (fun H43 => ?_)
   ·refine sr rfl (ma tk (eI (2 : Int)) rfl rfl (wpo_nil (awp_ret ?_)))
    obtain rfl := oi H43
    exact ⟨_, (eI (2 : Int)), rfl, wr, .of_eq ((enc_i64 td3 sz3).cut _ _ _), ((hH.noT.drop n11).drop n4)⟩
   ·refine sr rfl (mc tk (.fptr (c_api_Event x1) 2) rfl rfl (fun _ => rfl) (mc tk (.fptr (c_api_Event x1) 3) rfl rfl (fun _ => rfl) (m_ (eI x1.X.Version) rfl (o_ld tk rfl rfl) (mm tk (eI v16) rfl rfl ?_))))
    refine l_ H43 eB rfl (o_ar tk rfl rfl rfl) fun v45 H44 => ?_
    refine ma tk (eB v45) rfl rfl (wpo_nil ?_)
    refine awp_if H44 rfl (fun H46 => ?_) (fun H46 => ?_)
    ·refine sr rfl (ma tk (eI (3 : Int)) rfl rfl (wpo_nil (awp_ret ?_)))
     obtain rfl := oi H46
     exact ⟨_, (eI (3 : Int)), rfl, wr, .of_eq ((enc_i64 td3 sz3).cut _ _ _), ((hH.noT.drop n11).drop n4)⟩
    ·refine awp_skip (sr rfl (ma tk (eI (0 : Int)) rfl rfl (wpo_nil (awp_ret ?_))))
     obtain rfl := oi H46
     exact ⟨_, (eI (0 : Int)), rfl, wr, .of_eq ((enc_i64 td3 sz3).cut _ _ _), ((hH.noT.drop n11).drop n4)⟩
 ·refine awp_region rfl (mm tk (eB v2.2) rfl rfl ?_)
  refine l_ hs24 eB rfl (o_un tk rfl rfl) fun v27 H26 => ?_
  refine mm tk (eB v27) rfl rfl ?_
  refine if_split H26 (fun hb H28 => ?_) (fun hb H28 => ?_)
  ·subst hb
   refine k_ rfl (k_ rfl (k_ rfl (pt tk (eB true) rfl rfl rfl (mm tk (eB true) rfl rfl (k_ rfl (k_ rfl (k_ rfl (k_ rfl ?_))))))))
   refine k_ rfl (k_ rfl (k_ rfl (pt tk (eB true) rfl rfl rfl (mm tk (eB true) rfl rfl (k_ rfl (k_ rfl (k_ rfl (k_ rfl ?_))))))))
   refine k_ rfl (k_ rfl (k_ rfl (k_ rfl (k_ rfl (pt tk (eB true) rfl rfl rfl (ma tk (eB true) rfl rfl (wpo_nil ?_)))))))
   have e := oi H28
   subst e
   exact ⟨(wc (wc (wc (wc (wkf_nil _))))), hH⟩
  ·subst hb
   refine mc tk (.ref id3 7) rfl rfl (fun _ => rfl) (wpo_rd (a := (eB c6.Found)) rfl rfl rfl (h_ld tk hH 1 rfl rfl rfl) ?_)
   refine l_ H28 eB rfl (o_un tk rfl rfl) fun v30 H29 => ?_
   refine pf tk (eB v30) rfl rfl rfl (mm tk (eB v30) rfl rfl ?_)
   refine if_split H29 (fun hb H31 => ?_) (fun hb H31 => ?_)
   ·subst hb
    refine k_ rfl (k_ rfl (k_ rfl (k_ rfl (k_ rfl (k_ rfl (k_ rfl (pt tk (eB true) rfl rfl rfl (mm tk (eB true) rfl rfl ?_))))))))
    refine k_ rfl (k_ rfl (k_ rfl (k_ rfl (k_ rfl (k_ rfl (k_ rfl (k_ rfl (k_ rfl ?_))))))))
    refine pt tk (eB true) rfl rfl rfl (ma tk (eB true) rfl rfl (wpo_nil ?_))
    have e := oi H31
    subst e
    exact ⟨(wc (wc (wc (wc (wkf_nil _))))), hH⟩
   ·subst hb
    refine mc tk (.ref id3 2) rfl rfl (fun _ => rfl) (mc tk (.ref id3 2) rfl rfl (fun _ => rfl) (wpo_rd (a := (eS c6.X.Key)) rfl rfl rfl (h_ld tk hH 1 rfl rfl rfl) (mc tk (.fptr (c_api_Event x1) 2) rfl rfl (fun _ => rfl) (mc tk (.fptr (c_api_Event x1) 2) rfl rfl (fun _ => rfl) (m_ (eS x1.X.Key) rfl (o_ld tk rfl rfl) ?_)))))
    refine l_ H31 eB rfl (o_neq_s tk rfl rfl) fun v33 H32 => ?_
    refine pf tk (eB v33) rfl rfl rfl (mm tk (eB v33) rfl rfl ?_)
    refine if_split H32 (fun hb H34 => ?_) (fun hb H34 => ?_)
    ·subst hb
     refine k_ rfl (k_ rfl (k_ rfl (k_ rfl (k_ rfl (k_ rfl (k_ rfl (k_ rfl (k_ rfl ?_))))))))
     refine pt tk (eB true) rfl rfl rfl (ma tk (eB true) rfl rfl (wpo_nil ?_))
     have e := oi H34
     subst e
     exact ⟨(wc (wc (wc (wc (wkf_nil _))))), hH⟩
    ·subst hb
     refine mc tk (.ref id3 2) rfl rfl (fun _ => rfl) (mc tk (.ref id3 6) rfl rfl (fun _ => rfl) (wpo_rd (a := ((eL 1 (@eU .u8 8)) c6.X.Value)) rfl rfl rfl (h_ld tk hH 1 rfl rfl rfl) (m_ (eS c6.X.Value) rfl (o_b2s tk td28 td9 td5 rfl) (mc tk (.fptr (c_api_Event x1) 2) rfl rfl (fun _ => rfl) (mc tk (.fptr (c_api_Event x1) 6) rfl rfl (fun _ => rfl) (m_ ((eL 1 (@eU .u8 8)) x1.X.Value) rfl (o_ld tk rfl rfl) (m_ (eS x1.X.Value) rfl (o_b2s tk td28 td9 td5 rfl) ?_)))))))
     refine l_ H34 eB rfl (o_neq_s tk rfl rfl) fun v36 H35 => ?_
     refine pf tk (eB v36) rfl rfl rfl (ma tk (eB v36) rfl rfl (wpo_nil ?_))
     have e := oi H35
     subst e
     exact ⟨(wc (wc (wc (wc (wkf_nil _))))), hH⟩
theorem judge_Judge_Tell_ok {x0 : judge_Judge} {x1 : api_Event} {r : Int × judge_Judge} (H : judge_Judge_Tell x0 x1 = some r) (σ : St) {p0 p0_written p0_done p0_served p0_open_ : Nat} (h0 : σ.objs[p0]? = some (c_judge_Judge p0_written p0_done p0_served p0_open_ x0)) (h0_written : σ.objs[p0_written]? = some (cM eI e_api_Event x0.written)) (h0_done : σ.objs[p0_done]? = some (cM eS eI x0.done)) (h0_served : σ.objs[p0_served]? = some (cM e_judge_spot eI x0.served)) (h0_open_ : σ.objs[p0_open_]? = some (cM eI eI x0.open_)) (hd : [p0, p0_written, p0_done, p0_served, p0_open_].Pairwise fun a b => a ≠ b) : ACall Tryd.prog 9 [(.ref p0 0), (e_api_Event x1)] σ (fun a τ => a = eI r.1 ∧ τ = σ.puts [(p0, (c_judge_Judge p0_written p0_done p0_served p0_open_ r.2)), (p0_written, (cM eI e_api_Event r.2.written)), (p0_done, (cM eS eI r.2.done)), (p0_served, (cM e_judge_spot eI r.2.served)), (p0_open_, (cM eI eI r.2.open_))]) := by
 unfold judge_Judge_Tell at H
 refine ACall.outB [(p0, (c_judge_Judge p0_written p0_done p0_served p0_open_ r.2)), (p0_written, (cM eI e_api_Event r.2.written)), (p0_done, (cM eS eI r.2.done)), (p0_served, (cM e_judge_spot eI r.2.served)), (p0_open_, (cM eI eI r.2.open_))] (by simp only [List.mem_cons, List.not_mem_nil, or_false]; rintro _ (rfl | rfl | rfl | rfl | rfl) <;> first | exact c_judge_Judge_cut (cut_mapr_id (idl_get h0_written)) (cut_mapr_id (idl_get h0_done)) (cut_mapr_id (idl_get h0_served)) (cut_mapr_id (idl_get h0_open_)) _ | exact cM_cut (fun ρ κ x => (enc_i64 td3 sz3).cut ρ κ x) (fun ρ κ x => enc32.cut ρ κ x) _ _ _ | exact cM_cut (fun ρ κ x => (enc_s td9 sz9).cut ρ κ x) (fun ρ κ x => (enc_i64 td3 sz3).cut ρ κ x) _ _ _ | exact cM_cut (fun ρ κ x => enc64.cut ρ κ x) (fun ρ κ x => (enc_i64 td3 sz3).cut ρ κ x) _ _ _ | exact cM_cut (fun ρ κ x => (enc_i64 td3 sz3).cut ρ κ x) (fun ρ κ x => (enc_i64 td3 sz3).cut ρ κ x) _ _ _) (acall_start tk Tryd.func9 (by decide) rfl (nb rfl) ?_)
 have hH := Holds.brings (σ := σ) [(p0, (c_judge_Judge p0_written p0_done p0_served p0_open_ x0)), (p0_written, (cM eI e_api_Event x0.written)), (p0_done, (cM eS eI x0.done)), (p0_served, (cM e_judge_spot eI x0.served)), (p0_open_, (cM eI eI x0.open_))] (by simp only [List.mem_cons, List.not_mem_nil, or_false]; rintro _ (rfl | rfl | rfl | rfl | rfl) <;> assumption) hd
 refine sr rfl (m_ (.fptr (c_api_Event x1) 0) rfl (o_boxf tk rfl wr (b := (e_api_Event x1)) (enc32.flat _)) (ma tk (eI (0 : Int)) rfl rfl (wpo_nil (sr rfl (mm tk (.ref p0 0) rfl rfl (mc tk (.ref p0 0) rfl rfl (fun _ => rfl) (mc tk (.ref p0 0) rfl rfl (fun _ => rfl) (wpo_rd (a := (eI x0.n)) rfl rfl rfl (h_ld tk hH 0 rfl (g_judge_Judge_n _) rfl) ?_))))))))
 refine l_ H eI rfl (o_ar tk rfl rfl rfl) fun v2 H1 => ?_
 refine mc tk (.ref p0 0) rfl rfl (fun _ => rfl) (mc tk (.ref p0 0) rfl rfl (fun _ => rfl) ?_)
 obtain ⟨c4, hc5, H3⟩ := lt_ex H1
 refine wpo_z rfl rfl (h_st tk hH 0 rfl ty3 (by simp) rfl rfl wr (b := (eI v2)) rfl rfl (by rw [cl_judge_Judge]; decide) (c_judge_Judge p0_written p0_done p0_served p0_open_ c4) (by rw [← hc5]; exact s_judge_Judge_n _ _)) fun τ hH => ?_
 refine wpo_nil (awp_seq (awp_seq ?_))
 obtain ⟨s6, hs8, hj9⟩ := ob H3
 refine awp_cutn (fun fr τ => WkF fr (fm [(0, (.ref p0 0)), (3, (.fptr (c_api_Event x1) 0)), (23, (eB s6))]) ∧ Holds σ [(p0, (c_judge_Judge p0_written p0_done p0_served p0_open_ c4)), (p0_written, (cM eI e_api_Event x0.written)), (p0_done, (cM eS eI x0.done)), (p0_served, (cM e_judge_spot eI x0.served)), (p0_open_, (cM eI eI x0.open_))] [] τ) ?_ ?_
 ·rintro fr τ ⟨hfr, hH⟩
  have H15 := hj9
  refine AWP.fm [(0, (.ref p0 0)), (3, (.fptr (c_api_Event x1) 0)), (23, (eB s6))] hfr ?_
  obtain ⟨s16, hs18, hj19⟩ := ob H15
  refine awp_cutn (fun fr τ => WkF fr (fm [(0, (.ref p0 0)), (3, (.fptr (c_api_Event x1) 0))]) ∧ Holds σ [(p0, (c_judge_Judge p0_written p0_done p0_served p0_open_ s16)), (p0_written, (cM eI e_api_Event x0.written)), (p0_done, (cM eS eI x0.done)), (p0_served, (cM e_judge_spot eI x0.served)), (p0_open_, (cM eI eI x0.open_))] [] τ) ?_ ?_
  ·rintro fr τ ⟨hfr, hH⟩
   have H35 := hj19
   refine AWP.fm [(0, (.ref p0 0)), (3, (.fptr (c_api_Event x1) 0))] hfr ?_
   refine awp_seq (sr rfl (mc tk (.fptr (c_api_Event x1) 0) rfl rfl (fun _ => rfl) (m_ (eI x1.Kind) rfl (o_ld tk rfl rfl) (wpo_nil (awp_block (sr rfl ?_))))))
   refine l_ H35 eB rfl (o_ar tk rfl rfl rfl) fun v37 H36 => ?_
   refine ma tk (eB v37) rfl rfl (wpo_nil ?_)
   refine awp_if H36 rfl (fun H38 => ?_) (fun H38 => ?_)
   ·refine sr rfl (mm tk (.ref p0 0) rfl rfl (m_ (e_api_Event x1) rfl (o_ld tk rfl rfl) ?_))
    refine wpo_cb H38 (fun x _ => eI x.1) rfl rfl rfl (fun v40 hv => h_call1 hH [(0, (p0, (c_judge_Judge p0_written p0_done p0_served p0_open_ v40.2))), (1, (p0_written, (cM eI e_api_Event v40.2.written))), (2, (p0_done, (cM eS eI v40.2.done))), (3, (p0_served, (cM e_judge_spot eI v40.2.served))), (4, (p0_open_, (cM eI eI v40.2.open_)))] ⟨⟨_, rfl⟩, ⟨⟨_, rfl⟩, ⟨⟨_, rfl⟩, ⟨⟨_, rfl⟩, ⟨⟨_, rfl⟩, trivial⟩⟩⟩⟩⟩ rfl rfl (.cons wr (.cons wr .nil)) (judge_Judge_hit_ok hv _ (hH.at_ 0 rfl) (hH.at_ 1 rfl) (hH.at_ 2 rfl) (hH.at_ 3 rfl) (hH.at_ 4 rfl) (hH.pw [0, 1, 2, 3, 4] rfl (by decide)))) fun v40 _ τ hv40 H39 (hH : Holds σ [(p0, (c_judge_Judge p0_written p0_done p0_served p0_open_ v40.2)), (p0_written, (cM eI e_api_Event v40.2.written)), (p0_done, (cM eS eI v40.2.done)), (p0_served, (cM e_judge_spot eI v40.2.served)), (p0_open_, (cM eI eI v40.2.open_))] [] τ) => ?_
    refine ma tk (eI v40.1) rfl rfl (wpo_nil (awp_ret ?_))
    obtain rfl := oi H39
    exact ⟨_, (eI v40.1), rfl, wr, .of_eq ((enc_i64 td3 sz3).cut _ _ _), hH.noT⟩
   ·refine sr rfl ?_
    refine l_ H38 eB rfl (o_ar tk rfl rfl rfl) fun v42 H41 => ?_
    refine ma tk (eB v42) rfl rfl (wpo_nil ?_)
    refine awp_if H41 rfl (fun H43 => ?_) (fun H43 => ?_)
    ·refine awp_seq ?_
     refine awp_drawS mixed [8] rfl (by decide +kernel) rfl rfl ?_
     refine wpdS_mv (a := (.ref p0 0)) rfl rfl rfl (o_mv tk rfl (Wk.refl _)) (wpdS_mv (a := (.ref p0 0)) rfl rfl rfl (o_c tk false rfl (fun _ => rfl)) (wpdS_mv (a := (.ref p0 1)) rfl rfl rfl (o_c tk false rfl (fun _ => rfl)) (wpdS_rd (a := (.mapr p0_written)) rfl (by decide +kernel) rfl rfl (h_ld tk hH 0 rfl (g_judge_Judge_written _) rfl) (wpdS_mv (a := (.fptr (c_api_Event x1) 2)) rfl rfl rfl (o_c tk false rfl (fun _ => rfl)) (wpdS_mv (a := (.fptr (c_api_Event x1) 3)) rfl rfl rfl (o_c tk false rfl (fun _ => rfl)) (wpdS_mv (a := (eI x1.X.Version)) rfl rfl rfl (o_ld tk rfl rfl) (wpdS_mv (a := (e_api_Event x1)) rfl rfl rfl (o_ld tk rfl rfl) ?_)))))))
     obtain ⟨c45, hc46, H44⟩ := lt_ex H43
     refine wpdS_z rfl rfl rfl (h_setM tk hH 1 hc46 rfl ek46 td46 rfl rfl rfl wr) fun τ hH => ?_
     refine wpdS_nil ?_
     refine awp_drawS mixed [11] rfl (by decide +kernel) rfl rfl ?_
     refine wpdS_mv (a := (.ref p0 0)) rfl rfl rfl (o_mv tk rfl (Wk.refl _)) (wpdS_mv (a := (.ref p0 0)) rfl rfl rfl (o_c tk false rfl (fun _ => rfl)) (wpdS_mv (a := (.ref p0 4)) rfl rfl rfl (o_c tk false rfl (fun _ => rfl)) (wpdS_rd (a := (.mapr p0_open_)) rfl (by decide +kernel) rfl rfl (h_ld tk hH 0 rfl (g_judge_Judge_open_ _) rfl) (wpdS_mv (a := (.fptr (c_api_Event x1) 2)) rfl rfl rfl (o_c tk false rfl (fun _ => rfl)) (wpdS_mv (a := (.fptr (c_api_Event x1) 3)) rfl rfl rfl (o_c tk false rfl (fun _ => rfl)) (wpdS_mv (a := (eI x1.X.Version)) rfl rfl rfl (o_ld tk rfl rfl) (wpdS_mv (a := (.ref p0 0)) rfl rfl rfl (o_mv tk rfl (Wk.refl _)) (wpdS_mv (a := (.ref p0 0)) rfl rfl rfl (o_c tk false rfl (fun _ => rfl)) ?_))))))))
     refine wpdS_mv (a := (.ref p0 0)) rfl rfl rfl (o_c tk false rfl (fun _ => rfl)) (wpdS_rd (a := (eI s16.n)) rfl (by decide +kernel) rfl rfl (h_ld tk hH 0 rfl (g_judge_Judge_n _) rfl) ?_)
     obtain ⟨c48, hc49, H47⟩ := lt_ex H44
     refine wpdS_z rfl rfl rfl (h_setM tk hH 4 hc49 rfl ek49 td49 rfl rfl rfl wr) fun τ hH => ?_
     refine wpdS_nil (sr rfl (ma tk (eI (0 : Int)) rfl rfl (wpo_nil (awp_ret ?_))))
     obtain rfl := oi H47
     exact ⟨_, (eI (0 : Int)), rfl, wr, .of_eq ((enc_i64 td3 sz3).cut _ _ _), hH.noT⟩
    ·refine sr rfl ?_
     refine l_ H43 eB rfl (o_ar tk rfl rfl rfl) fun v51 H50 => ?_
     refine ma tk (eB v51) rfl rfl (wpo_nil ?_)
     refine awp_if H50 rfl (fun H52 => ?_) (fun H52 => ?_)
     ·refine awp_seq ?_
      refine awp_drawR mixed [11, 12] rfl (by decide +kernel) rfl rfl (fun σ => σ.objs[p0_written]? = some (cM eI e_api_Event x0.written) ∧ σ.objs[p0]? = some (c_judge_Judge p0_written p0_done p0_served p0_open_ s16)) 1 ⟨hH.at_ 1 rfl, hH.at_ 0 rfl⟩ ?_
      refine wpdR_mv (a := (.ref p0 0)) rfl rfl rfl (o_mv tk rfl (Wk.refl _)) ?_
      refine wpdR_mv (a := (.ref p0 0)) rfl rfl rfl (o_c tk false rfl (fun _ => rfl)) ?_
      refine wpdR_mv (a := (.ref p0 1)) rfl rfl rfl (o_c tk false rfl (fun _ => rfl)) ?_
      refine wpdR_rdp (a := (.mapr p0_written)) rfl (by decide +kernel) rfl rfl (fun σ hF => (h_ld tk (Holds.one hF.2) 0 rfl (g_judge_Judge_written _) rfl)) ?_
      refine wpdR_mv (a := (.fptr (c_api_Event x1) 2)) rfl rfl rfl (o_c tk false rfl (fun _ => rfl)) ?_
      refine wpdR_mv (a := (.fptr (c_api_Event x1) 3)) rfl rfl rfl (o_c tk false rfl (fun _ => rfl)) ?_
      refine wpdR_mv (a := (eI x1.X.Version)) rfl rfl rfl (o_ld tk rfl rfl) ?_
      refine wpdR_bdrp H52 (fun r => .tup [e_api_Event r.1, eB r.2]) rfl (by decide +kernel) rfl rfl (fun v54 hv σ hF => h_look2 tk (Holds.one hF.1) 0 hv rfl ek46 mz46 td46 rfl rfl) fun v54 hv54 H53 => ?_
      refine wpdR_mv (a := (.tup [(e_api_Event v54.1), (eB v54.2)])) rfl rfl rfl (o_mv tk rfl (Wk.refl _)) ?_
      refine wpdR_mv (a := (e_api_Event v54.1)) rfl rfl rfl (o_ext tk rfl rfl) ?_
      refine wpdR_mv (a := (eB v54.2)) rfl rfl rfl (o_ext tk rfl rfl) ?_
      refine wpdR_a (av := fun id => .ref id 0) rfl rfl rfl (h_allocw tk hH ty32 (c_api_Event z_api_Event) (.cons wr (.cons wr (.cons wr (.cons wr (.cons wr (.cons wr (.cons (by exact wk_nils _) (.cons wr .nil))))))))) fun id55 τ ⟨hH, n56⟩ => ⟨fun _ => ⟨hH.at_ 2 rfl, hH.at_ 1 rfl⟩, ?_⟩
      obtain ⟨c58, hc59, H57⟩ := lt_ex H53
      refine wpdR_z rfl rfl rfl (h_st tk hH 0 rfl ty32 (by simp) rfl rfl wr (b := (e_api_Event v54.1)) (enc32.flat _) rfl (nb rfl) (c_api_Event c58) (by rw [← hc59]; rfl)) fun τ hH => ⟨fun h => absurd h (by decide +kernel), ?_⟩
      refine wpdR_mv (a := (eB v54.2)) rfl rfl rfl (o_as tk rfl (Wk.refl _)) ?_
      refine wpdR_nil ?_
      refine awp_seq (awp_seq ?_)
      refine awp_drawS mixed [] rfl (by decide +kernel) rfl rfl ?_
      refine wpdS_mv (a := (.ref p0 0)) rfl rfl rfl (o_mv tk rfl (Wk.refl _)) (wpdS_mv (a := (.ref p0 0)) rfl rfl rfl (o_c tk false rfl (fun _ => rfl)) (wpdS_mv (a := (.ref p0 4)) rfl rfl rfl (o_c tk false rfl (fun _ => rfl)) (wpdS_rd (a := (.mapr p0_open_)) rfl (by decide +kernel) rfl rfl (h_ld tk hH 1 rfl (g_judge_Judge_open_ _) rfl) (wpdS_mv (a := (.fptr (c_api_Event x1) 2)) rfl rfl rfl (o_c tk false rfl (fun _ => rfl)) (wpdS_mv (a := (.fptr (c_api_Event x1) 3)) rfl rfl rfl (o_c tk false rfl (fun _ => rfl)) (wpdS_mv (a := (eI x1.X.Version)) rfl rfl rfl (o_ld tk rfl rfl) ?_))))))
      refine wpdS_bdr H57 (fun r => .tup [eI r.1, eB r.2]) rfl (by decide +kernel) rfl rfl (fun v61 hv => h_look2 tk hH 5 hv rfl ek49 mz49 td49 rfl rfl) fun v61 hv61 H60 => ?_
      refine wpdS_mv (a := (.tup [(eI v61.1), (eB v61.2)])) rfl rfl rfl (o_mv tk rfl (Wk.refl _)) (wpdS_mv (a := (eI v61.1)) rfl rfl rfl (o_ext tk rfl rfl) (wpdS_mv (a := (eB v61.2)) rfl rfl rfl (o_ext tk rfl rfl) (wpdS_mv (a := (eI v61.1)) rfl rfl rfl (o_as tk rfl (Wk.refl _)) (wpdS_mv (a := (eB v61.2)) rfl rfl rfl (o_as tk rfl (Wk.refl _)) (wpdS_nil (awp_seq ?_))))))
      obtain ⟨s62, hs64, hj65⟩ := ob H60
      refine awp_cutn (fun fr τ => WkF fr (fm [(0, (.ref p0 0)), (3, (.fptr (c_api_Event x1) 0)), (5, (.ref id55 0)), (92, (eB s62))]) ∧ Holds σ [(id55, (c_api_Event c58)), (p0, (c_judge_Judge p0_written p0_done p0_served p0_open_ s16)), (p0_written, (cM eI e_api_Event x0.written)), (p0_done, (cM eS eI x0.done)), (p0_served, (cM e_judge_spot eI x0.served)), (p0_open_, (cM eI eI x0.open_))] [] τ) ?_ ?_
      ·rintro fr τ ⟨hfr, hH⟩
       have H71 := hj65
       refine AWP.fm [(0, (.ref p0 0)), (3, (.fptr (c_api_Event x1) 0)), (5, (.ref id55 0)), (92, (eB s62))] hfr ?_
       refine awp_if H71 rfl (fun H72 => ?_) (fun H72 => ?_)
       ·refine sr rfl (ma tk (eI (4 : Int)) rfl rfl (wpo_nil (awp_ret ?_)))
        obtain rfl := oi H72
        exact ⟨_, (eI (4 : Int)), rfl, wr, .of_eq ((enc_i64 td3 sz3).cut _ _ _), (hH.noT.drop n56)⟩
       ·refine awp_skip (awp_seq ?_)
        refine awp_drawS mixed [7] rfl (by decide +kernel) rfl rfl ?_
        refine wpdS_mv (a := (.ref p0 0)) rfl rfl rfl (o_mv tk rfl (Wk.refl _)) (wpdS_mv (a := (.ref p0 0)) rfl rfl rfl (o_c tk false rfl (fun _ => rfl)) (wpdS_mv (a := (.ref p0 4)) rfl rfl rfl (o_c tk false rfl (fun _ => rfl)) (wpdS_rd (a := (.mapr p0_open_)) rfl (by decide +kernel) rfl rfl (h_ld tk hH 1 rfl (g_judge_Judge_open_ _) rfl) (wpdS_mv (a := (.fptr (c_api_Event x1) 2)) rfl rfl rfl (o_c tk false rfl (fun _ => rfl)) (wpdS_mv (a := (.fptr (c_api_Event x1) 3)) rfl rfl rfl (o_c tk false rfl (fun _ => rfl)) (wpdS_mv (a := (eI x1.X.Version)) rfl rfl rfl (o_ld tk rfl rfl) ?_))))))
        obtain ⟨c74, hc75, H73⟩ := lt_ex H72
        refine wpdS_z rfl rfl rfl (h_delM tk hH 5 hc75 rfl ek49 td49 rfl rfl) fun τ hH => ?_
        refine wpdS_nil ?_
        refine awp_drawS mixed [19] rfl (by decide +kernel) rfl rfl ?_
        refine wpdS_mv (a := (.ref p0 0)) rfl rfl rfl (o_mv tk rfl (Wk.refl _)) (wpdS_mv (a := (.ref p0 0)) rfl rfl rfl (o_c tk false rfl (fun _ => rfl)) (wpdS_mv (a := (.ref p0 2)) rfl rfl rfl (o_c tk false rfl (fun _ => rfl)) (wpdS_rd (a := (.mapr p0_done)) rfl (by decide +kernel) rfl rfl (h_ld tk hH 1 rfl (g_judge_Judge_done _) rfl) (wpdS_mv (a := (.ref id55 2)) rfl rfl rfl (o_c tk false rfl (fun _ => rfl)) (wpdS_mv (a := (.ref id55 2)) rfl rfl rfl (o_c tk false rfl (fun _ => rfl)) (wpdS_rd (a := (eS c58.X.Key)) rfl (by decide +kernel) rfl rfl (h_ld tk hH 0 rfl rfl rfl) (wpdS_mv (a := (.ref p0 0)) rfl rfl rfl (o_mv tk rfl (Wk.refl _)) (wpdS_mv (a := (.ref p0 0)) rfl rfl rfl (o_c tk false rfl (fun _ => rfl)) ?_))))))))
        refine wpdS_mv (a := (.ref p0 2)) rfl rfl rfl (o_c tk false rfl (fun _ => rfl)) (wpdS_rd (a := (.mapr p0_done)) rfl (by decide +kernel) rfl rfl (h_ld tk hH 1 rfl (g_judge_Judge_done _) rfl) (wpdS_mv (a := (.ref id55 2)) rfl rfl rfl (o_c tk false rfl (fun _ => rfl)) (wpdS_mv (a := (.ref id55 2)) rfl rfl rfl (o_c tk false rfl (fun _ => rfl)) (wpdS_rd (a := (eS c58.X.Key)) rfl (by decide +kernel) rfl rfl (h_ld tk hH 0 rfl rfl rfl) ?_))))
        refine wpdS_bdr H73 eI rfl (by decide +kernel) rfl rfl (fun v77 hv => h_look tk hH 3 hv rfl ek47 mz47 td47 rfl rfl) fun v77 hv77 H76 => ?_
        refine wpdS_mv (a := (.fptr (c_api_Event x1) 2)) rfl rfl rfl (o_c tk false rfl (fun _ => rfl)) (wpdS_mv (a := (.fptr (c_api_Event x1) 3)) rfl rfl rfl (o_c tk false rfl (fun _ => rfl)) (wpdS_mv (a := (eI x1.X.Version)) rfl rfl rfl (o_ld tk rfl rfl) ?_))
        refine wpdS_lt H76 eI rfl rfl rfl (o_max tk rfl rfl) fun v79 H78 => ?_
        obtain ⟨c81, hc82, H80⟩ := lt_ex H78
        refine wpdS_z rfl rfl rfl (h_setM tk hH 3 hc82 rfl ek47 td47 rfl rfl rfl wr) fun τ hH => ?_
        refine wpdS_nil (sr rfl (ma tk (eI (0 : Int)) rfl rfl (wpo_nil (awp_ret ?_))))
        obtain rfl := oi H80
        exact ⟨_, (eI (0 : Int)), rfl, wr, .of_eq ((enc_i64 td3 sz3).cut _ _ _), (hH.noT.drop n56)⟩
      ·refine awp_region rfl (mm tk (eB v54.2) rfl rfl ?_)
       refine l_ hs64 eB rfl (o_un tk rfl rfl) fun v67 H66 => ?_
       refine mm tk (eB v67) rfl rfl ?_
       refine if_split H66 (fun hb H68 => ?_) (fun hb H68 => ?_)
       ·subst hb
        refine k_ rfl (k_ rfl (pt tk (eB true) rfl rfl rfl (wpo_nil ?_)))
        have e := oi H68
        subst e
        exact ⟨(wc (wc (wc (wc (wkf_nil _))))), hH⟩
       ·subst hb
        refine mm tk (eB v61.2) rfl rfl ?_
        refine l_ H68 eB rfl (o_un tk rfl rfl) fun v70 H69 => ?_
        refine pf tk (eB v70) rfl rfl rfl (wpo_nil ?_)
        have e := oi H69
        subst e
        exact ⟨(wc (wc (wc (wc (wkf_nil _))))), hH⟩
     ·refine awp_skip (sr rfl (ma tk (eI (0 : Int)) rfl rfl (wpo_nil (awp_ret ?_))))
      obtain rfl := oi H52
      exact ⟨_, (eI (0 : Int)), rfl, wr, .of_eq ((enc_i64 td3 sz3).cut _ _ _), hH.noT⟩
  ·refine awp_if hs18 rfl (fun H20 => ?_) (fun H20 => ?_)
   ·refine awp_drawS mixed [11] rfl (by decide +kernel) rfl rfl ?_
    refine wpdS_mv (a := (.ref p0 0)) rfl rfl rfl (o_mv tk rfl (Wk.refl _)) (wpdS_mv (a := (.fptr (c_api_Event x1) 0)) rfl rfl rfl (o_c tk false rfl (fun _ => rfl)) (wpdS_mv (a := (eI x1.Kind)) rfl rfl rfl (o_ld tk rfl rfl) (wpdS_mv (a := (.ref p0 0)) rfl rfl rfl (o_c tk false rfl (fun _ => rfl)) (wpdS_mv (a := (.ref p0 5)) rfl rfl rfl (o_c tk false rfl (fun _ => rfl)) ?_))))
    refine wpdS_bd H20 (fun _ => .ref p0 (5 + (x1.Kind : Int).toNat * 1 + 0)) rfl rfl rfl (fun v22 hv => o_arrb tk hv td50 sz3 (by decide) rfl rfl) fun v22 hv22 H21 => ?_
    refine wpdS_bdr H21 (fun y => eI y) rfl (by decide +kernel) rfl rfl (fun v24 hv => h_ldb tk hH 0 hv rfl (sp_judge_Judge_counts _) (al_judge_Judge_counts _) (enc_i64 td3 sz3) (acut_enc (enc_i64 td3 sz3) rfl _) (by decide) rfl) fun v24 hv24 H23 => ?_
    refine wpdS_lt H23 eI rfl rfl rfl (o_ar tk rfl rfl rfl) fun v26 H25 => ?_
    refine wpdS_mv (a := (.ref p0 0)) rfl rfl rfl (o_c tk false rfl (fun _ => rfl)) (wpdS_mv (a := (.ref p0 5)) rfl rfl rfl (o_c tk false rfl (fun _ => rfl)) ?_)
    refine wpdS_bd H25 (fun _ => .ref p0 (5 + (x1.Kind : Int).toNat * 1 + 0)) rfl rfl rfl (fun v28 hv => o_arrb tk hv td50 sz3 (by decide) rfl rfl) fun v28 hv28 H27 => ?_
    obtain ⟨v30, hv31, H29⟩ := ob H27
    obtain ⟨c32, hc33, H34⟩ := lt_ex H29
    refine wpdS_z rfl rfl rfl (by rw [← hc33]; exact (h_stb tk hH 0 hv31 rfl (sp_judge_Judge_counts _) (sp_judge_Judge_counts { c4 with counts := v30 }) (al_judge_Judge_counts _) (enc_i64 td3 sz3) ty3 (by simp) rfl rfl wr (b := (eI v26)) rfl rfl (by decide) (fun _ => rfl))) fun τ (hH : Holds σ [(p0, (c_judge_Judge p0_written p0_done p0_served p0_open_ c32)), (p0_written, (cM eI e_api_Event x0.written)), (p0_done, (cM eS eI x0.done)), (p0_served, (cM e_judge_spot eI x0.served)), (p0_open_, (cM eI eI x0.open_))] [] τ) => ?_
    refine wpdS_nil ?_
    have e := oi H34
    subst e
    exact ⟨(wc (wc (wkf_nil _))), hH⟩
   ·refine awp_skip ?_
    have e := oi H20
    subst e
    exact ⟨(wc (wc (wkf_nil _))), hH⟩
 ·refine awp_region rfl (mc tk (.fptr (c_api_Event x1) 0) rfl rfl (fun _ => rfl) (m_ (eI x1.Kind) rfl (o_ld tk rfl rfl) ?_))
  refine l_ hs8 eB rfl (o_ar tk rfl rfl rfl) fun v11 H10 => ?_
  refine mm tk (eB v11) rfl rfl ?_
  refine if_split H10 (fun hb H12 => ?_) (fun hb H12 => ?_)
  ·subst hb
   refine mc tk (.fptr (c_api_Event x1) 0) rfl rfl (fun _ => rfl) (m_ (eI x1.Kind) rfl (o_ld tk rfl rfl) ?_)
   refine l_ H12 eB rfl (o_ar tk rfl rfl rfl) fun v14 H13 => ?_
   refine pt tk (eB v14) rfl rfl rfl (wpo_nil ?_)
   have e := oi H13
   subst e
   exact ⟨(wc (wc (wc (wkf_nil _)))), hH⟩
  ·subst hb
   refine k_ rfl (k_ rfl (k_ rfl (pf tk (eB false) rfl rfl rfl (wpo_nil ?_))))
   have e := oi H12
   subst e
   exact ⟨(wc (wc (wc (wkf_nil _)))), hH⟩
theorem judge_All_ok {x0 : List api_Event} {r : Err} (H : judge_All x0 = some r) (σ : St)  : ACall Tryd.prog 5 [((eL 8 e_api_Event) x0)] σ (fun a τ => a = eErr r ∧ τ = σ) := by
 unfold judge_All at H
 refine ACall.pure (acall_start tk Tryd.func5 (by decide) rfl (nb rfl) ?_)
 have hH := Holds.init σ
 refine sr rfl (ma tk (eErr Err.nil) rfl rfl (wpo_nil (sr rfl ?_)))
 refine wpo_cb H (fun _ id => .ref id 0) rfl rfl rfl (fun v2 hv => h_calln1 (B := (fun f c => [(c_judge_Judge (f 1) (f 2) (f 3) (f 4) c), (cM eI e_api_Event c.written), (cM eS eI c.done), (cM e_judge_spot eI c.served), (cM eI eI c.open_)])) hH v2 rfl rfl .nil (judge_New_ok hv _)) fun v2 id3 τ hv2 H1 ⟨hH, n4⟩ => ?_
 obtain ⟨id3_written, h_id3_written⟩ : ∃ x, x = id3 + 1 := ⟨_, rfl⟩
 obtain ⟨id3_done, h_id3_done⟩ : ∃ x, x = id3 + 2 := ⟨_, rfl⟩
 obtain ⟨id3_served, h_id3_served⟩ : ∃ x, x = id3 + 3 := ⟨_, rfl⟩
 obtain ⟨id3_open_, h_id3_open_⟩ : ∃ x, x = id3 + 4 := ⟨_, rfl⟩
 have hH : Holds σ [(id3, (c_judge_Judge id3_written id3_done id3_served id3_open_ v2)), (id3_written, (cM eI e_api_Event v2.written)), (id3_done, (cM eS eI v2.done)), (id3_served, (cM e_judge_spot eI v2.served)), (id3_open_, (cM eI eI v2.open_))] [] τ := by rw [h_id3_written, h_id3_done, h_id3_served, h_id3_open_]; exact hH
 have n4_1 : σ.objs.length ≤ id3_written := by omega
 have n4_2 : σ.objs.length ≤ id3_done := by omega
 have n4_3 : σ.objs.length ≤ id3_served := by omega
 have n4_4 : σ.objs.length ≤ id3_open_ := by omega
 refine ma tk (.ref id3 0) rfl rfl (wpo_nil (awp_seq (sr rfl (mm tk ((eL 8 e_api_Event) x0) rfl rfl ?_))))
 refine l_ H1 eI rfl (o_len tk td22 rfl) fun v6 H5 => ?_
 refine mm tk (eI (0 : Int)) rfl rfl (wpo_nil (awp_block ?_))
 obtain ⟨o13, hs14, hj15⟩ := ob H5
 refine awp_cutx 0 (fun fr τ => ∃ s20 : judge_Judge × (List (Int × api_Event)) × (List ((List (BitVec 8)) × Int)) × (List (judge_spot × Int)) × (List (Int × Int)), o13 = .inl s20 ∧ WkF fr (fm []) ∧ Holds σ [(id3, (c_judge_Judge id3_written id3_done id3_served id3_open_ s20.1)), (id3_written, (cM eI e_api_Event s20.2.1)), (id3_done, (cM eS eI s20.2.2.1)), (id3_served, (cM e_judge_spot eI s20.2.2.2.1)), (id3_open_, (cM eI eI s20.2.2.2.2))] [] τ) ?_ ?_
 ·rintro fr τ ⟨s20, rfl, hfr, hH⟩
  have H60 := hj15
  simp only [Sum.elim_inl] at H60
  refine AWP.fm [] hfr ?_
  refine sr rfl (ma tk (eErr Err.nil) rfl rfl (wpo_nil (awp_ret ?_)))
  obtain rfl := oi H60
  exact ⟨_, (eErr Err.nil), rfl, wr, .of_eq (encErr.cut _ _ _), (((((hH.noT.drop n4).drop n4_1).drop n4_2).drop n4_3).drop n4_4)⟩
 ·refine awp_loopO (body := fun s => judge_All_b0 x0 v6 s.1 s.2.1 s.2.2.1 s.2.2.2.1 s.2.2.2.2.1 s.2.2.2.2.2) hs14 (fun (s : Int × judge_Judge × (List (Int × api_Event)) × (List ((List (BitVec 8)) × Int)) × (List (judge_spot × Int)) × (List (Int × Int))) fr τ => WkF fr (fm [(3, (.ref id3 0)), (7, ((eL 8 e_api_Event) x0)), (8, (eI v6)), (9, (eI s.1))]) ∧ Holds σ [(id3, (c_judge_Judge id3_written id3_done id3_served id3_open_ s.2.1)), (id3_written, (cM eI e_api_Event s.2.2.1)), (id3_done, (cM eS eI s.2.2.2.1)), (id3_served, (cM e_judge_spot eI s.2.2.2.2.1)), (id3_open_, (cM eI eI s.2.2.2.2.2))] [] τ) ⟨(wc (wc (wc (wc (wkf_nil _))))), hH⟩ ?_
  rintro ⟨c7, c8, c9, c10, c11, c12⟩ fr τ y16 ⟨hfr, hH⟩ hb18 hy19
  have H21 : judge_All_b0 x0 v6 c7 c8 c9 c10 c11 c12 = some y16 := hb18
  unfold judge_All_b0 at H21
  refine AWP.fm [(3, (.ref id3 0)), (7, ((eL 8 e_api_Event) x0)), (8, (eI v6)), (9, (eI c7))] hfr ?_
  have hH : Holds σ [(id3, (c_judge_Judge id3_written id3_done id3_served id3_open_ c8)), (id3_written, (cM eI e_api_Event c9)), (id3_done, (cM eS eI c10)), (id3_served, (cM e_judge_spot eI c11)), (id3_open_, (cM eI eI c12))] [] τ := hH
  refine sr rfl ?_
  refine l_ H21 eB rfl (o_ar tk rfl rfl rfl) fun v23 H22 => ?_
  refine wpo_nil (awp_seq ?_)
  refine awp_if H22 rfl (fun H24 => ?_) (fun H24 => ?_)
  ·refine awp_skip (awp_seq (awp_block (sr rfl (mm tk (eI c7) rfl rfl ?_))))
   refine b_ H24 (fun y => .fptr (e_api_Event y).cells 0) rfl (fun v26 hv => o_ixa tk hv td22 enc32 rfl rfl) fun v26 hv26 H25 => ?_
   refine m_ (e_api_Event v26) rfl (o_ld_e tk enc32 rfl rfl) ?_
   refine wpo_a (av := fun id => .ref id 0) rfl rfl rfl (h_allocw tk hH ty32 (c_api_Event z_api_Event) (.cons wr (.cons wr (.cons wr (.cons wr (.cons wr (.cons wr (.cons (by exact wk_nils _) (.cons wr .nil))))))))) fun id27 τ ⟨hH, n28⟩ => ?_
   refine ma tk (eI c7) rfl rfl ?_
   obtain ⟨c30, hc31, H29⟩ := lt_ex H25
   refine wpo_z rfl rfl (h_st tk hH 0 rfl ty32 (by simp) rfl rfl wr (b := (e_api_Event v26)) (enc32.flat _) rfl (nb rfl) (c_api_Event c30) (by rw [← hc31]; rfl)) fun τ hH => ?_
   refine wpo_nil (sr rfl (mm tk (.ref id3 0) rfl rfl (wpo_rd (a := (e_api_Event c30)) rfl rfl rfl (h_ld tk hH 0 rfl rfl rfl) ?_)))
   refine wpo_cb H29 (fun x _ => eI x.1) rfl rfl rfl (fun v33 hv => h_call1 hH [(1, (id3, (c_judge_Judge id3_written id3_done id3_served id3_open_ v33.2))), (2, (id3_written, (cM eI e_api_Event v33.2.written))), (3, (id3_done, (cM eS eI v33.2.done))), (4, (id3_served, (cM e_judge_spot eI v33.2.served))), (5, (id3_open_, (cM eI eI v33.2.open_)))] ⟨⟨_, rfl⟩, ⟨⟨_, rfl⟩, ⟨⟨_, rfl⟩, ⟨⟨_, rfl⟩, ⟨⟨_, rfl⟩, trivial⟩⟩⟩⟩⟩ rfl rfl (.cons wr (.cons wr .nil)) (judge_Judge_Tell_ok hv _ (hH.at_ 1 rfl) (hH.at_ 2 rfl) (hH.at_ 3 rfl) (hH.at_ 4 rfl) (hH.at_ 5 rfl) (hH.pw [1, 2, 3, 4, 5] rfl (by decide)))) fun v33 _ τ hv33 H32 (hH : Holds σ [(id27, (c_api_Event c30)), (id3, (c_judge_Judge id3_written id3_done id3_served id3_open_ v33.2)), (id3_written, (cM eI e_api_Event v33.2.written)), (id3_done, (cM eS eI v33.2.done)), (id3_served, (cM e_judge_spot eI v33.2.served)), (id3_open_, (cM eI eI v33.2.open_))] [] τ) => ?_
   refine wpo_nil (awp_block (sr rfl ?_))
   refine l_ H32 eB rfl (o_ar tk rfl rfl rfl) fun v35 H34 => ?_
   refine ma tk (eB v35) rfl rfl (wpo_nil ?_)
   refine awp_if H34 rfl (fun H36 => ?_) (fun H36 => ?_)
   ·refine sr rfl (mm tk (eI c7) rfl rfl ?_)
    refine b_ H36 eErr rfl (fun v38 hv => OpP.of_call rfl rfl (.cons wr (.cons wr (.cons wr .nil))) (trouble_New_ok hv)) fun v38 hv38 H37 => ?_
    refine ma tk (eErr v38) rfl rfl (wpo_nil (awp_ret ?_))
    have hz := hy19 _ (inj_inr H37)
    refine ⟨⟨_, inj_inr H37⟩, ?_⟩
    rw [← hz] at hj15
    have H39 := (show some _ = some _ from hj15)
    obtain rfl := oi H39
    exact ⟨_, (eErr v38), rfl, wr, .of_eq (encErr.cut _ _ _), ((((((hH.noT.drop n28).drop n4).drop n4_1).drop n4_2).drop n4_3).drop n4_4)⟩
   ·refine sr rfl ?_
    refine l_ H36 eB rfl (o_ar tk rfl rfl rfl) fun v41 H40 => ?_
    refine ma tk (eB v41) rfl rfl (wpo_nil ?_)
    refine awp_if H40 rfl (fun H42 => ?_) (fun H42 => ?_)
    ·refine sr rfl (mm tk (eI c7) rfl rfl ?_)
     refine b_ H42 eErr rfl (fun v44 hv => OpP.of_call rfl rfl (.cons wr (.cons wr (.cons wr .nil))) (trouble_New_ok hv)) fun v44 hv44 H43 => ?_
     refine ma tk (eErr v44) rfl rfl (wpo_nil (awp_ret ?_))
     have hz := hy19 _ (inj_inr H43)
     refine ⟨⟨_, inj_inr H43⟩, ?_⟩
     rw [← hz] at hj15
     have H45 := (show some _ = some _ from hj15)
     obtain rfl := oi H45
     exact ⟨_, (eErr v44), rfl, wr, .of_eq (encErr.cut _ _ _), ((((((hH.noT.drop n28).drop n4).drop n4_1).drop n4_2).drop n4_3).drop n4_4)⟩
    ·refine sr rfl ?_
     refine l_ H42 eB rfl (o_ar tk rfl rfl rfl) fun v47 H46 => ?_
     refine ma tk (eB v47) rfl rfl (wpo_nil ?_)
     refine awp_if H46 rfl (fun H48 => ?_) (fun H48 => ?_)
     ·refine sr rfl (mm tk (eI c7) rfl rfl ?_)
      refine b_ H48 eErr rfl (fun v50 hv => OpP.of_call rfl rfl (.cons wr (.cons wr (.cons wr .nil))) (trouble_New_ok hv)) fun v50 hv50 H49 => ?_
      refine ma tk (eErr v50) rfl rfl (wpo_nil (awp_ret ?_))
      have hz := hy19 _ (inj_inr H49)
      refine ⟨⟨_, inj_inr H49⟩, ?_⟩
      rw [← hz] at hj15
      have H51 := (show some _ = some _ from hj15)
      obtain rfl := oi H51
      exact ⟨_, (eErr v50), rfl, wr, .of_eq (encErr.cut _ _ _), ((((((hH.noT.drop n28).drop n4).drop n4_1).drop n4_2).drop n4_3).drop n4_4)⟩
     ·refine sr rfl ?_
      refine l_ H48 eB rfl (o_ar tk rfl rfl rfl) fun v53 H52 => ?_
      refine ma tk (eB v53) rfl rfl (wpo_nil ?_)
      refine awp_if H52 rfl (fun H54 => ?_) (fun H54 => ?_)
      ·refine sr rfl (mm tk (eI c7) rfl rfl ?_)
       refine b_ H54 eErr rfl (fun v56 hv => OpP.of_call rfl rfl (.cons wr (.cons wr (.cons wr .nil))) (trouble_New_ok hv)) fun v56 hv56 H55 => ?_
       refine ma tk (eErr v56) rfl rfl (wpo_nil (awp_ret ?_))
       have hz := hy19 _ (inj_inr H55)
       refine ⟨⟨_, inj_inr H55⟩, ?_⟩
       rw [← hz] at hj15
       have H57 := (show some _ = some _ from hj15)
       obtain rfl := oi H57
       exact ⟨_, (eErr v56), rfl, wr, .of_eq (encErr.cut _ _ _), ((((((hH.noT.drop n28).drop n4).drop n4_1).drop n4_2).drop n4_3).drop n4_4)⟩
      ·refine awp_skip (awp_region rfl ?_)
       refine l_ H54 eI rfl (o_ar tk rfl rfl rfl) fun v59 H58 => ?_
       refine mm tk (eI v59) rfl rfl (wpo_nil ?_)
       exact ⟨(v59, v33.2, v33.2.written, v33.2.done, v33.2.served, v33.2.open_), inj_inl H58, (wc (wc (wc (wc (wkf_nil _))))), (hH.drop n28)⟩
  ·refine awp_exit ?_
   have hz := hy19 _ (inj_inr H24)
   exact ⟨⟨_, inj_inr H24⟩, (c8, c9, c10, c11, c12), hz.symm, (wkf_nil _), hH⟩
theorem trouble_Chain_app {x0 : Err} {r : List api_Step} (H : trouble_Chain x0 = some r) (σ : St) (hg : σ.gl = gls) : ACall Tryd.prog 17 [eErr x0] σ (fun a τ => a = .sl (.own σ.opn.length) 3 (r.map e_api_Step) ∧ τ = σ.more) := by
 unfold trouble_Chain at H
 refine ACall.app (fun ρ κ => cutL_enc enc60.cut ρ κ r) (acall_start tk Tryd.func17 (by decide) rfl (nb rfl) ?_)
 have hH := Holds.init σ
 refine sr rfl (ma tk AV.nils rfl rfl (wpo_nil (sr rfl (ma tk AV.nils rfl rfl (wpo_nil (awp_seq (awp_block ?_)))))))
 refine AWP.tokN hH 3 3 rfl fun tk3 τ hH => ?_
 refine awp_cutx 0 (fun fr τ => ∃ tk_3, WkF fr (fm [(3, (eT tk_3 3 e_api_Step r))]) ∧ Holds σ [] [tk_3] τ) ?_ ?_
 ·rintro fr τ ⟨tk_3, hfr, hH⟩
  refine AWP.fm [(3, (eT tk_3 3 e_api_Step r))] hfr ?_
  refine sr rfl (mm tk (eT tk_3 3 e_api_Step r) rfl rfl (ma tk (eT tk_3 3 e_api_Step r) rfl rfl (wpo_nil (awp_ret ?_))))
  exact ⟨_, (eT tk_3 3 e_api_Step r), rfl, .of_eq rfl, tk_3, rfl, hH⟩
 ·refine awp_loopO (body := trouble_Chain_b0) H (fun (s : Err × List api_Step) fr τ => ∃ tk_3, WkF fr (fm [(0, eErr s.1), (3, (eT tk_3 3 e_api_Step s.2))]) ∧ Holds σ [] [tk_3] τ) ⟨tk3, (wc (wc (wkf_nil _))), hH⟩ ?_
  rintro ⟨c1, c2⟩ fr τ y ⟨tk_3, hfr, hH⟩ hb hy
  refine AWP.fm [(0, eErr c1), (3, (eT tk_3 3 e_api_Step c2))] hfr ?_
  have hH : Holds σ [] [tk_3] τ := hH
  cases c1 with
  | nil =>
   refine awp_seq (sr rfl (mm tk (eErr .nil) rfl rfl (m_ (eB false) rfl (o_err_neq (x := .nil) tk rfl rfl rfl) (wpo_nil ?_))))
   refine awp_false rfl ?_
   refine awp_exit ?_
   have hb : some (Sum.inr c2) = some y := hb
   have hz := hy _ (oi hb).symm
   subst hz
   exact ⟨⟨_, (oi hb).symm⟩, tk_3, (wc (wkf_nil _)), hH⟩
  | fault o a c u =>
   have hb : ((app 32 c2 [(⟨o, a, c⟩ : api_Step)]).bind fun v => some (Sum.inl (u, v))) = some y := hb
   obtain ⟨v, hv, hb⟩ := ob hb
   refine awp_seq (sr rfl (mm tk (eErr (.fault o a c u)) rfl rfl (m_ (eB true) rfl (o_err_neq (x := .fault o a c u) tk rfl rfl rfl) (wpo_nil ?_))))
   refine awp_true rfl ?_
   refine awp_skip (awp_block (sr rfl ?_))
   refine wpo_a (av := fun id => .ref id 0) rfl rfl rfl (h_alloc tk hH ty54 [.nilp] rfl) fun id τ ⟨hH, hn⟩ => ?_
   refine wpo_nil (awp_seq (sr rfl (mm tk (eErr (.fault o a c u)) rfl rfl (mc tk (.iface 62 (.ref id 0)) rfl rfl (fun _ => rfl) ?_))))
   refine wpo_cb (α := Unit) (z := some ()) (k := fun _ => some ()) (r := ()) rfl (fun _ _ => eB true) rfl rfl rfl (fun v hv => h_call1 hH [(0, (id, [(Err.fault o a c u).ptr]))] ⟨⟨_, rfl⟩, trivial⟩ rfl rfl (.cons wr (.cons wr .nil)) (as_ok (x := .fault o a c u) rfl (hH.at_ 0 rfl) (hH.gl.trans hg))) fun _ _ τ _ _ hH => ?_
   refine m_ (eB false) rfl (o_un tk rfl rfl) (wpo_nil ?_)
   refine awp_false rfl ?_
   refine awp_skip (awp_seq ?_)
   refine awp_drawS mixed [15] rfl (by decide +kernel) rfl rfl ?_
   refine wpdS_mv (a := (eT tk_3 3 e_api_Step c2)) rfl rfl rfl (o_mv tk rfl (Wk.refl _)) (wpdS_rd (a := (Err.fault o a c u).ptr) rfl (by decide +kernel) rfl rfl (h_ld tk hH 0 rfl rfl rfl) (wpdS_mv (a := (Err.fault o a c u).ptr) rfl rfl rfl (o_c tk false rfl (fun _ => rfl)) (wpdS_mv (a := .fptr [eS o, eI a, eI c, eErr u] 0) rfl rfl rfl (o_c tk false rfl (fun _ => rfl)) (wpdS_mv (a := eS o) rfl rfl rfl (o_ld tk rfl rfl) (wpdS_rd (a := (Err.fault o a c u).ptr) rfl (by decide +kernel) rfl rfl (h_ld tk hH 0 rfl rfl rfl) (wpdS_mv (a := (Err.fault o a c u).ptr) rfl rfl rfl (o_c tk false rfl (fun _ => rfl)) (wpdS_mv (a := .fptr [eS o, eI a, eI c, eErr u] 1) rfl rfl rfl (o_c tk false rfl (fun _ => rfl)) (wpdS_mv (a := eI a) rfl rfl rfl (o_ld tk rfl rfl) ?_))))))))
   refine wpdS_rd (a := (Err.fault o a c u).ptr) rfl (by decide +kernel) rfl rfl (h_ld tk hH 0 rfl rfl rfl) (wpdS_mv (a := (Err.fault o a c u).ptr) rfl rfl rfl (o_c tk false rfl (fun _ => rfl)) (wpdS_mv (a := .fptr [eS o, eI a, eI c, eErr u] 2) rfl rfl rfl (o_c tk false rfl (fun _ => rfl)) (wpdS_mv (a := eI c) rfl rfl rfl (o_ld tk rfl rfl) (wpdS_mv (a := e_api_Step ⟨o, a, c⟩) rfl rfl rfl (o_c tk false rfl (fun _ => rfl)) (wpdS_mv (a := eF 3 e_api_Step [(⟨o, a, c⟩ : api_Step)]) rfl rfl rfl (o_c tk false rfl (fun _ => rfl)) ?_)))))
   refine wpdS_a (av := fun t => eT t 3 e_api_Step v) rfl rfl rfl (h_app tk hH 0 hv rfl td57 ty60 rfl (by decide) rfl (src_l td57 rfl)) fun tk30 τ hH => ?_
   refine wpdS_mv (a := (eT tk30 3 e_api_Step v)) rfl rfl rfl (o_as tk rfl (Wk.refl _)) (wpdS_nil (awp_region rfl (wpo_rd (a := (Err.fault o a c u).ptr) rfl rfl rfl (h_ld tk hH 0 rfl rfl rfl) (mc tk ((Err.fault o a c u).ptr) rfl rfl (fun _ => rfl) (mc tk (.fptr [eS o, eI a, eI c, eErr u] 3) rfl rfl (fun _ => rfl) (m_ (eErr u) rfl (o_ld tk rfl (by cases u <;> rfl)) (ma tk (eErr u) rfl rfl (wpo_nil ?_))))))))
   exact ⟨(u, v), (oi hb).symm, tk30, (wc (wc (wkf_nil _))), hH.drop hn⟩
theorem trouble_Chain_ok {x0 : Err} {r : List api_Step} (H : trouble_Chain x0 = some r) (σ : St) (hg : σ.gl = gls) : ACall Tryd.prog 17 [eErr x0] σ (fun a τ => a = (eL 3 e_api_Step) r ∧ τ = σ) := (trouble_Chain_app H σ hg).unapp (fun ρ κ => cutL_enc enc60.cut ρ κ r)
theorem trouble_Where_ok {x0 : Err} {r : Int × Bool} (H : trouble_Where x0 = some r) (σ : St)  (hg : σ.gl = gls) : ACall Tryd.prog 11 [(eErr x0)] σ (fun a τ => a = .tup [eI r.1, eB r.2] ∧ τ = σ) := by
 unfold trouble_Where at H
 refine ACall.pure (acall_start tk Tryd.func11 (by decide) rfl (nb rfl) ?_)
 have hH := Holds.init σ
 refine sr rfl (ma tk (eI (0 : Int)) rfl rfl (ma tk (eB false) rfl rfl (wpo_nil (sr rfl (mm tk (eErr x0) rfl rfl ?_)))))
 refine wpo_bdr H (eL 3 e_api_Step) rfl rfl rfl (fun v2 hv => h_callr rfl rfl (.cons wr .nil) (trouble_Chain_ok hv _ (hH.gl.trans hg))) fun v2 hv2 H1 => ?_
 refine ma tk ((eL 3 e_api_Step) v2) rfl rfl (wpo_nil (awp_seq (sr rfl (mm tk ((eL 3 e_api_Step) v2) rfl rfl ?_))))
 refine l_ H1 eI rfl (o_len tk td57 rfl) fun v4 H3 => ?_
 refine l_ H3 eB rfl (o_ar tk rfl rfl rfl) fun v6 H5 => ?_
 refine wpo_nil ?_
 refine awp_if H5 rfl (fun H7 => ?_) (fun H7 => ?_)
 ·refine sr rfl (ma tk (eI (0 : Int)) rfl rfl (ma tk (eB false) rfl rfl (wpo_nil (awp_ret ?_))))
  obtain rfl := oi H7
  exact ⟨_, (.tup [(eI (0 : Int)), (eB false)]), rfl, (wk_tup (.cons wr (.cons wr .nil))), .of_eq (by simp only [cutAV, cutL, (enc_i64 td3 sz3).cut _ _ _, (enc_b td4 sz4).cut _ _ _]), hH.noT⟩
 ·refine awp_skip (sr rfl (mm tk ((eL 3 e_api_Step) v2) rfl rfl (mm tk ((eL 3 e_api_Step) v2) rfl rfl ?_)))
  refine l_ H7 eI rfl (o_len tk td57 rfl) fun v9 H8 => ?_
  refine l_ H8 eI rfl (o_ar tk rfl rfl rfl) fun v11 H10 => ?_
  refine b_ H10 (fun y => .fptr (e_api_Step y).cells 0) rfl (fun v13 hv => o_ixa tk hv td57 enc60 rfl rfl) fun v13 hv13 H12 => ?_
  refine mc tk (.fptr (c_api_Step v13) 1) rfl rfl (fun _ => rfl) (m_ (eI v13.At) rfl (o_ld tk rfl rfl) (ma tk (eI v13.At) rfl rfl (ma tk (eB true) rfl rfl (wpo_nil (awp_ret ?_)))))
  obtain rfl := oi H12
  exact ⟨_, (.tup [(eI v13.At), (eB true)]), rfl, (wk_tup (.cons wr (.cons wr .nil))), .of_eq (by simp only [cutAV, cutL, (enc_i64 td3 sz3).cut _ _ _, (enc_b td4 sz4).cut _ _ _]), hH.noT⟩
theorem trouble_Of_ok {x0 : Err} {r : Int} (H : trouble_Of x0 = some r) (σ : St) (hg : σ.gl = gls) : ACall Tryd.prog 12 [eErr x0] σ (fun a τ => a = eI r ∧ τ = σ) := by
 obtain rfl := oi H
 refine ACall.pure (acall_start tk Tryd.func12 (by decide) rfl (nb rfl) ?_)
 have hH := Holds.init σ
 refine sr rfl (ma tk (eI (0 : Int)) rfl rfl (wpo_nil (awp_seq (awp_block ?_))))
 have hs := trouble_Of_l0 x0
 refine awp_cutx 0 (fun fr τ => codeOf x0 = 0 ∧ WkF fr (fm []) ∧ Holds σ [] [] τ) ?_ ?_
 ·rintro fr τ ⟨h0, hfr, hH⟩
  refine AWP.fm [] hfr ?_
  refine sr rfl (ma tk (eI 0) rfl rfl (wpo_nil (awp_ret ?_)))
  rw [h0]
  exact ⟨_, (eI 0), rfl, wr, .of_eq rfl, hH.noT⟩
 ·refine awp_loopO (body := trouble_Of_b0) hs (fun (s : Err) fr τ => WkF fr (fm [(0, eErr s)]) ∧ Holds σ [] [] τ) ⟨(wc (wkf_nil _)), hH⟩ ?_
  rintro c1 fr τ y ⟨hfr, hH⟩ hb hy
  refine AWP.fm [(0, eErr c1)] hfr ?_
  cases c1 with
  | nil =>
   refine awp_seq (sr rfl (mm tk (eErr .nil) rfl rfl (m_ (eB false) rfl (o_err_neq (x := .nil) tk rfl rfl rfl) (wpo_nil ?_))))
   refine awp_false rfl ?_
   refine awp_exit ?_
   have hb : some (Sum.inr (Sum.inl ())) = some y := hb
   have hz := hy _ (oi hb).symm
   refine ⟨⟨_, (oi hb).symm⟩, ?_, (wkf_nil _), hH⟩
   split at hz
   ·assumption
   ·cases hz
  | fault o a c u =>
   refine awp_seq (sr rfl (mm tk (eErr (.fault o a c u)) rfl rfl (m_ (eB true) rfl (o_err_neq (x := .fault o a c u) tk rfl rfl rfl) (wpo_nil ?_))))
   refine awp_true rfl ?_
   refine awp_skip (awp_block (sr rfl ?_))
   refine wpo_a (av := fun id => .ref id 0) rfl rfl rfl (h_alloc tk hH ty54 [.nilp] rfl) fun id τ ⟨hH, hn⟩ => ?_
   refine wpo_nil (awp_seq (sr rfl (mm tk (eErr (.fault o a c u)) rfl rfl (mc tk (.iface 62 (.ref id 0)) rfl rfl (fun _ => rfl) ?_))))
   refine wpo_cb (α := Unit) (z := some ()) (k := fun _ => some ()) (r := ()) rfl (fun _ _ => eB true) rfl rfl rfl (fun v hv => h_call1 hH [(0, (id, [(Err.fault o a c u).ptr]))] ⟨⟨_, rfl⟩, trivial⟩ rfl rfl (.cons wr (.cons wr .nil)) (as_ok (x := .fault o a c u) rfl (hH.at_ 0 rfl) (hH.gl.trans hg))) fun _ _ τ _ _ hH => ?_
   refine m_ (eB false) rfl (o_un tk rfl rfl) (wpo_nil ?_)
   refine awp_false rfl ?_
   refine awp_skip (awp_seq (sr rfl (wpo_rd (a := (Err.fault o a c u).ptr) rfl rfl rfl (h_ld tk hH 0 rfl rfl rfl) (mc tk ((Err.fault o a c u).ptr) rfl rfl (fun _ => rfl) (mc tk (.fptr [eS o, eI a, eI c, eErr u] 2) rfl rfl (fun _ => rfl) (m_ (eI c) rfl (o_ld tk rfl rfl) (m_ (eB (c != 0)) rfl (o_ar tk rfl rfl rfl) (wpo_nil ?_))))))))
   have hb : (if (c != 0) = true then some (.inr (.inr c)) else some (.inl u)) = some y := hb
   refine awp_if hb rfl (fun hb => ?_) (fun hb => ?_)
   ·refine sr rfl (wpo_rd (a := (Err.fault o a c u).ptr) rfl rfl rfl (h_ld tk hH 0 rfl rfl rfl) (mc tk ((Err.fault o a c u).ptr) rfl rfl (fun _ => rfl) (mc tk (.fptr [eS o, eI a, eI c, eErr u] 2) rfl rfl (fun _ => rfl) (m_ (eI c) rfl (o_ld tk rfl rfl) (ma tk (eI c) rfl rfl (wpo_nil (awp_ret ?_)))))))
    have hz := hy _ (oi hb).symm
    refine ⟨⟨_, (oi hb).symm⟩, ?_⟩
    have hc : codeOf x0 = c := by
     split at hz
     ·cases hz
     ·exact Sum.inr.inj hz.symm
    rw [hc]
    exact ⟨_, (eI c), rfl, wr, .of_eq rfl, (hH.noT.drop hn)⟩
   ·refine awp_skip (awp_region rfl (wpo_rd (a := (Err.fault o a c u).ptr) rfl rfl rfl (h_ld tk hH 0 rfl rfl rfl) (mc tk ((Err.fault o a c u).ptr) rfl rfl (fun _ => rfl) (mc tk (.fptr [eS o, eI a, eI c, eErr u] 3) rfl rfl (fun _ => rfl) (m_ (eErr u) rfl (o_ld tk rfl (by cases u <;> rfl)) (ma tk (eErr u) rfl rfl (wpo_nil ?_)))))))
    exact ⟨u, (oi hb).symm, (wc (wkf_nil _)), hH.drop hn⟩
theorem judge_Judge_Count_ok {x0 : judge_Judge} {x1 : Int} {r : Int} (H : judge_Judge_Count x0 x1 = some r) (σ : St) {p0 p0_written p0_done p0_served p0_open_ : Nat} (h0 : σ.objs[p0]? = some (c_judge_Judge p0_written p0_done p0_served p0_open_ x0)) (h0_written : σ.objs[p0_written]? = some (cM eI e_api_Event x0.written)) (h0_done : σ.objs[p0_done]? = some (cM eS eI x0.done)) (h0_served : σ.objs[p0_served]? = some (cM e_judge_spot eI x0.served)) (h0_open_ : σ.objs[p0_open_]? = some (cM eI eI x0.open_)) (hd : [p0, p0_written, p0_done, p0_served, p0_open_].Pairwise fun a b => a ≠ b) : ACall Tryd.prog 13 [(.ref p0 0), (eI x1)] σ (fun a τ => a = eI r ∧ τ = σ) := by
 unfold judge_Judge_Count at H
 refine ACall.pure (acall_start tk Tryd.func13 (by decide) rfl (nb rfl) ?_)
 have hH := Holds.brings (σ := σ) [(p0, (c_judge_Judge p0_written p0_done p0_served p0_open_ x0)), (p0_written, (cM eI e_api_Event x0.written)), (p0_done, (cM eS eI x0.done)), (p0_served, (cM e_judge_spot eI x0.served)), (p0_open_, (cM eI eI x0.open_))] (by simp only [List.mem_cons, List.not_mem_nil, or_false]; rintro _ (rfl | rfl | rfl | rfl | rfl) <;> assumption) hd
 refine sr rfl (ma tk (eI (0 : Int)) rfl rfl (wpo_nil (awp_seq (awp_seq ?_))))
 obtain ⟨s1, hs3, hj4⟩ := ob H
 refine awp_cutn (fun fr τ => WkF fr (fm [(0, (.ref p0 0)), (1, (eI x1)), (10, (eB s1))]) ∧ Holds σ [(p0, (c_judge_Judge p0_written p0_done p0_served p0_open_ x0)), (p0_written, (cM eI e_api_Event x0.written)), (p0_done, (cM eS eI x0.done)), (p0_served, (cM e_judge_spot eI x0.served)), (p0_open_, (cM eI eI x0.open_))] [] τ) ?_ ?_
 ·rintro fr τ ⟨hfr, hH⟩
  have H10 := hj4
  refine AWP.fm [(0, (.ref p0 0)), (1, (eI x1)), (10, (eB s1))] hfr ?_
  refine awp_if H10 rfl (fun H11 => ?_) (fun H11 => ?_)
  ·refine sr rfl (ma tk (eI (0 : Int)) rfl rfl (wpo_nil (awp_ret ?_)))
   obtain rfl := oi H11
   exact ⟨_, (eI (0 : Int)), rfl, wr, .of_eq ((enc_i64 td3 sz3).cut _ _ _), (((((hH.noT.unbring h0).unbring h0_written).unbring h0_done).unbring h0_served).unbring h0_open_)⟩
  ·refine awp_skip (sr rfl (mm tk (.ref p0 0) rfl rfl (mm tk (eI x1) rfl rfl (mc tk (.ref p0 0) rfl rfl (fun _ => rfl) (mc tk (.ref p0 5) rfl rfl (fun _ => rfl) ?_)))))
   refine b_ H11 (fun _ => .ref p0 (5 + (x1 : Int).toNat * 1 + 0)) rfl (fun v13 hv => o_arrb tk hv td50 sz3 (by decide) rfl rfl) fun v13 hv13 H12 => ?_
   refine wpo_bdr H12 (fun y => eI y) rfl rfl rfl (fun v15 hv => h_ldb tk hH 0 hv rfl (sp_judge_Judge_counts _) (al_judge_Judge_counts _) (enc_i64 td3 sz3) (acut_enc (enc_i64 td3 sz3) rfl _) (by decide) rfl) fun v15 hv15 H14 => ?_
   refine ma tk (eI v15) rfl rfl (wpo_nil (awp_ret ?_))
   obtain rfl := oi H14
   exact ⟨_, (eI v15), rfl, wr, .of_eq ((enc_i64 td3 sz3).cut _ _ _), (((((hH.noT.unbring h0).unbring h0_written).unbring h0_done).unbring h0_served).unbring h0_open_)⟩
 ·refine awp_region rfl (mm tk (eI x1) rfl rfl ?_)
  refine l_ hs3 eB rfl (o_ar tk rfl rfl rfl) fun v6 H5 => ?_
  refine mm tk (eB v6) rfl rfl ?_
  refine if_split H5 (fun hb H7 => ?_) (fun hb H7 => ?_)
  ·subst hb
   refine k_ rfl (k_ rfl (pt tk (eB true) rfl rfl rfl (wpo_nil ?_)))
   have e := oi H7
   subst e
   exact ⟨(wc (wc (wc (wkf_nil _)))), hH⟩
  ·subst hb
   refine mm tk (eI x1) rfl rfl ?_
   refine l_ H7 eB rfl (o_ar tk rfl rfl rfl) fun v9 H8 => ?_
   refine pf tk (eB v9) rfl rfl rfl (wpo_nil ?_)
   have e := oi H8
   subst e
   exact ⟨(wc (wc (wc (wkf_nil _)))), hH⟩
theorem judge_Judge_Open_ok {x0 : judge_Judge} {r : Int} (H : judge_Judge_Open x0 = some r) (σ : St) {p0 p0_written p0_done p0_served p0_open_ : Nat} (h0 : σ.objs[p0]? = some (c_judge_Judge p0_written p0_done p0_served p0_open_ x0)) (h0_written : σ.objs[p0_written]? = some (cM eI e_api_Event x0.written)) (h0_done : σ.objs[p0_done]? = some (cM eS eI x0.done)) (h0_served : σ.objs[p0_served]? = some (cM e_judge_spot eI x0.served)) (h0_open_ : σ.objs[p0_open_]? = some (cM eI eI x0.open_)) (hd : [p0, p0_written, p0_done, p0_served, p0_open_].Pairwise fun a b => a ≠ b) : ACall Tryd.prog 14 [(.ref p0 0)] σ (fun a τ => a = eI r ∧ τ = σ) := by
 unfold judge_Judge_Open at H
 refine ACall.pure (acall_start tk Tryd.func14 (by decide) rfl (nb rfl) ?_)
 have hH := Holds.brings (σ := σ) [(p0, (c_judge_Judge p0_written p0_done p0_served p0_open_ x0)), (p0_written, (cM eI e_api_Event x0.written)), (p0_done, (cM eS eI x0.done)), (p0_served, (cM e_judge_spot eI x0.served)), (p0_open_, (cM eI eI x0.open_))] (by simp only [List.mem_cons, List.not_mem_nil, or_false]; rintro _ (rfl | rfl | rfl | rfl | rfl) <;> assumption) hd
 refine sr rfl (ma tk (eI (0 : Int)) rfl rfl (wpo_nil (sr rfl (mm tk (.ref p0 0) rfl rfl (mc tk (.ref p0 0) rfl rfl (fun _ => rfl) (mc tk (.ref p0 4) rfl rfl (fun _ => rfl) (wpo_rd (a := (.mapr p0_open_)) rfl rfl rfl (h_ld tk hH 0 rfl (g_judge_Judge_open_ _) rfl) (wpo_rd (a := (eI ((x0.open_).length : Int))) rfl rfl rfl (h_lenM tk hH 4 rfl td49 rfl) ?_))))))))
 refine ma tk (eI ((x0.open_).length : Int)) rfl rfl (wpo_nil (awp_ret ?_))
 obtain rfl := oi H
 exact ⟨_, (eI ((x0.open_).length : Int)), rfl, wr, .of_eq ((enc_i64 td3 sz3).cut _ _ _), (((((hH.noT.unbring h0).unbring h0_written).unbring h0_done).unbring h0_served).unbring h0_open_)⟩
theorem judge_Judge_Told_ok {x0 : judge_Judge} {r : Int} (H : judge_Judge_Told x0 = some r) (σ : St) {p0 p0_written p0_done p0_served p0_open_ : Nat} (h0 : σ.objs[p0]? = some (c_judge_Judge p0_written p0_done p0_served p0_open_ x0)) (h0_written : σ.objs[p0_written]? = some (cM eI e_api_Event x0.written)) (h0_done : σ.objs[p0_done]? = some (cM eS eI x0.done)) (h0_served : σ.objs[p0_served]? = some (cM e_judge_spot eI x0.served)) (h0_open_ : σ.objs[p0_open_]? = some (cM eI eI x0.open_)) (hd : [p0, p0_written, p0_done, p0_served, p0_open_].Pairwise fun a b => a ≠ b) : ACall Tryd.prog 15 [(.ref p0 0)] σ (fun a τ => a = eI r ∧ τ = σ) := by
 unfold judge_Judge_Told at H
 refine ACall.pure (acall_start tk Tryd.func15 (by decide) rfl (nb rfl) ?_)
 have hH := Holds.brings (σ := σ) [(p0, (c_judge_Judge p0_written p0_done p0_served p0_open_ x0)), (p0_written, (cM eI e_api_Event x0.written)), (p0_done, (cM eS eI x0.done)), (p0_served, (cM e_judge_spot eI x0.served)), (p0_open_, (cM eI eI x0.open_))] (by simp only [List.mem_cons, List.not_mem_nil, or_false]; rintro _ (rfl | rfl | rfl | rfl | rfl) <;> assumption) hd
 refine sr rfl (ma tk (eI (0 : Int)) rfl rfl (wpo_nil (sr rfl (mm tk (.ref p0 0) rfl rfl (mc tk (.ref p0 0) rfl rfl (fun _ => rfl) (mc tk (.ref p0 0) rfl rfl (fun _ => rfl) (wpo_rd (a := (eI x0.n)) rfl rfl rfl (h_ld tk hH 0 rfl (g_judge_Judge_n _) rfl) (ma tk (eI x0.n) rfl rfl ?_))))))))
 refine wpo_nil (awp_ret ?_)
 obtain rfl := oi H
 exact ⟨_, (eI x0.n), rfl, wr, .of_eq ((enc_i64 td3 sz3).cut _ _ _), (((((hH.noT.unbring h0).unbring h0_written).unbring h0_done).unbring h0_served).unbring h0_open_)⟩
theorem L28_works_ok  {r : Bool} (H : L28_works = some r) (σ : St)  (hg : σ.gl = gls) : ACall Tryd.prog 6 [] σ (fun a τ => a = eB r ∧ τ = σ) := by
 unfold L28_works at H
 refine ACall.pure (acall_start tk Tryd.func6 (by decide) rfl (nb rfl) ?_)
 have hH := Holds.init σ
 refine sr rfl (ma tk (eB false) rfl rfl (wpo_nil (sr rfl (mc tk (eF 1 (@eU .u8 8) ([118#8] : List (BitVec 8))) rfl rfl (fun _ => rfl) (m_ (eF 1 (@eU .u8 8) ([118#8] : List (BitVec 8))) rfl (o_bconst tk td28 td5 rfl) ?_)))))
 refine l_ H e_api_Entry rfl (OpP.wk (wkf_up (t := 11) (a := ((eL 1 (@eU .u8 8)) ([118#8] : List (BitVec 8)))) wk_no) (o_c tk false rfl (fun _ => rfl))) fun v2 H1 => ?_
 refine l_ H1 e_api_Event rfl (o_c tk false rfl (fun _ => rfl)) fun v4 H3 => ?_
 refine wpo_a (av := fun id => .ref id 0) rfl rfl rfl (h_allocw tk hH ty32 (c_api_Event z_api_Event) (.cons wr (.cons wr (.cons wr (.cons wr (.cons wr (.cons wr (.cons (by exact wk_nils _) (.cons wr .nil))))))))) fun id5 τ ⟨hH, n6⟩ => ?_
 obtain ⟨c8, hc9, H7⟩ := lt_ex H3
 refine wpo_z rfl rfl (h_st tk hH 0 rfl ty32 (by simp) rfl rfl wr (b := (e_api_Event v4)) (enc32.flat _) rfl (nb rfl) (c_api_Event c8) (by rw [← hc9]; rfl)) fun τ hH => ?_
 refine wpo_nil (sr rfl (mc tk (eF 1 (@eU .u8 8) ([118#8] : List (BitVec 8))) rfl rfl (fun _ => rfl) (m_ (eF 1 (@eU .u8 8) ([118#8] : List (BitVec 8))) rfl (o_bconst tk td28 td5 rfl) ?_)))
 refine l_ H7 e_api_Entry rfl (OpP.wk (wkf_up (t := 15) (a := ((eL 1 (@eU .u8 8)) ([118#8] : List (BitVec 8)))) wk_no) (o_c tk false rfl (fun _ => rfl))) fun v11 H10 => ?_
 refine l_ H10 e_api_Event rfl (o_c tk false rfl (fun _ => rfl)) fun v13 H12 => ?_
 refine wpo_a (av := fun id => .ref id 0) rfl rfl rfl (h_allocw tk hH ty32 (c_api_Event z_api_Event) (.cons wr (.cons wr (.cons wr (.cons wr (.cons wr (.cons wr (.cons (by exact wk_nils _) (.cons wr .nil))))))))) fun id14 τ ⟨hH, n15⟩ => ?_
 obtain ⟨c17, hc18, H16⟩ := lt_ex H12
 refine wpo_z rfl rfl (h_st tk hH 0 rfl ty32 (by simp) rfl rfl wr (b := (e_api_Event v13)) (enc32.flat _) rfl (nb rfl) (c_api_Event c17) (by rw [← hc18]; rfl)) fun τ hH => ?_
 refine wpo_nil (sr rfl (mc tk (.agg [(eS (⟨([] : List (BitVec 8)), (2 : Int), (0 : Int), (0 : Int), ([] : List (BitVec 8))⟩ : api_Entry).Key), (eI (⟨([] : List (BitVec 8)), (2 : Int), (0 : Int), (0 : Int), ([] : List (BitVec 8))⟩ : api_Entry).Version), (eI (⟨([] : List (BitVec 8)), (2 : Int), (0 : Int), (0 : Int), ([] : List (BitVec 8))⟩ : api_Entry).AsOf), (eI (⟨([] : List (BitVec 8)), (2 : Int), (0 : Int), (0 : Int), ([] : List (BitVec 8))⟩ : api_Entry).Ends), AV.nils]) rfl rfl (fun _ => rfl) ?_))
 refine l_ H16 e_api_Event rfl (OpP.wk (wkf_up (t := 18) (a := (e_api_Entry (⟨([] : List (BitVec 8)), (2 : Int), (0 : Int), (0 : Int), ([] : List (BitVec 8))⟩ : api_Entry))) (wk_agg (.cons wr (.cons wr (.cons wr (.cons wr (.cons (wk_nils _) .nil))))))) (o_c tk false rfl (fun _ => rfl))) fun v20 H19 => ?_
 refine wpo_a (av := fun id => .ref id 0) rfl rfl rfl (h_allocw tk hH ty32 (c_api_Event z_api_Event) (.cons wr (.cons wr (.cons wr (.cons wr (.cons wr (.cons wr (.cons (by exact wk_nils _) (.cons wr .nil))))))))) fun id21 τ ⟨hH, n22⟩ => ?_
 obtain ⟨c24, hc25, H23⟩ := lt_ex H19
 refine wpo_z rfl rfl (h_st tk hH 0 rfl ty32 (by simp) rfl rfl wr (b := (e_api_Event v20)) (enc32.flat _) rfl (nb rfl) (c_api_Event c24) (by rw [← hc25]; rfl)) fun τ hH => ?_
 refine wpo_nil (sr rfl (mc tk (.agg [(eS (⟨([107#8] : List (BitVec 8)), (2 : Int), (0 : Int), (0 : Int), ([] : List (BitVec 8))⟩ : api_Entry).Key), (eI (⟨([107#8] : List (BitVec 8)), (2 : Int), (0 : Int), (0 : Int), ([] : List (BitVec 8))⟩ : api_Entry).Version), (eI (⟨([107#8] : List (BitVec 8)), (2 : Int), (0 : Int), (0 : Int), ([] : List (BitVec 8))⟩ : api_Entry).AsOf), (eI (⟨([107#8] : List (BitVec 8)), (2 : Int), (0 : Int), (0 : Int), ([] : List (BitVec 8))⟩ : api_Entry).Ends), AV.nils]) rfl rfl (fun _ => rfl) ?_))
 refine l_ H23 e_api_Event rfl (OpP.wk (wkf_up (t := 20) (a := (e_api_Entry (⟨([107#8] : List (BitVec 8)), (2 : Int), (0 : Int), (0 : Int), ([] : List (BitVec 8))⟩ : api_Entry))) (wk_agg (.cons wr (.cons wr (.cons wr (.cons wr (.cons (wk_nils _) .nil))))))) (o_c tk false rfl (fun _ => rfl))) fun v27 H26 => ?_
 refine wpo_a (av := fun id => .ref id 0) rfl rfl rfl (h_allocw tk hH ty32 (c_api_Event z_api_Event) (.cons wr (.cons wr (.cons wr (.cons wr (.cons wr (.cons wr (.cons (by exact wk_nils _) (.cons wr .nil))))))))) fun id28 τ ⟨hH, n29⟩ => ?_
 obtain ⟨c31, hc32, H30⟩ := lt_ex H26
 refine wpo_z rfl rfl (h_st tk hH 0 rfl ty32 (by simp) rfl rfl wr (b := (e_api_Event v27)) (enc32.flat _) rfl (nb rfl) (c_api_Event c31) (by rw [← hc32]; rfl)) fun τ hH => ?_
 refine wpo_nil (sr rfl (wpo_rd (a := (e_api_Event c8)) rfl rfl rfl (h_ld tk hH 3 rfl rfl rfl) (wpo_rd (a := (e_api_Event c17)) rfl rfl rfl (h_ld tk hH 2 rfl rfl rfl) (wpo_rd (a := (e_api_Event c31)) rfl rfl rfl (h_ld tk hH 0 rfl rfl rfl) (wpo_rd (a := (e_api_Event c17)) rfl rfl rfl (h_ld tk hH 2 rfl rfl rfl) (wpo_rd (a := (e_api_Event c24)) rfl rfl rfl (h_ld tk hH 1 rfl rfl rfl) (wpo_rd (a := (e_api_Event c17)) rfl rfl rfl (h_ld tk hH 2 rfl rfl rfl) ?_)))))))
 refine l_ H30 (eF 8 e_api_Event) rfl (o_c tk false rfl (fun _ => rfl)) fun v34 H33 => ?_
 refine b_ H33 eErr rfl (fun v36 hv => OpP.of_call rfl rfl (.cons wk_no .nil) (judge_All_ok hv)) fun v36 hv36 H35 => ?_
 refine wpo_bdr H35 (fun r => .tup [eI r.1, eB r.2]) rfl rfl rfl (fun v38 hv => h_callr rfl rfl (.cons wr .nil) (trouble_Where_ok hv _ (hH.gl.trans hg))) fun v38 hv38 H37 => ?_
 refine mm tk (.tup [(eI v38.1), (eB v38.2)]) rfl rfl (m_ (eI v38.1) rfl (o_ext tk rfl rfl) (m_ (eB v38.2) rfl (o_ext tk rfl rfl) (ma tk (eI v38.1) rfl rfl (ma tk (eB v38.2) rfl rfl (wpo_nil (sr rfl ?_))))))
 refine wpo_cb H37 (fun _ id => .ref id 0) rfl rfl rfl (fun v40 hv => h_calln1 (B := (fun f c => [(c_judge_Judge (f 1) (f 2) (f 3) (f 4) c), (cM eI e_api_Event c.written), (cM eS eI c.done), (cM e_judge_spot eI c.served), (cM eI eI c.open_)])) hH v40 rfl rfl .nil (judge_New_ok hv _)) fun v40 id41 τ hv40 H39 ⟨hH, n42⟩ => ?_
 obtain ⟨id41_written, h_id41_written⟩ : ∃ x, x = id41 + 1 := ⟨_, rfl⟩
 obtain ⟨id41_done, h_id41_done⟩ : ∃ x, x = id41 + 2 := ⟨_, rfl⟩
 obtain ⟨id41_served, h_id41_served⟩ : ∃ x, x = id41 + 3 := ⟨_, rfl⟩
 obtain ⟨id41_open_, h_id41_open_⟩ : ∃ x, x = id41 + 4 := ⟨_, rfl⟩
 have hH : Holds σ [(id41, (c_judge_Judge id41_written id41_done id41_served id41_open_ v40)), (id41_written, (cM eI e_api_Event v40.written)), (id41_done, (cM eS eI v40.done)), (id41_served, (cM e_judge_spot eI v40.served)), (id41_open_, (cM eI eI v40.open_)), (id28, (c_api_Event c31)), (id21, (c_api_Event c24)), (id14, (c_api_Event c17)), (id5, (c_api_Event c8))] [] τ := by rw [h_id41_written, h_id41_done, h_id41_served, h_id41_open_]; exact hH
 have n42_1 : σ.objs.length ≤ id41_written := by omega
 have n42_2 : σ.objs.length ≤ id41_done := by omega
 have n42_3 : σ.objs.length ≤ id41_served := by omega
 have n42_4 : σ.objs.length ≤ id41_open_ := by omega
 refine ma tk (.ref id41 0) rfl rfl (wpo_nil (awp_seq (sr rfl (mm tk (.ref id41 0) rfl rfl (mc tk (eB false) rfl rfl (fun _ => rfl) (wpo_nil ?_))))))
 refine awp_false rfl ?_
 refine awp_skip (awp_seq ?_)
 refine awp_drawR mixed [2, 5] rfl (by decide +kernel) rfl rfl (fun σ => σ.objs[id5]? = some (c_api_Event c8)) 1 (hH.at_ 8 rfl) ?_
 refine wpdR_mv (a := (.ref id41 0)) rfl rfl rfl (o_mv tk rfl (Wk.refl _)) ?_
 refine wpdR_rd (a := (e_api_Event c17)) rfl (by decide +kernel) rfl rfl (h_ld tk hH 7 rfl rfl rfl) ?_
 refine wpdR_cb H39 (fun x _ => eI x.1) rfl rfl rfl (fun v44 hv => h_call1 hH [(0, (id41, (c_judge_Judge id41_written id41_done id41_served id41_open_ v44.2))), (1, (id41_written, (cM eI e_api_Event v44.2.written))), (2, (id41_done, (cM eS eI v44.2.done))), (3, (id41_served, (cM e_judge_spot eI v44.2.served))), (4, (id41_open_, (cM eI eI v44.2.open_)))] ⟨⟨_, rfl⟩, ⟨⟨_, rfl⟩, ⟨⟨_, rfl⟩, ⟨⟨_, rfl⟩, ⟨⟨_, rfl⟩, trivial⟩⟩⟩⟩⟩ rfl rfl (.cons wr (.cons wr .nil)) (judge_Judge_Tell_ok hv _ (hH.at_ 0 rfl) (hH.at_ 1 rfl) (hH.at_ 2 rfl) (hH.at_ 3 rfl) (hH.at_ 4 rfl) (hH.pw [0, 1, 2, 3, 4] rfl (by decide)))) fun v44 _ τ hv44 H43 (hH : Holds σ [(id41, (c_judge_Judge id41_written id41_done id41_served id41_open_ v44.2)), (id41_written, (cM eI e_api_Event v44.2.written)), (id41_done, (cM eS eI v44.2.done)), (id41_served, (cM e_judge_spot eI v44.2.served)), (id41_open_, (cM eI eI v44.2.open_)), (id28, (c_api_Event c31)), (id21, (c_api_Event c24)), (id14, (c_api_Event c17)), (id5, (c_api_Event c8))] [] τ) => ⟨fun _ => (hH.at_ 8 rfl), ?_⟩
 refine wpdR_mv (a := (.ref id41 0)) rfl rfl rfl (o_mv tk rfl (Wk.refl _)) ?_
 refine wpdR_rdp (a := (e_api_Event c8)) rfl (by decide +kernel) rfl rfl (fun σ hF => (h_ld tk (Holds.one hF) 0 rfl rfl rfl)) ?_
 refine wpdR_cb H43 (fun x _ => eI x.1) rfl rfl rfl (fun v46 hv => h_call1 hH [(0, (id41, (c_judge_Judge id41_written id41_done id41_served id41_open_ v46.2))), (1, (id41_written, (cM eI e_api_Event v46.2.written))), (2, (id41_done, (cM eS eI v46.2.done))), (3, (id41_served, (cM e_judge_spot eI v46.2.served))), (4, (id41_open_, (cM eI eI v46.2.open_)))] ⟨⟨_, rfl⟩, ⟨⟨_, rfl⟩, ⟨⟨_, rfl⟩, ⟨⟨_, rfl⟩, ⟨⟨_, rfl⟩, trivial⟩⟩⟩⟩⟩ rfl rfl (.cons wr (.cons wr .nil)) (judge_Judge_Tell_ok hv _ (hH.at_ 0 rfl) (hH.at_ 1 rfl) (hH.at_ 2 rfl) (hH.at_ 3 rfl) (hH.at_ 4 rfl) (hH.pw [0, 1, 2, 3, 4] rfl (by decide)))) fun v46 _ τ hv46 H45 (hH : Holds σ [(id41, (c_judge_Judge id41_written id41_done id41_served id41_open_ v46.2)), (id41_written, (cM eI e_api_Event v46.2.written)), (id41_done, (cM eS eI v46.2.done)), (id41_served, (cM e_judge_spot eI v46.2.served)), (id41_open_, (cM eI eI v46.2.open_)), (id28, (c_api_Event c31)), (id21, (c_api_Event c24)), (id14, (c_api_Event c17)), (id5, (c_api_Event c8))] [] τ) => ⟨fun h => absurd h (by decide +kernel), ?_⟩
 refine wpdR_mv (a := (eI v44.1)) rfl rfl rfl (o_as tk rfl (Wk.refl _)) ?_
 refine wpdR_mv (a := (eI v46.1)) rfl rfl rfl (o_as tk rfl (Wk.refl _)) ?_
 refine wpdR_nil ?_
 refine sr rfl (mm tk (eB v38.2) rfl rfl (mm tk (eB v38.2) rfl rfl ?_))
 refine if_split H45 (fun hb H47 => ?_) (fun hb H47 => ?_)
 ·rw [hb]
  refine mm tk (eI v38.1) rfl rfl ?_
  refine l_ H47 eB rfl (o_ar tk rfl rfl rfl) fun v49 H48 => ?_
  refine pt tk (eB v49) rfl rfl rfl (mm tk (eB v49) rfl rfl ?_)
  refine if_split H48 (fun hb H50 => ?_) (fun hb H50 => ?_)
  ·subst hb
   refine wpo_rd (a := (e_api_Event c17)) rfl rfl rfl (h_ld tk hH 7 rfl rfl rfl) ?_
   refine l_ H50 (eF 8 e_api_Event) rfl (o_c tk false rfl (fun _ => rfl)) fun v52 H51 => ?_
   refine b_ H51 eErr rfl (fun v54 hv => OpP.of_call rfl rfl (.cons wk_no .nil) (judge_All_ok hv)) fun v54 hv54 H53 => ?_
   refine wpo_bdr H53 eI rfl rfl rfl (fun v56 hv => h_callr rfl rfl (.cons wr .nil) (trouble_Of_ok hv _ (hH.gl.trans hg))) fun v56 hv56 H55 => ?_
   refine l_ H55 eB rfl (o_ar tk rfl rfl rfl) fun v58 H57 => ?_
   refine pt tk (eB v58) rfl rfl rfl (mm tk (eB v58) rfl rfl ?_)
   refine if_split H57 (fun hb H59 => ?_) (fun hb H59 => ?_)
   ·subst hb
    refine wpo_rd (a := (e_api_Event c24)) rfl rfl rfl (h_ld tk hH 6 rfl rfl rfl) ?_
    refine l_ H59 (eF 8 e_api_Event) rfl (o_c tk false rfl (fun _ => rfl)) fun v61 H60 => ?_
    refine b_ H60 eErr rfl (fun v63 hv => OpP.of_call rfl rfl (.cons wk_no .nil) (judge_All_ok hv)) fun v63 hv63 H62 => ?_
    refine wpo_bdr H62 eI rfl rfl rfl (fun v65 hv => h_callr rfl rfl (.cons wr .nil) (trouble_Of_ok hv _ (hH.gl.trans hg))) fun v65 hv65 H64 => ?_
    refine l_ H64 eB rfl (o_ar tk rfl rfl rfl) fun v67 H66 => ?_
    refine pt tk (eB v67) rfl rfl rfl (mm tk (eB v67) rfl rfl ?_)
    refine if_split H66 (fun hb H68 => ?_) (fun hb H68 => ?_)
    ·subst hb
     refine wpo_rd (a := (e_api_Event c8)) rfl rfl rfl (h_ld tk hH 8 rfl rfl rfl) (wpo_rd (a := (e_api_Event c17)) rfl rfl rfl (h_ld tk hH 7 rfl rfl rfl) ?_)
     refine l_ H68 (eF 8 e_api_Event) rfl (o_c tk false rfl (fun _ => rfl)) fun v70 H69 => ?_
     refine b_ H69 eErr rfl (fun v72 hv => OpP.of_call rfl rfl (.cons wk_no .nil) (judge_All_ok hv)) fun v72 hv72 H71 => ?_
     refine l_ H71 eB rfl (o_err_eql tk rfl rfl rfl) fun v74 H73 => ?_
     refine pt tk (eB v74) rfl rfl rfl (mm tk (eB v74) rfl rfl ?_)
     refine if_split H73 (fun hb H75 => ?_) (fun hb H75 => ?_)
     ·subst hb
      refine mm tk (eI v44.1) rfl rfl ?_
      refine l_ H75 eB rfl (o_ar tk rfl rfl rfl) fun v77 H76 => ?_
      refine pt tk (eB v77) rfl rfl rfl (mm tk (eB v77) rfl rfl ?_)
      refine if_split H76 (fun hb H78 => ?_) (fun hb H78 => ?_)
      ·subst hb
       refine mm tk (eI v46.1) rfl rfl ?_
       refine l_ H78 eB rfl (o_ar tk rfl rfl rfl) fun v80 H79 => ?_
       refine pt tk (eB v80) rfl rfl rfl (mm tk (eB v80) rfl rfl ?_)
       refine if_split H79 (fun hb H81 => ?_) (fun hb H81 => ?_)
       ·subst hb
        refine mm tk (.ref id41 0) rfl rfl ?_
        refine wpo_bdr H81 eI rfl rfl rfl (fun v83 hv => h_callr rfl rfl (.cons wr (.cons wr .nil)) (judge_Judge_Count_ok hv _ (hH.at_ 0 rfl) (hH.at_ 1 rfl) (hH.at_ 2 rfl) (hH.at_ 3 rfl) (hH.at_ 4 rfl) (hH.pw [0, 1, 2, 3, 4] rfl (by decide)))) fun v83 hv83 H82 => ?_
        refine l_ H82 eB rfl (o_ar tk rfl rfl rfl) fun v85 H84 => ?_
        refine pt tk (eB v85) rfl rfl rfl (mm tk (eB v85) rfl rfl ?_)
        refine if_split H84 (fun hb H86 => ?_) (fun hb H86 => ?_)
        ·subst hb
         refine mm tk (.ref id41 0) rfl rfl ?_
         refine wpo_bdr H86 eI rfl rfl rfl (fun v88 hv => h_callr rfl rfl (.cons wr .nil) (judge_Judge_Open_ok hv _ (hH.at_ 0 rfl) (hH.at_ 1 rfl) (hH.at_ 2 rfl) (hH.at_ 3 rfl) (hH.at_ 4 rfl) (hH.pw [0, 1, 2, 3, 4] rfl (by decide)))) fun v88 hv88 H87 => ?_
         refine l_ H87 eB rfl (o_ar tk rfl rfl rfl) fun v90 H89 => ?_
         refine pt tk (eB v90) rfl rfl rfl (mm tk (eB v90) rfl rfl ?_)
         refine if_split H89 (fun hb H91 => ?_) (fun hb H91 => ?_)
         ·subst hb
          refine mm tk (.ref id41 0) rfl rfl ?_
          refine wpo_bdr H91 eI rfl rfl rfl (fun v93 hv => h_callr rfl rfl (.cons wr .nil) (judge_Judge_Told_ok hv _ (hH.at_ 0 rfl) (hH.at_ 1 rfl) (hH.at_ 2 rfl) (hH.at_ 3 rfl) (hH.at_ 4 rfl) (hH.pw [0, 1, 2, 3, 4] rfl (by decide)))) fun v93 hv93 H92 => ?_
          refine l_ H92 eB rfl (o_ar tk rfl rfl rfl) fun v95 H94 => ?_
          refine pt tk (eB v95) rfl rfl rfl (ma tk (eB v95) rfl rfl (wpo_nil (awp_ret ?_)))
          obtain rfl := oi H94
          exact ⟨_, (eB v95), rfl, wr, .of_eq ((enc_b td4 sz4).cut _ _ _), (((((((((hH.noT.drop n42).drop n42_1).drop n42_2).drop n42_3).drop n42_4).drop n29).drop n22).drop n15).drop n6)⟩
         ·subst hb
          refine k_ rfl (k_ rfl (k_ rfl (pf tk (eB false) rfl rfl rfl (ma tk (eB false) rfl rfl (wpo_nil (awp_ret ?_))))))
          obtain rfl := oi H91
          exact ⟨_, (eB false), rfl, wr, .of_eq ((enc_b td4 sz4).cut _ _ _), (((((((((hH.noT.drop n42).drop n42_1).drop n42_2).drop n42_3).drop n42_4).drop n29).drop n22).drop n15).drop n6)⟩
        ·subst hb
         refine k_ rfl (k_ rfl (k_ rfl (pf tk (eB false) rfl rfl rfl (mm tk (eB false) rfl rfl (k_ rfl (k_ rfl (k_ rfl (pf tk (eB false) rfl rfl rfl ?_))))))))
         refine ma tk (eB false) rfl rfl (wpo_nil (awp_ret ?_))
         obtain rfl := oi H86
         exact ⟨_, (eB false), rfl, wr, .of_eq ((enc_b td4 sz4).cut _ _ _), (((((((((hH.noT.drop n42).drop n42_1).drop n42_2).drop n42_3).drop n42_4).drop n29).drop n22).drop n15).drop n6)⟩
       ·subst hb
        refine k_ rfl (k_ rfl (k_ rfl (pf tk (eB false) rfl rfl rfl (mm tk (eB false) rfl rfl (k_ rfl (k_ rfl (k_ rfl (pf tk (eB false) rfl rfl rfl ?_))))))))
        refine mm tk (eB false) rfl rfl (k_ rfl (k_ rfl (k_ rfl (pf tk (eB false) rfl rfl rfl (ma tk (eB false) rfl rfl (wpo_nil (awp_ret ?_)))))))
        obtain rfl := oi H81
        exact ⟨_, (eB false), rfl, wr, .of_eq ((enc_b td4 sz4).cut _ _ _), (((((((((hH.noT.drop n42).drop n42_1).drop n42_2).drop n42_3).drop n42_4).drop n29).drop n22).drop n15).drop n6)⟩
      ·subst hb
       refine k_ rfl (k_ rfl (pf tk (eB false) rfl rfl rfl (mm tk (eB false) rfl rfl (k_ rfl (k_ rfl (k_ rfl (pf tk (eB false) rfl rfl rfl (mm tk (eB false) rfl rfl ?_))))))))
       refine k_ rfl (k_ rfl (k_ rfl (pf tk (eB false) rfl rfl rfl (mm tk (eB false) rfl rfl (k_ rfl (k_ rfl (k_ rfl (pf tk (eB false) rfl rfl rfl ?_))))))))
       refine ma tk (eB false) rfl rfl (wpo_nil (awp_ret ?_))
       obtain rfl := oi H78
       exact ⟨_, (eB false), rfl, wr, .of_eq ((enc_b td4 sz4).cut _ _ _), (((((((((hH.noT.drop n42).drop n42_1).drop n42_2).drop n42_3).drop n42_4).drop n29).drop n22).drop n15).drop n6)⟩
     ·subst hb
      refine k_ rfl (k_ rfl (pf tk (eB false) rfl rfl rfl (mm tk (eB false) rfl rfl (k_ rfl (k_ rfl (pf tk (eB false) rfl rfl rfl (mm tk (eB false) rfl rfl (k_ rfl ?_))))))))
      refine k_ rfl (k_ rfl (pf tk (eB false) rfl rfl rfl (mm tk (eB false) rfl rfl (k_ rfl (k_ rfl (k_ rfl (pf tk (eB false) rfl rfl rfl (mm tk (eB false) rfl rfl ?_))))))))
      refine k_ rfl (k_ rfl (k_ rfl (pf tk (eB false) rfl rfl rfl (ma tk (eB false) rfl rfl (wpo_nil (awp_ret ?_))))))
      obtain rfl := oi H75
      exact ⟨_, (eB false), rfl, wr, .of_eq ((enc_b td4 sz4).cut _ _ _), (((((((((hH.noT.drop n42).drop n42_1).drop n42_2).drop n42_3).drop n42_4).drop n29).drop n22).drop n15).drop n6)⟩
    ·subst hb
     refine k_ rfl (k_ rfl (k_ rfl (k_ rfl (k_ rfl (pf tk (eB false) rfl rfl rfl (mm tk (eB false) rfl rfl (k_ rfl (k_ rfl ?_))))))))
     refine pf tk (eB false) rfl rfl rfl (mm tk (eB false) rfl rfl (k_ rfl (k_ rfl (pf tk (eB false) rfl rfl rfl (mm tk (eB false) rfl rfl (k_ rfl (k_ rfl (k_ rfl ?_))))))))
     refine pf tk (eB false) rfl rfl rfl (mm tk (eB false) rfl rfl (k_ rfl (k_ rfl (k_ rfl (pf tk (eB false) rfl rfl rfl (mm tk (eB false) rfl rfl (k_ rfl (k_ rfl ?_))))))))
     refine k_ rfl (pf tk (eB false) rfl rfl rfl (ma tk (eB false) rfl rfl (wpo_nil (awp_ret ?_))))
     obtain rfl := oi H68
     exact ⟨_, (eB false), rfl, wr, .of_eq ((enc_b td4 sz4).cut _ _ _), (((((((((hH.noT.drop n42).drop n42_1).drop n42_2).drop n42_3).drop n42_4).drop n29).drop n22).drop n15).drop n6)⟩
   ·subst hb
    refine k_ rfl (k_ rfl (k_ rfl (k_ rfl (k_ rfl (pf tk (eB false) rfl rfl rfl (mm tk (eB false) rfl rfl (k_ rfl (k_ rfl ?_))))))))
    refine k_ rfl (k_ rfl (k_ rfl (pf tk (eB false) rfl rfl rfl (mm tk (eB false) rfl rfl (k_ rfl (k_ rfl (pf tk (eB false) rfl rfl rfl (mm tk (eB false) rfl rfl ?_))))))))
    refine k_ rfl (k_ rfl (pf tk (eB false) rfl rfl rfl (mm tk (eB false) rfl rfl (k_ rfl (k_ rfl (k_ rfl (pf tk (eB false) rfl rfl rfl (mm tk (eB false) rfl rfl ?_))))))))
    refine k_ rfl (k_ rfl (k_ rfl (pf tk (eB false) rfl rfl rfl (mm tk (eB false) rfl rfl (k_ rfl (k_ rfl (k_ rfl (pf tk (eB false) rfl rfl rfl ?_))))))))
    refine ma tk (eB false) rfl rfl (wpo_nil (awp_ret ?_))
    obtain rfl := oi H59
    exact ⟨_, (eB false), rfl, wr, .of_eq ((enc_b td4 sz4).cut _ _ _), (((((((((hH.noT.drop n42).drop n42_1).drop n42_2).drop n42_3).drop n42_4).drop n29).drop n22).drop n15).drop n6)⟩
  ·subst hb
   refine k_ rfl (k_ rfl (k_ rfl (k_ rfl (k_ rfl (pf tk (eB false) rfl rfl rfl (mm tk (eB false) rfl rfl (k_ rfl (k_ rfl ?_))))))))
   refine k_ rfl (k_ rfl (k_ rfl (pf tk (eB false) rfl rfl rfl (mm tk (eB false) rfl rfl (k_ rfl (k_ rfl (k_ rfl (k_ rfl ?_))))))))
   refine k_ rfl (pf tk (eB false) rfl rfl rfl (mm tk (eB false) rfl rfl (k_ rfl (k_ rfl (pf tk (eB false) rfl rfl rfl (mm tk (eB false) rfl rfl (k_ rfl (k_ rfl ?_))))))))
   refine pf tk (eB false) rfl rfl rfl (mm tk (eB false) rfl rfl (k_ rfl (k_ rfl (k_ rfl (pf tk (eB false) rfl rfl rfl (mm tk (eB false) rfl rfl (k_ rfl (k_ rfl ?_))))))))
   refine k_ rfl (pf tk (eB false) rfl rfl rfl (mm tk (eB false) rfl rfl (k_ rfl (k_ rfl (k_ rfl (pf tk (eB false) rfl rfl rfl (ma tk (eB false) rfl rfl (wpo_nil ?_))))))))
   refine awp_ret ?_
   obtain rfl := oi H50
   exact ⟨_, (eB false), rfl, wr, .of_eq ((enc_b td4 sz4).cut _ _ _), (((((((((hH.noT.drop n42).drop n42_1).drop n42_2).drop n42_3).drop n42_4).drop n29).drop n22).drop n15).drop n6)⟩
 ·rw [hb]
  refine k_ rfl (k_ rfl (pf tk (eB false) rfl rfl rfl (mm tk (eB false) rfl rfl (k_ rfl (k_ rfl (k_ rfl (k_ rfl (k_ rfl ?_))))))))
  refine pf tk (eB false) rfl rfl rfl (mm tk (eB false) rfl rfl (k_ rfl (k_ rfl (k_ rfl (k_ rfl (k_ rfl (pf tk (eB false) rfl rfl rfl (mm tk (eB false) rfl rfl ?_))))))))
  refine k_ rfl (k_ rfl (k_ rfl (k_ rfl (k_ rfl (pf tk (eB false) rfl rfl rfl (mm tk (eB false) rfl rfl (k_ rfl (k_ rfl ?_))))))))
  refine pf tk (eB false) rfl rfl rfl (mm tk (eB false) rfl rfl (k_ rfl (k_ rfl (pf tk (eB false) rfl rfl rfl (mm tk (eB false) rfl rfl (k_ rfl (k_ rfl (k_ rfl ?_))))))))
  refine pf tk (eB false) rfl rfl rfl (mm tk (eB false) rfl rfl (k_ rfl (k_ rfl (k_ rfl (pf tk (eB false) rfl rfl rfl (mm tk (eB false) rfl rfl (k_ rfl (k_ rfl ?_))))))))
  refine k_ rfl (pf tk (eB false) rfl rfl rfl (ma tk (eB false) rfl rfl (wpo_nil (awp_ret ?_))))
  obtain rfl := oi H47
  exact ⟨_, (eB false), rfl, wr, .of_eq ((enc_b td4 sz4).cut _ _ _), (((((((((hH.noT.drop n42).drop n42_1).drop n42_2).drop n42_3).drop n42_4).drop n29).drop n22).drop n15).drop n6)⟩
end Go.Proofs.YtgeflfdonoicaaaDoor

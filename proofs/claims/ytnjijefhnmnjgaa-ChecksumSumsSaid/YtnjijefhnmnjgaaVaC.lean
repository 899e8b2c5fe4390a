/- How the invariant goes on: new variables, new rows, stores. -/
import Derived.Test.YtnjijefhnmnjgaaVaB
namespace Go.Va
open Go Go.RowKit
set_option linter.unusedVariables false
set_option linter.unusedSimpArgs false

theorem alloc_cell_lt {w : World} (o : Obj) {b c : Nat} (h : b < w.heap.size) : (w.alloc o).cell? ⟨b, c, none⟩ = w.cell? ⟨b, c, none⟩ := World.cell?_alloc_lt w o ⟨b, c, none⟩ h
theorem alloc_heap_lt {w : World} (o : Obj) {b : Nat} (h : b < w.heap.size) : (w.alloc o).heap[b]? = w.heap[b]? := heap_alloc_old w o b h

/-- A new variable. -/
def Ghost.addLoc (G : Ghost) (id b : Nat) : Ghost := { G with loc := fun i => if i = id then some b else G.loc i }
theorem Inv.alloc_loc {w0 : World} {G : Ghost} {w : World} {σ : St} (h : Inv w0 G w σ) (vs : Array Value) (T : TypeId) (cells : List AV) (hr : RelL G vs.toList cells) (h1 : ∀ v ∈ vs.toList, v.oneCell' = true) :
    G.Le (G.addLoc σ.objs.length w.heap.size) ∧ Inv w0 (G.addLoc σ.objs.length w.heap.size) (w.alloc (.cells vs T)) ⟨σ.objs ++ [cells], σ.opn⟩ := by
  have hnone : ∀ i b, G.loc i = some b → i ≠ σ.objs.length := fun i b hi he => by have := h.locdom i b hi; omega
  have hle : G.Le (G.addLoc σ.objs.length w.heap.size) := ⟨fun _ _ _ h => h, fun i b hi => by simp [Ghost.addLoc, hnone i b hi, hi], fun _ _ h => h, Nat.le_refl _, fun _ h => h⟩
  have hsz := h.below.size
  refine ⟨hle, ⟨h.below.alloc hsz _, fun b o v hf => ?_, fun id c hc => ?_, fun id b o hl => ?_, fun id b hl => ?_, fun i j b hi hj => ?_, fun t b top en ho ht => ?_, fun t x ht => h.tokdom t x ht, fun t t' x x' a1 a2 a3 a4 => h.tokinj t t' x x' a1 a2 a3 a4, h.nt, fun b hb => ?_⟩⟩
  · exact ⟨(alloc_cell_lt _ (h.fzlt hf)).trans (h.fz b o v hf).1, (h.fz b o v hf).2⟩
  · by_cases hid : id < σ.objs.length
    · rw [List.getElem?_append_left hid] at hc
      obtain ⟨b, T', vs', e1, e2, e3, e4, e5⟩ := h.loc id c hc
      exact ⟨b, T', vs', hle.loc _ _ e1, e2, (alloc_heap_lt _ (h.loclt e1)).trans e3, e4.mono hle, e5⟩
    · rw [List.getElem?_append_right (by omega)] at hc
      have : id - σ.objs.length = 0 := by
        rcases Nat.eq_zero_or_pos (id - σ.objs.length) with h0 | h0
        · exact h0
        · rw [List.getElem?_eq_none (by simp; omega)] at hc; cases hc
      have hide : id = σ.objs.length := by omega
      subst hide
      simp at hc
      subst hc
      exact ⟨w.heap.size, T, vs, by simp [Ghost.addLoc], hsz, heap_alloc_new w _, hr.mono hle, h1⟩
  · simp only [Ghost.addLoc] at hl
    split at hl
    · injection hl with hl; subst hl
      cases hz : (G.addLoc σ.objs.length w.heap.size).fz w.heap.size o with
      | none => rfl
      | some v => exact absurd (h.fzlt (b := w.heap.size) (o := o) hz) (by omega)
    · exact h.locfz id b o hl
  · simp only [Ghost.addLoc] at hl
    split at hl
    · simp; omega
    · have := h.locdom id b hl; simp; omega
  · simp only [Ghost.addLoc] at hi hj
    split at hi <;> split at hj
    · omega
    · injection hi with hi; subst hi; exact absurd (h.loclt hj) (by omega)
    · injection hj with hj; subst hj; exact absurd (h.loclt hi) (by omega)
    · exact h.locinj i j b hi hj
  · obtain ⟨e1, ⟨cs, T', e2, e3⟩, e4, e5⟩ := h.tok t b top en ho ht
    have hb : b < w.heap.size := (Array.getElem?_eq_some_iff.1 e2).1
    refine ⟨e1, ⟨cs, T', (alloc_heap_lt _ hb).trans e2, e3⟩, e4, fun id hl => ?_⟩
    simp only [Ghost.addLoc] at hl
    split at hl
    · injection hl with hl; omega
    · exact e5 id hl
  · obtain ⟨k1, k2, k3, k4⟩ := h.lit b hb
    refine ⟨k1, by simp; omega, fun id hl => ?_, k4⟩
    simp only [Ghost.addLoc] at hl
    split at hl
    · injection hl with hl; omega
    · exact k3 id hl

/-- A new row whose first m cells will never change; a token stands for the room behind them, if 'tk'. -/
def Ghost.addRow (G : Ghost) (b : Nat) (vs : List Value) (t : Nat) (tk : Option (Nat × Nat × Nat)) : Ghost :=
  { G with fz := fun x o => if x = b then vs[o]? else G.fz x o, tok := fun i => if i = t then (match tk with | some x => some x | none => G.tok i) else G.tok i, nt := if tk.isSome = true then t + 1 else G.nt }
theorem Inv.alloc_row {w0 : World} {G : Ghost} {w : World} {σ : St} (h : Inv w0 G w σ) (cs : Array Value) (T : TypeId) (m : Nat) (hm : m ≤ cs.size) (h1 : ∀ v ∈ cs.toList.take m, v.oneCell' = true) :
    G.Le (G.addRow w.heap.size (cs.toList.take m) σ.opn.length (some (w.heap.size, m, cs.size))) ∧
    Inv w0 (G.addRow w.heap.size (cs.toList.take m) σ.opn.length (some (w.heap.size, m, cs.size))) (w.alloc (.cells cs T)) ⟨σ.objs, σ.opn ++ [true]⟩ := by
  have hlt : ∀ b o v, G.fz b o = some v → b ≠ w.heap.size := fun b o v hf => by have := h.fzlt hf; omega
  have htn : ∀ t x, G.tok t = some x → t ≠ σ.opn.length := fun t x ht => by have := h.tokdom t x ht; omega
  have hle : G.Le (G.addRow w.heap.size (cs.toList.take m) σ.opn.length (some (w.heap.size, m, cs.size))) :=
    ⟨fun b o v hf => by simp [Ghost.addRow, hlt b o v hf, hf], fun _ _ h => h, fun t x ht => by simp [Ghost.addRow, htn t x ht, ht], by simp [Ghost.addRow]; have := h.nt; omega, fun _ h => h⟩
  have hsz := h.below.size
  have hlocb : ∀ id b, G.loc id = some b → b ≠ w.heap.size := fun id b hl => by have := h.loclt hl; omega
  refine ⟨hle, ⟨h.below.alloc hsz _, fun b o v hf => ?_, fun id c hc => ?_, fun id b o hl => ?_, fun id b hl => h.locdom id b hl, fun i j b hi hj => h.locinj i j b hi hj, fun t b top en ho ht => ?_, fun t x ht => ?_, fun t t' x x' a1 a2 a3 a4 a5 => ?_, by simp [Ghost.addRow], fun b hb => ?_⟩⟩
  · simp only [Ghost.addRow] at hf
    split at hf
    · rename_i hb; subst hb
      rw [World.cell?_alloc_new]
      rw [List.getElem?_take] at hf
      split at hf
      · refine ⟨by simpa using hf, h1 v ?_⟩
        refine List.mem_iff_getElem?.2 ⟨o, ?_⟩
        rw [List.getElem?_take]
        simp [*]
      · cases hf
    · exact ⟨(alloc_cell_lt _ (h.fzlt hf)).trans (h.fz b o v hf).1, (h.fz b o v hf).2⟩
  · obtain ⟨b, T', vs', e1, e2, e3, e4, e5⟩ := h.loc id c hc
    exact ⟨b, T', vs', hle.loc _ _ e1, e2, (alloc_heap_lt _ (h.loclt e1)).trans e3, e4.mono hle, e5⟩
  · simp only [Ghost.addRow]
    rw [if_neg (hlocb id b hl)]
    exact h.locfz id b o hl
  · by_cases htt : t < σ.opn.length
    · have ht' : G.tok t = some (b, top, en) := by
        simp only [Ghost.addRow] at ht
        rw [if_neg (by omega)] at ht
        exact ht
      rw [List.getElem?_append_left htt] at ho
      obtain ⟨e1, ⟨cs', T', e2, e3⟩, e4, e5⟩ := h.tok t b top en ho ht'
      have hb : b < w.heap.size := (Array.getElem?_eq_some_iff.1 e2).1
      refine ⟨e1, ⟨cs', T', (alloc_heap_lt _ hb).trans e2, e3⟩, fun o ho' => ?_, e5⟩
      simp only [Ghost.addRow]
      rw [if_neg (by omega)]
      exact e4 o ho'
    · have : t = σ.opn.length := by
        rcases Nat.lt_or_ge t (σ.opn ++ [true]).length with hx | hx
        · simp at hx; omega
        · rw [List.getElem?_eq_none hx] at ho; cases ho
      subst this
      simp only [Ghost.addRow, if_true] at ht
      injection ht with ht
      injection ht with e1 e2
      injection e2 with e2 e3
      subst e1; subst e2; subst e3
      refine ⟨hsz, ⟨cs, T, heap_alloc_new w _, Nat.le_refl _⟩, fun o ho' => ?_, fun id hl => hlocb id _ hl rfl⟩
      simp only [Ghost.addRow, if_true]
      rw [List.getElem?_eq_none]
      simp; omega
  · simp only [Ghost.addRow] at ht
    split at ht
    · simp; omega
    · have := h.tokdom t x ht; simp; omega
  · have key : ∀ t x, (σ.opn ++ [true])[t]? = some true → (G.addRow w.heap.size (cs.toList.take m) σ.opn.length (some (w.heap.size, m, cs.size))).tok t = some x → (t = σ.opn.length ∧ x.1 = w.heap.size) ∨ (t < σ.opn.length ∧ σ.opn[t]? = some true ∧ G.tok t = some x ∧ x.1 < w.heap.size) := by
      intro t x ho ht
      simp only [Ghost.addRow] at ht
      split at ht
      · rename_i he
        injection ht with ht
        exact .inl ⟨he, by rw [← ht]⟩
      · have hlt := h.tokdom t x ht
        rw [List.getElem?_append_left hlt] at ho
        obtain ⟨b, top, en⟩ := x
        obtain ⟨_, ⟨cs', T', e2, _⟩, _, _⟩ := h.tok t b top en ho ht
        exact .inr ⟨hlt, ho, ht, (Array.getElem?_eq_some_iff.1 e2).1⟩
    rcases key t x a1 a3 with ⟨k1, k2⟩ | ⟨k1, k2, k3, k4⟩ <;> rcases key t' x' a2 a4 with ⟨l1, l2⟩ | ⟨l1, l2, l3, l4⟩
    · omega
    · omega
    · omega
    · exact h.tokinj t t' x x' k2 l2 k3 l3 a5
  · obtain ⟨k1, k2, k3, k4⟩ := h.lit b hb
    refine ⟨k1, by simp; omega, k3, fun t x ho ht => ?_⟩
    simp only [Ghost.addRow] at ht
    split at ht
    · injection ht with ht
      rw [← ht]
      simp only
      omega
    · have hlt := h.tokdom t x ht
      rw [List.getElem?_append_left hlt] at ho
      exact k4 t x ho ht

/-- No token. -/
theorem Inv.alloc_fz {w0 : World} {G : Ghost} {w : World} {σ : St} (h : Inv w0 G w σ) (cs : Array Value) (T : TypeId) (h1 : ∀ v ∈ cs.toList, v.oneCell' = true) (fr : Nat × Nat) :
    G.Le (G.addRow w.heap.size cs.toList 0 none) ∧ Inv w0 (G.addRow w.heap.size cs.toList 0 none) (w.alloc (.cells cs T fr)) σ := by
  have hlt : ∀ b o v, G.fz b o = some v → b ≠ w.heap.size := fun b o v hf => by have := h.fzlt hf; omega
  have htok : ∀ t, (G.addRow w.heap.size cs.toList 0 none).tok t = G.tok t := fun t => by simp [Ghost.addRow]
  have hle : G.Le (G.addRow w.heap.size cs.toList 0 none) :=
    ⟨fun b o v hf => by simp [Ghost.addRow, hlt b o v hf, hf], fun _ _ h => h, fun t x ht => by rw [htok]; exact ht, by simp [Ghost.addRow], fun _ h => h⟩
  have hsz := h.below.size
  have hlocb : ∀ id b, G.loc id = some b → b ≠ w.heap.size := fun id b hl => by have := h.loclt hl; omega
  refine ⟨hle, ⟨h.below.alloc hsz _, fun b o v hf => ?_, fun id c hc => ?_, fun id b o hl => ?_, fun id b hl => h.locdom id b hl, fun i j b hi hj => h.locinj i j b hi hj, fun t b top en ho ht => ?_, fun t x ht => h.tokdom t x (by rw [← htok]; exact ht), fun t t' x x' a1 a2 a3 a4 a5 => h.tokinj t t' x x' a1 a2 (by rw [← htok]; exact a3) (by rw [← htok]; exact a4) a5, by simp [Ghost.addRow]; exact h.nt, fun b hb => by
    obtain ⟨k1, k2, k3, k4⟩ := h.lit b hb
    exact ⟨k1, by simp; omega, k3, fun t x ho ht => k4 t x ho (by rw [← htok]; exact ht)⟩⟩⟩
  · simp only [Ghost.addRow] at hf
    split at hf
    · rename_i hb; subst hb
      refine ⟨?_, h1 v (List.mem_iff_getElem?.2 ⟨o, hf⟩)⟩
      have : (w.alloc (.cells cs T fr)).heap[w.heap.size]? = some (.cells cs T fr) := heap_alloc_new w _
      rw [cell_of_row _ _ _ cs T fr this]
      simpa using hf
    · exact ⟨(alloc_cell_lt _ (h.fzlt hf)).trans (h.fz b o v hf).1, (h.fz b o v hf).2⟩
  · obtain ⟨b, T', vs', e1, e2, e3, e4, e5⟩ := h.loc id c hc
    exact ⟨b, T', vs', hle.loc _ _ e1, e2, (alloc_heap_lt _ (h.loclt e1)).trans e3, e4.mono hle, e5⟩
  · simp only [Ghost.addRow]
    rw [if_neg (hlocb id b hl)]
    exact h.locfz id b o hl
  · rw [htok] at ht
    obtain ⟨e1, ⟨cs', T', e2, e3⟩, e4, e5⟩ := h.tok t b top en ho ht
    have hb : b < w.heap.size := (Array.getElem?_eq_some_iff.1 e2).1
    refine ⟨e1, ⟨cs', T', (alloc_heap_lt _ hb).trans e2, e3⟩, fun o ho' => ?_, e5⟩
    simp only [Ghost.addRow]
    rw [if_neg (by omega)]
    exact e4 o ho'
/-- A row of what is written out: nothing else is known of it. -/
def Ghost.addLit (G : Ghost) (b : Nat) : Ghost := { G with lit := fun x => if x = b then true else G.lit x }
theorem Inv.lit_new {w0 : World} {G : Ghost} {w : World} {σ : St} (h : Inv w0 G w σ) {b : Nat} (h1 : w0.heap.size ≤ b) (h2 : b < w.heap.size) (h3 : ∀ id, G.loc id ≠ some b) (h4 : ∀ t x, σ.opn[t]? = some true → G.tok t = some x → x.1 ≠ b) : G.Le (G.addLit b) ∧ Inv w0 (G.addLit b) w σ := by
  have hle : G.Le (G.addLit b) := ⟨fun _ _ _ h => h, fun _ _ h => h, fun _ _ h => h, Nat.le_refl _, fun x hx => by simp only [Ghost.addLit]; split <;> simp [hx]⟩
  refine ⟨hle, ⟨h.below, h.fz, fun id c hc => ?_, h.locfz, h.locdom, h.locinj, h.tok, h.tokdom, h.tokinj, h.nt, fun x hx => ?_⟩⟩
  · obtain ⟨b', T', vs', e1, e2, e3, e4, e5⟩ := h.loc id c hc
    exact ⟨b', T', vs', e1, e2, e3, e4.mono hle, e5⟩
  · simp only [Ghost.addLit] at hx
    split at hx
    · rename_i he; subst he; exact ⟨h1, h2, h3, h4⟩
    · exact h.lit x hx
end Go.Va

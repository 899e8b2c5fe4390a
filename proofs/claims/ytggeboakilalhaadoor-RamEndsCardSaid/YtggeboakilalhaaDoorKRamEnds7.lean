/- Nothing that has ended is got; behind a sweep there is nothing that has ended, and all else is as it was. (part 7 of 8) -/
import Derived.Test.YtggeboakilalhaaDoorKRamEnds6
import Derived.ChangeSame
import Derived.ChangeVars
import Derived.JoinedOf
import Derived.LaidHandle
import Derived.LaidLaws
import Derived.RowKit
import Derived.RowKitTokens
import Derived.Stop.Joined
import Derived.Test.YtggeboakilalhaaDoorRows
namespace Go.Proofs.YtggeboakilalhaaDoor
open Go Go.Va
set_option linter.unusedVariables false
set_option linter.unusedSimpArgs false
def At {α : Type} (l : List α) (i : Int) (y : α) : Prop := 0 ≤ i ∧ l[i.toNat]? = some y
section
variable {α : Type} {l : List α} {i j : Int} {y z : α}
theorem At.lt (h : At l i y) : i < l.length := by
  have := (List.getElem?_eq_some_iff.1 h.2).1
  have := h.1
  omega
theorem At.chk (h : At l i y) : chk l.length i = some () := if_pos ⟨h.1, h.lt⟩
theorem At.ixA (h : At l i y) : ixA l.length l i = some y := (if_pos ⟨h.1, h.lt⟩).trans h.2
theorem At.updA (h : At l i y) (f : α → α) : updA l.length l i f = some (l.set i.toNat (f y)) := by
  unfold Go.Va.updA
  rw [h.ixA]
  rfl
theorem At.same (h : At l i y) (z : α) : At (l.set i.toNat z) i z := ⟨h.1, by rw [List.getElem?_set_self]; have := h.lt; have := h.1; omega⟩
theorem At.ne (h : At l j y) (hi : 0 ≤ i) (hn : j ≠ i) (z : α) : At (l.set i.toNat z) j y := ⟨h.1, by
  rw [List.getElem?_set_ne (by have := h.1; omega)]; exact h.2⟩
theorem At.uniq (h : At l i y) (h' : At l i z) : y = z := Option.some.inj (h.2.symm.trans h'.2)
theorem at_nat {k : Nat} (h : l[k]? = some y) : At l (k : Int) y := ⟨by omega, by simpa using h⟩
theorem at_ex (h0 : 0 ≤ i) (h1 : i < l.length) : ∃ y, At l i y := ⟨l[i.toNat]'(by omega), h0, List.getElem?_eq_getElem _⟩
end
def hdp : List Int → Int → Int
  | [], q => q
  | m :: _, _ => m
def lsp : Int → List Int → Int
  | p, [] => p
  | _, m :: l => lsp m l
theorem hdp_app (a b : List Int) (q : Int) : hdp (a ++ b) q = hdp a (hdp b q) := by cases a <;> rfl
theorem lsp_app : ∀ (p : Int) (a b : List Int), lsp p (a ++ b) = lsp (lsp p a) b
  | _, [], _ => rfl
  | _, m :: a, b => lsp_app m a b
theorem lsp_mem : ∀ {l : List Int} {p : Int}, l ≠ [] → lsp p l ∈ l
  | [], _, h => absurd rfl h
  | [a], _, _ => List.mem_cons_self
  | a :: b :: l, p, _ => List.mem_cons_of_mem _ (lsp_mem (l := b :: l) (p := a) (by simp))
def dl (g : Int → lists_link) (i : Int) : Int → List Int → Int → Prop
  | _, [], _ => True
  | p, n :: l, q => (g n).ahead = p ∧ (g n).behind = hdp l q ∧ (g n).list = i ∧ dl g i n l q
theorem dl_congr {g g' : Int → lists_link} {i : Int} : ∀ {p : Int} {l : List Int} {q : Int}, (∀ n ∈ l, (g n).ahead = (g' n).ahead ∧ (g n).behind = (g' n).behind ∧ (g n).list = (g' n).list) → dl g i p l q → dl g' i p l q
  | _, [], _, _, _ => trivial
  | p, n :: l, q, h, hd => by
    obtain ⟨h1, h2, h3, h4⟩ := hd
    obtain ⟨e1, e2, e3⟩ := h n List.mem_cons_self
    exact ⟨e1 ▸ h1, e2 ▸ h2, e3 ▸ h3, dl_congr (fun m hm => h m (List.mem_cons_of_mem _ hm)) h4⟩
theorem dl_app {g : Int → lists_link} {i : Int} : ∀ {p : Int} {a b : List Int} {q : Int}, dl g i p (a ++ b) q ↔ dl g i p a (hdp b q) ∧ dl g i (lsp p a) b q
  | _, [], _, _ => by simp [dl, lsp]
  | p, n :: a, b, q => by
    simp only [List.cons_append, dl, lsp, hdp_app]
    rw [dl_app (p := n) (a := a)]
    simp only [and_assoc]
theorem dl_list {g : Int → lists_link} {i : Int} : ∀ {p : Int} {l : List Int} {q : Int}, dl g i p l q → ∀ n ∈ l, (g n).list = i
  | _, n :: l, _, h, m, hm => by
    rcases List.mem_cons.1 hm with rfl | hm
    · exact h.2.2.1
    · exact dl_list h.2.2.2 m hm
def fup (g : Int → lists_link) (n : Int) (v : lists_link) : Int → lists_link := fun m => if m = n then v else g m
theorem fup_same {g : Int → lists_link} {n : Int} {v : lists_link} : fup g n v n = v := if_pos rfl
theorem fup_ne {g : Int → lists_link} {n m : Int} {v : lists_link} (h : m ≠ n) : fup g n v m = g m := if_neg h
theorem dl_q {g : Int → lists_link} {i q' : Int} : ∀ {p : Int} {a : List Int} {q : Int}, a ≠ [] → a.Nodup → dl g i p a q → dl (fup g (lsp p a) { g (lsp p a) with behind := q' }) i p a q'
  | _, [], _, h, _, _ => absurd rfl h
  | p, [n], q, _, _, hd => by
    simp only [dl, lsp, fup_same, hdp] at hd ⊢
    exact ⟨hd.1, trivial, hd.2.2.1, trivial⟩
  | p, n :: m :: a, q, _, hn, hd => by
    obtain ⟨h1, h2, h3, h4⟩ := hd
    have hn' := List.nodup_cons.1 hn
    have hne : n ≠ lsp n (m :: a) := fun e => hn'.1 (e ▸ lsp_mem (by simp))
    have := dl_q (p := n) (q' := q') (by simp) hn'.2 h4
    refine ⟨?_, ?_, ?_, this⟩
    · show (fup g (lsp n (m :: a)) _ n).ahead = p
      rw [fup_ne hne]; exact h1
    · show (fup g (lsp n (m :: a)) _ n).behind = m
      rw [fup_ne hne]; exact h2
    · show (fup g (lsp n (m :: a)) _ n).list = i
      rw [fup_ne hne]; exact h3
theorem dl_p {g : Int → lists_link} {i p p' m q : Int} {l : List Int} (hn : (m :: l).Nodup) (hd : dl g i p (m :: l) q) : dl (fup g m { g m with ahead := p' }) i p' (m :: l) q := by
  obtain ⟨h1, h2, h3, h4⟩ := hd
  refine ⟨by rw [fup_same], by rw [fup_same]; exact h2, by rw [fup_same]; exact h3, dl_congr (fun n hm => ?_) h4⟩
  have e : n ≠ m := fun e => (List.nodup_cons.1 hn).1 (e ▸ hm)
  rw [fup_ne e]
  exact ⟨rfl, rfl, rfl⟩
def fl (g : Int → lists_link) : List Int → Prop
  | [] => True
  | n :: l => (g n).behind = hdp l (-1) ∧ (g n).list = -1 ∧ fl g l
theorem fl_congr {g g' : Int → lists_link} : ∀ {l : List Int}, (∀ n ∈ l, g n = g' n) → fl g l → fl g' l
  | [], _, _ => trivial
  | n :: l, h, hd => ⟨by rw [← h n List.mem_cons_self]; exact hd.1, by rw [← h n List.mem_cons_self]; exact hd.2.1, fl_congr (fun m hm => h m (List.mem_cons_of_mem _ hm)) hd.2.2⟩
def Rep (t : List lists_link) (g : Int → lists_link) : Prop := ∀ n : Int, 0 ≤ n → n < t.length → At t n (g n)
theorem Rep.set {t : List lists_link} {g : Int → lists_link} (h : Rep t g) {n : Int} (h0 : 0 ≤ n) (h1 : n < t.length) (v : lists_link) : Rep (t.set n.toNat v) (fup g n v) := fun m hm hl => by
  rw [List.length_set] at hl
  unfold fup
  split
  · rename_i e; subst e; exact (h m hm hl).same v
  · rename_i e; exact (h m hm hl).ne h0 e v
def but (l : List Int) (n : Int) : List Int := l.filter (fun m => m != n)
theorem but_split {a b : List Int} {n : Int} (h : (a ++ n :: b).Nodup) : but (a ++ n :: b) n = a ++ b := by
  unfold but
  rw [List.nodup_append] at h
  obtain ⟨h1, h2, h3⟩ := h
  rw [List.filter_append, List.filter_cons, if_neg (by simp), List.filter_eq_self.2 (fun m hm => by simpa using h3 m hm n List.mem_cons_self), List.filter_eq_self.2 (fun m hm => by simpa using show ¬ m = n from fun e => (List.nodup_cons.1 h2).1 (e ▸ hm))]
theorem but_not {l : List Int} {n : Int} (h : n ∉ l) : but l n = l := List.filter_eq_self.2 fun m hm => by simpa using show ¬ m = n from fun e => h (e ▸ hm)
theorem mem_but {l : List Int} {n m : Int} : m ∈ but l n ↔ m ∈ l ∧ m ≠ n := by simp [but]
theorem lsp_get : ∀ {l : List Int} {p : Int}, l ≠ [] → l[l.length - 1]? = some (lsp p l)
  | [], _, h => absurd rfl h
  | [a], _, _ => rfl
  | a :: b :: l, p, _ => by
    have := lsp_get (l := b :: l) (p := a) (by simp)
    simpa [lsp] using this
theorem At.of_set {α : Type} {l : List α} {i j : Int} {y z w : α} (hw : At l i w) (h : At (l.set i.toNat z) j y) : (j = i ∧ y = z) ∨ (j ≠ i ∧ At l j y) := by
  by_cases hj : j = i
  · subst hj
    exact .inl ⟨rfl, h.uniq (hw.same z)⟩
  · refine .inr ⟨hj, h.1, ?_⟩
    have h2 := h.2
    rwa [List.getElem?_set_ne (by have := h.1; have := hw.1; omega)] at h2
structure Gd (g : Int → lists_link) (fs ls cs : List Int) (L : List (List Int)) : Prop where
  f : fs.length = L.length
  l : ls.length = L.length
  c : cs.length = L.length
  dll : ∀ (i : Int) l, At L i l → dl g i (-1) l (-1) ∧ At fs i (hdp l (-1)) ∧ At ls i (lsp (-1) l) ∧ At cs i (l.length : Int)
def ulEq (g g' : Int → lists_link) : Prop := ∀ m, (g' m).used = (g m).used ∧ (g' m).list = (g m).list
theorem ulEq.fup {g : Int → lists_link} {n : Int} {v : lists_link} (h1 : v.used = (g n).used) (h2 : v.list = (g n).list) : ulEq g (fup g n v) := fun m => by
  unfold Go.Proofs.YtggeboakilalhaaDoor.fup
  split
  · rename_i e; subst e; exact ⟨h1, h2⟩
  · exact ⟨rfl, rfl⟩
theorem pull_eq {x : lists_Lists} {g : Int → lists_link} {L : List (List Int)} {i n : Int} {a b : List Int} (hr : Rep x.nodes g) (hg : Gd g x.first_ x.last_ x.count L) (hl : At L i (a ++ n :: b)) (hnd : (a ++ n :: b).Nodup) (hrg : ∀ m ∈ a ++ n :: b, 0 ≤ m ∧ m < x.nodes.length)
    (hdis : ∀ j l, At L j l → j ≠ i → ∀ m ∈ a ++ n :: b, m ∉ l) (hlen : (a ++ n :: b).length ≤ 70000) :
    ∃ x' g', lists_Lists_pull x n = some x' ∧ Rep x'.nodes g' ∧ x'.nodes.length = x.nodes.length ∧ Gd g' x'.first_ x'.last_ x'.count (L.set i.toNat (a ++ b)) ∧ x'.free = x.free ∧ x'.clock = x.clock ∧ ulEq g g' ∧ ∀ m, m ∉ a → m ∉ b → g' m = g m := by
  obtain ⟨n0, n1⟩ := hrg n (by simp)
  have hn := hr n n0 n1
  obtain ⟨hd, hf, hla, hc⟩ := hg.dll i _ hl
  obtain ⟨da, e1, e2, e3, db⟩ := dl_app.1 hd
  rw [List.nodup_append] at hnd
  obtain ⟨hna, hnb, hab⟩ := hnd
  obtain ⟨hnnb, hnb⟩ := List.nodup_cons.1 hnb
  have ra : ∀ m ∈ a, 0 ≤ m ∧ m < x.nodes.length := fun m hm => hrg m (by simp [hm])
  have rb : ∀ m ∈ b, 0 ≤ m ∧ m < x.nodes.length := fun m hm => hrg m (by simp [hm])
  have hab' : ∀ m ∈ a, m ∉ b := fun m hm hb => hab m hm m (List.mem_cons_of_mem _ hb) rfl
  obtain ⟨N1, f1, g1, r1, l1, lf, af, of, d1, s1, u1, k1⟩ : ∃ N1 f1 g1, Rep N1 g1 ∧ N1.length = x.nodes.length ∧ f1.length = x.first_.length ∧ At f1 i (hdp (a ++ b) (-1)) ∧ (∀ j y, j ≠ i → At x.first_ j y → At f1 j y) ∧ dl g1 i (-1) a (hdp b (-1)) ∧ (∀ m, m ∉ a → g1 m = g m) ∧ ulEq g g1 ∧
      ∀ (k : List lists_link × List Int → Option lists_Lists), ((if ((g n).ahead == (-1 : Int)) = true then (chk x.first_.length (g n).list).bind fun _ => (updA x.first_.length x.first_ (g n).list (fun _ => (g n).behind)).bind fun c => some (x.nodes, c) else (chk x.nodes.length (g n).ahead).bind fun _ => (updA x.nodes.length x.nodes (g n).ahead (fun y => ({ y with behind := (g n).behind } : lists_link))).bind fun c => some (c, x.first_)).bind k) = k (N1, f1) := by
    rw [e1, e2, e3]
    by_cases ha : a = []
    · subst ha
      refine ⟨x.nodes, x.first_.set i.toNat (hdp b (-1)), g, hr, rfl, by simp, hf.same _, fun j y hj hy => hy.ne hf.1 hj _, trivial, fun _ _ => rfl, fun m => ⟨rfl, rfl⟩, fun k => ?_⟩
      rw [if_pos (by simp [lsp]), hf.chk, Option.bind_some, hf.updA]
      rfl
    · have hm := lsp_mem (p := -1) ha
      obtain ⟨m0, m1⟩ := ra _ hm
      have hat := hr _ m0 m1
      refine ⟨x.nodes.set (lsp (-1) a).toNat _, x.first_, fup g (lsp (-1) a) { g (lsp (-1) a) with behind := hdp b (-1) }, hr.set m0 m1 _, by simp, rfl, ?_, fun j y _ hy => hy, dl_q ha hna da, fun m hma => fup_ne (fun e => hma (e ▸ hm)), .fup rfl rfl, fun k => ?_⟩
      · rw [hdp_app] at hf ⊢
        cases a with
        | nil => exact absurd rfl ha
        | cons c a => exact hf
      · rw [if_neg (by simp; omega), hat.chk, Option.bind_some, hat.updA]
        rfl
  have db1 : dl g1 i n b (-1) := dl_congr (fun m hm => by rw [s1 m (fun h => hab' m h hm)]; exact ⟨rfl, rfl, rfl⟩) db
  obtain ⟨N2, f2, g2, r2, l2, lf2, af2, of2, d2, s2, u2, k2⟩ : ∃ N2 f2 g2, Rep N2 g2 ∧ N2.length = N1.length ∧ f2.length = x.last_.length ∧ At f2 i (lsp (-1) (a ++ b)) ∧ (∀ j y, j ≠ i → At x.last_ j y → At f2 j y) ∧ dl g2 i (lsp (-1) a) b (-1) ∧ (∀ m, m ∉ b → g2 m = g1 m) ∧ ulEq g1 g2 ∧
      ∀ (k : List lists_link × List Int → Option lists_Lists), ((if ((g n).behind == (-1 : Int)) = true then (chk x.last_.length (g n).list).bind fun _ => (updA x.last_.length x.last_ (g n).list (fun _ => (g n).ahead)).bind fun c => some (N1, c) else (chk N1.length (g n).behind).bind fun _ => (updA N1.length N1 (g n).behind (fun y => ({ y with ahead := (g n).ahead } : lists_link))).bind fun c => some (c, x.last_)).bind k) = k (N2, f2) := by
    rw [e1, e2, e3]
    cases b with
    | nil =>
      refine ⟨N1, x.last_.set i.toNat (lsp (-1) a), g1, r1, rfl, by simp, by rw [List.append_nil]; exact hla.same _, fun j y hj hy => hy.ne hla.1 hj _, trivial, fun _ _ => rfl, fun m => ⟨rfl, rfl⟩, fun k => ?_⟩
      rw [if_pos (by simp [hdp]), hla.chk, Option.bind_some, hla.updA]
      rfl
    | cons c b =>
      obtain ⟨m0, m1⟩ := rb c (by simp)
      have hat := r1 c m0 (by omega)
      refine ⟨N1.set c.toNat _, x.last_, fup g1 c { g1 c with ahead := lsp (-1) a }, r1.set m0 (by omega) _, by simp, rfl, ?_, fun j y _ hy => hy, dl_p hnb db1, fun m hmb => fup_ne (fun e => hmb (by rw [e]; exact List.mem_cons_self)), .fup rfl rfl, fun k => ?_⟩
      · rw [lsp_app] at hla ⊢
        exact hla
      · rw [if_neg (by simp [hdp]; omega)]
        show ((chk N1.length c).bind _).bind k = _
        rw [hat.chk, Option.bind_some]
        show ((updA N1.length N1 c _).bind _).bind k = _
        rw [hat.updA]
        rfl
  refine ⟨{ x with nodes := N2, first_ := f1, last_ := f2, count := x.count.set i.toNat ((a ++ n :: b).length - 1 : Int) }, g2, ?_, r2, l2.trans l1, ⟨by simp [lf, hg.f], by simp [lf2, hg.l], by simp [hg.c], fun j l hj => ?_⟩, rfl, rfl, fun m => ⟨(u2 m).1.trans (u1 m).1, (u2 m).2.trans (u1 m).2⟩, fun m hma hmb => (s2 m hmb).trans (s1 m hma)⟩
  · unfold lists_Lists_pull
    rw [hn.chk, Option.bind_some, hn.ixA, Option.bind_some]
    simp only [lt_eq]
    refine (k1 _).trans ((k2 _).trans ?_)
    rw [e3, hc.chk, Option.bind_some, hc.ixA, Option.bind_some, Option.bind_some, w64_eq (by omega) (by omega), hc.updA]
    rfl
  · rcases hl.of_set hj with ⟨rfl, rfl⟩ | ⟨hji, hjl⟩
    · refine ⟨dl_app.2 ⟨dl_congr (fun m hm => by rw [s2 m (hab' m hm)]; exact ⟨rfl, rfl, rfl⟩) d1, d2⟩, af, af2, ?_⟩
      have := hc.same ((a ++ n :: b).length - 1 : Int)
      rw [show ((a ++ n :: b).length - 1 : Int) = ((a ++ b).length : Int) by simp only [List.length_append, List.length_cons]; omega] at this ⊢
      exact this
    · obtain ⟨q1, q2, q3, q4⟩ := hg.dll j l hjl
      have hd := hdis j l hjl hji
      exact ⟨dl_congr (fun m hm => by rw [s2 m (fun h => hd m (by simp [h]) hm), s1 m (fun h => hd m (by simp [h]) hm)]; exact ⟨rfl, rfl, rfl⟩) q1, of j _ hji q2, of2 j _ hji q3, q4.ne hc.1 hji _⟩
theorem push_eq {x : lists_Lists} {g : Int → lists_link} {L : List (List Int)} {i n : Int} {l : List Int} (hr : Rep x.nodes g) (hg : Gd g x.first_ x.last_ x.count L) (hl : At L i l) (hnd : (n :: l).Nodup) (hrg : ∀ m ∈ n :: l, 0 ≤ m ∧ m < x.nodes.length)
    (hdis : ∀ j l', At L j l' → j ≠ i → ∀ m ∈ n :: l, m ∉ l') (hlen : l.length ≤ 70000) (hck : 0 ≤ x.clock ∧ x.clock ≤ 1000000) :
    ∃ x' g', lists_Lists_push x n i = some x' ∧ Rep x'.nodes g' ∧ x'.nodes.length = x.nodes.length ∧ Gd g' x'.first_ x'.last_ x'.count (L.set i.toNat (n :: l)) ∧ x'.free = x.free ∧ x'.clock = x.clock + 1 ∧ (∀ m, m ≠ n → (g' m).used = (g m).used ∧ (g' m).list = (g m).list) ∧ (g' n).used = x.clock + 1 ∧ ∀ m, m ∉ n :: l → g' m = g m := by
  obtain ⟨n0, n1⟩ := hrg n (by simp)
  have hn := hr n n0 n1
  obtain ⟨hd, hf, hla, hc⟩ := hg.dll i _ hl
  obtain ⟨hnl, hndl⟩ := List.nodup_cons.1 hnd
  have w1 : w64 (x.clock + 1) = x.clock + 1 := w64_eq (by omega) (by omega)
  let v : lists_link := ⟨-1, hdp l (-1), i, x.clock + 1⟩
  have r1 := hr.set n0 n1 v
  have hd1 : dl (fup g n v) i (-1) l (-1) := dl_congr (fun m hm => by rw [fup_ne (show m ≠ n from fun e => hnl (e ▸ hm))]; exact ⟨rfl, rfl, rfl⟩) hd
  obtain ⟨N2, f2, g2, r2, l2, lf2, af2, of2, d2, g2n, s2, u2, k2⟩ : ∃ N2 f2 g2, Rep N2 g2 ∧ N2.length = x.nodes.length ∧ f2.length = x.last_.length ∧ At f2 i (lsp (-1) (n :: l)) ∧ (∀ j y, j ≠ i → At x.last_ j y → At f2 j y) ∧ dl g2 i n l (-1) ∧ g2 n = v ∧ (∀ m, m ∉ n :: l → g2 m = g m) ∧ (∀ m, m ≠ n → (g2 m).used = (g m).used ∧ (g2 m).list = (g m).list) ∧
      ∀ (k : List lists_link × List Int → Option lists_Lists), ((if (hdp l (-1) == (-1 : Int)) = true then (chk x.last_.length i).bind fun _ => (updA x.last_.length x.last_ i (fun _ => n)).bind fun c => some (x.nodes.set n.toNat v, c) else (some ()).bind fun _ => (some (hdp l (-1))).bind fun v34 => (chk (x.nodes.set n.toNat v).length v34).bind fun _ => (updA (x.nodes.set n.toNat v).length (x.nodes.set n.toNat v) v34 (fun y => ({ y with ahead := n } : lists_link))).bind fun c => some (c, x.last_)).bind k) = k (N2, f2) := by
    have un : ∀ m, m ≠ n → (fup g n v m).used = (g m).used ∧ (fup g n v m).list = (g m).list := fun m hm => by rw [fup_ne hm]; exact ⟨rfl, rfl⟩
    cases l with
    | nil =>
      refine ⟨_, x.last_.set i.toNat n, _, r1, by simp, by simp, hla.same _, fun j y hj hy => hy.ne hla.1 hj _, trivial, fup_same, fun m hm => fup_ne (fun e => hm (by simp [e])), un, fun k => ?_⟩
      rw [if_pos (by simp [hdp]), hla.chk, Option.bind_some, hla.updA]
      rfl
    | cons c b =>
      obtain ⟨m0, m1⟩ := hrg c (by simp)
      have hcn : c ≠ n := fun e => hnl (by simp [e])
      have hat := r1 c m0 (by simpa using m1)
      refine ⟨_, x.last_, _, r1.set m0 (by simpa using m1) { fup g n v c with ahead := n }, by simp, rfl, hla, fun j y _ hy => hy, dl_p hndl hd1, (fup_ne (Ne.symm hcn)).trans fup_same, fun m hm => ?_, fun m hm => ?_, fun k => ?_⟩
      · have h1 : m ≠ c := fun e => hm (by simp [e])
        have h2 : m ≠ n := fun e => hm (by simp [e])
        rw [fup_ne h1, fup_ne h2]
      · by_cases h1 : m = c
        · subst h1
          rw [fup_same]
          exact un m hm
        · rw [fup_ne h1]
          exact un m hm
      · rw [if_neg (by simp [hdp]; omega), Option.bind_some, Option.bind_some]
        show ((chk _ c).bind _).bind k = _
        rw [hat.chk, Option.bind_some]
        show ((updA _ _ c _).bind _).bind k = _
        rw [hat.updA]
        rfl
  refine ⟨{ x with clock := x.clock + 1, nodes := N2, first_ := x.first_.set i.toNat n, last_ := f2, count := x.count.set i.toNat (l.length + 1 : Int) }, g2, ?_, r2, l2, ⟨by simp [hg.f], by simp [lf2, hg.l], by simp [hg.c], fun j l' hj => ?_⟩, rfl, rfl, u2, by rw [g2n], s2⟩
  · unfold lists_Lists_push
    simp only [lt_eq, w1]
    rw [hf.chk, Option.bind_some, hf.ixA, Option.bind_some, hn.chk, Option.bind_some, hn.updA, Option.bind_some, Option.bind_some, Option.bind_some]
    refine (k2 _).trans ?_
    rw [Option.bind_some, hf.updA, Option.bind_some, hc.chk, Option.bind_some, hc.ixA, Option.bind_some, Option.bind_some, w64_eq (by omega) (by omega), hc.updA]
    rfl
  · rcases hl.of_set hj with ⟨rfl, rfl⟩ | ⟨hji, hjl⟩
    · exact ⟨⟨by rw [g2n], by rw [g2n], by rw [g2n], d2⟩, hf.same _, af2, by simpa using hc.same (l.length + 1 : Int)⟩
    · obtain ⟨q1, q2, q3, q4⟩ := hg.dll j l' hjl
      have hd := hdis j l' hjl hji
      exact ⟨dl_congr (fun m hm => by rw [s2 m (fun h => hd m h hm)]; exact ⟨rfl, rfl, rfl⟩) q1, q2.ne hf.1 hji _, of2 j _ hji q3, q4.ne hc.1 hji _⟩
theorem flt_eq (op : List (BitVec 8)) (n c : Int) (hc : c ≠ 0) : trouble_New op n c = some (.fault op n c .nil) := by
  simp [trouble_New, lt_eq, hc]
theorem outc (a m : Int) : (if a < 0 then some true else some (decide (a ≥ m))) = some (decide (a < 0 ∨ m ≤ a)) := by
  by_cases h : a < 0
  · rw [if_pos h, decide_eq_true (Or.inl h)]
  · rw [if_neg h]
    congr 1
    rw [decide_eq_decide]
    omega
structure R9 where
  L : List (List Int)
  Free : List Int
  Used : List Int
  Nodes : Int
structure Good (x : lists_Lists) (r : R9) (g : Int → lists_link) (k : Int) : Prop where
  rep : Rep x.nodes g
  NN : r.Nodes = (x.nodes.length : Int)
  nN : x.nodes.length ≤ 65536
  gd : Gd g x.first_ x.last_ x.count r.L
  M : r.L.length ≤ 64
  rng : ∀ n ∈ r.Free ++ r.Used, 0 ≤ n ∧ n < x.nodes.length
  nod : (r.Free ++ r.Used).Nodup
  len : r.Free.length + r.Used.length = x.nodes.length
  cov : ∀ n, 0 ≤ n → n < (x.nodes.length : Int) → n ∈ r.Free ++ r.Used
  sub : ∀ i l, At r.L i l → l.Sublist r.Used
  mem : ∀ n ∈ r.Used, ∃ i l, At r.L i l ∧ n ∈ l
  fr : fl g r.Free
  free : x.free = hdp r.Free (-1)
  tm : r.Used.Pairwise fun a b => (g b).used < (g a).used
  ck : ∀ n ∈ r.Used, (g n).used ≤ x.clock
  ck2 : 0 ≤ x.clock ∧ x.clock ≤ k
section
variable {x : lists_Lists} {r : R9} {g : Int → lists_link} {k : Int}
theorem Good.dis (G : Good x r g k) {i j m : Int} {l l' : List Int} (h : At r.L i l) (h' : At r.L j l') (hm : m ∈ l) (hm' : m ∈ l') : i = j :=
  (dl_list (G.gd.dll i l h).1 m hm).symm.trans (dl_list (G.gd.dll j l' h').1 m hm')
theorem Good.nfu (G : Good x r g k) {m : Int} (h : m ∈ r.Free) : m ∉ r.Used := fun h' => (List.nodup_append.1 G.nod).2.2 m h m h' rfl
theorem Good.nu (G : Good x r g k) : r.Used.Nodup := (List.nodup_append.1 G.nod).2.1
theorem Good.nf (G : Good x r g k) : r.Free.Nodup := (List.nodup_append.1 G.nod).1
theorem Good.ul (G : Good x r g k) : r.Used.length ≤ 65536 := by have := G.len; have := G.nN; omega
theorem Good.ll (G : Good x r g k) {i : Int} {l : List Int} (h : At r.L i l) : l.length ≤ 65536 := Nat.le_trans (G.sub i l h).length_le G.ul
theorem Good.more (G : Good x r g k) {k' : Int} (h : k ≤ k') : Good x r g k' := { G with ck2 := ⟨G.ck2.1, Int.le_trans G.ck2.2 h⟩ }
theorem add_ok (G : Good x r g k) (hk : k ≤ 1000) {i n : Int} {F l : List Int} (hF : r.Free = n :: F) (hl : At r.L i l) : ∃ x' g', lists_Lists_Add x i = some (n, .nil, x') ∧ x'.nodes.length = x.nodes.length ∧ Good x' ⟨r.L.set i.toNat (n :: l), F, n :: r.Used, r.Nodes⟩ g' (k + 1) ∧ (∀ m, m ≠ n → (g' m).list = (g m).list) ∧ (g' n).list = i := by
  have hM := G.gd.f
  have hM2 := G.M
  have hi0 := hl.1
  have hi1 := hl.lt
  have eX : lists_Lists_Add x i = if i < 0 ∨ (r.L.length : Int) ≤ i then some (-1, .fault [97#8, 100#8, 100#8] i 2 .nil, x) else if (x.free == (-1 : Int)) = true then some (-1, .fault [97#8, 100#8, 100#8] i 4 .nil, x) else (chk (x.nodes).length x.free).bind fun v22 =>
        (ixA (x.nodes).length x.nodes x.free).bind fun v24 =>
        (lists_Lists_push ({ ({ x with free := v24.behind } : lists_Lists) with nodes := x.nodes, first_ := x.first_, last_ := x.last_, count := x.count } : lists_Lists) x.free i).bind fun v27 =>
        some (x.free, Err.nil, v27) := by
    unfold lists_Lists_Add
    simp only [lt_eq, outc, Option.bind_some, decide_eq_true_eq, hM, flt_eq _ _ 2 (by decide), flt_eq _ _ 4 (by decide)]
  have h2 : ¬ (i < 0 ∨ (r.L.length : Int) ≤ i) := by omega
  rw [if_neg h2] at eX
  have hfr := G.free
  have hfl := G.fr
  rw [hF] at hfr hfl
  have hnF : n ∈ r.Free := by rw [hF]; exact List.mem_cons_self
  obtain ⟨n0, n1⟩ := G.rng n (List.mem_append_left _ hnF)
  have hn := G.rep n n0 n1
  have hsub := G.sub i l hl
  have hnl : n ∉ l := fun h => G.nfu hnF (hsub.subset h)
  have hfre : x.free = n := hfr
  rw [hfre, if_neg (by simp; omega), hn.chk, Option.bind_some, hn.ixA, Option.bind_some] at eX
  obtain ⟨x', g', q1, q2, q3, q4, q5, q6, q7, q8, q9⟩ := push_eq (x := { ({ x with free := (g n).behind } : lists_Lists) with nodes := x.nodes, first_ := x.first_, last_ := x.last_, count := x.count }) (n := n) G.rep G.gd hl (List.nodup_cons.2 ⟨hnl, hsub.nodup G.nu⟩)
    (fun m hm => by
      rcases List.mem_cons.1 hm with rfl | hm
      · exact ⟨n0, n1⟩
      · exact G.rng m (List.mem_append_right _ (hsub.subset hm)))
    (fun j l' hj hji m hm hm' => by
      rcases List.mem_cons.1 hm with rfl | hm
      · exact G.nfu hnF ((G.sub j l' hj).subset hm')
      · exact hji (G.dis hj hl hm' hm)) (by have := G.ll hl; omega) ⟨G.ck2.1, by have := G.ck2.2; show x.clock ≤ 1000000; omega⟩
  rw [q1, Option.bind_some] at eX
  have hul := G.ul
  have hll := G.ll hl
  have q3' : x'.nodes.length = x.nodes.length := q3
  refine ⟨x', g', eX, q3, ?_, fun m hm => (q7 m hm).2, dl_list (q4.dll i _ (hl.same _)).1 n List.mem_cons_self⟩
  have hnd : (F ++ n :: r.Used).Nodup := by
    have h := G.nod
    rw [hF] at h
    exact List.perm_middle.nodup_iff.2 h
  refine ⟨q2, by rw [q3']; exact G.NN, by rw [q3']; exact G.nN, q4, by simpa using G.M, fun m hm => ?_, hnd, ?_, fun m h0 h1 => ?_, fun j l' hj => ?_, fun m hm => ?_, ?_, ?_, ?_, fun m hm => ?_, ?_⟩
  · rw [q3']
    refine G.rng m ?_
    rw [hF]
    exact List.perm_middle.mem_iff.1 hm
  · have := G.len
    rw [hF] at this
    rw [q3']
    simp only [List.length_cons] at this ⊢
    omega
  · rw [q3'] at h1
    have := G.cov m h0 h1
    rw [hF] at this
    exact List.perm_middle.mem_iff.2 this
  · rcases hl.of_set hj with ⟨rfl, rfl⟩ | ⟨hji, hjl⟩
    · exact hsub.cons_cons n
    · exact (G.sub j l' hjl).cons n
  · rcases List.mem_cons.1 hm with rfl | hm
    · exact ⟨i, _, hl.same _, List.mem_cons_self⟩
    · obtain ⟨j, l', hj, hml⟩ := G.mem m hm
      by_cases hji : j = i
      · subst hji
        rw [hl.uniq hj]
        exact ⟨j, _, hj.same _, List.mem_cons_of_mem _ hml⟩
      · exact ⟨j, l', hj.ne hl.1 hji _, hml⟩
  · refine fl_congr (fun m hm => ?_) hfl.2.2
    have hmF : m ∈ r.Free := by rw [hF]; exact List.mem_cons_of_mem _ hm
    refine (q9 m fun h => ?_).symm
    rcases List.mem_cons.1 h with rfl | h
    · have h := G.nf
      rw [hF] at h
      exact (List.nodup_cons.1 h).1 hm
    · exact G.nfu hmF (hsub.subset h)
  · rw [q5]; exact hfl.1
  · refine List.pairwise_cons.2 ⟨fun b hb => ?_, ?_⟩
    · have hbn : b ≠ n := fun e => G.nfu hnF (e ▸ hb)
      rw [q8, (q7 b hbn).1]
      have := G.ck b hb
      show (g b).used < x.clock + 1
      omega
    · refine G.tm.imp_of_mem fun {a b} ha hb h => ?_
      rw [(q7 b (fun e => G.nfu hnF (e ▸ hb))).1, (q7 a (fun e => G.nfu hnF (e ▸ ha))).1]
      exact h
  · rw [q6]
    rcases List.mem_cons.1 hm with rfl | hm
    · rw [q8]; exact Int.le_refl _
    · rw [(q7 m (fun e => G.nfu hnF (e ▸ hm))).1]
      have := G.ck m hm
      show _ ≤ x.clock + 1
      omega
  · rw [q6]
    have := G.ck2
    constructor
    · show 0 ≤ x.clock + 1; omega
    · show x.clock + 1 ≤ k + 1; omega
theorem at_used (G : Good x r g k) (op : List (BitVec 8)) {n : Int} (hu : n ∈ r.Used) : lists_Lists_at x op n = some .nil ∧ ∃ i l, At r.L i l ∧ n ∈ l ∧ (g n).list = i := by
  obtain ⟨n0, n1⟩ := G.rng n (List.mem_append_right _ hu)
  have hn := G.rep n n0 n1
  obtain ⟨i, l, h3, h4⟩ := G.mem n hu
  have hl := dl_list (G.gd.dll i l h3).1 n h4
  have h0 := h3.1
  refine ⟨?_, i, l, h3, h4, hl⟩
  unfold lists_Lists_at
  simp only [lt_eq, outc, Option.bind_some, decide_eq_true_eq]
  rw [if_neg (by omega), hn.chk, Option.bind_some, hn.ixA, Option.bind_some, hl, if_neg (by simp; omega)]
theorem Gd.congr {g g' : Int → lists_link} {fs ls cs : List Int} {L : List (List Int)} (h : Gd g fs ls cs L) (he : ∀ i l, At L i l → ∀ m ∈ l, g' m = g m) : Gd g' fs ls cs L :=
  ⟨h.f, h.l, h.c, fun i l hl => ⟨dl_congr (fun m hm => by rw [he i l hl m hm]; exact ⟨rfl, rfl, rfl⟩) (h.dll i l hl).1, (h.dll i l hl).2⟩⟩
theorem Good.pulled (G : Good x r g k) {i n : Int} {l : List Int} (hl : At r.L i l) (hn : n ∈ l) : l.Nodup ∧ ∃ x' g', lists_Lists_pull x n = some x' ∧ Rep x'.nodes g' ∧ x'.nodes.length = x.nodes.length ∧ Gd g' x'.first_ x'.last_ x'.count (r.L.set i.toNat (but l n)) ∧ x'.free = x.free ∧ x'.clock = x.clock ∧ ulEq g g' ∧ ∀ m, m ∉ l → g' m = g m := by
  obtain ⟨a, b, rfl⟩ := List.append_of_mem hn
  have hsub := G.sub i _ hl
  have hnd := hsub.nodup G.nu
  refine ⟨hnd, ?_⟩
  have hll := G.ll hl
  obtain ⟨x', g', q1, q2, q3, q4, q5, q6, q7, q8⟩ := pull_eq G.rep G.gd hl hnd (fun m hm => G.rng m (List.mem_append_right _ (hsub.subset hm))) (fun j l' hj hji m hm hm' => hji (G.dis hj hl hm' hm)) (by omega)
  rw [← but_split hnd] at q4
  exact ⟨x', g', q1, q2, q3, q4, q5, q6, q7, fun m hm => q8 m (fun h => hm (by simp [h])) (fun h => hm (by simp [h]))⟩
theorem but_len {l : List Int} {n : Int} (hn : l.Nodup) (h : n ∈ l) : (but l n).length + 1 = l.length := by
  obtain ⟨a, b, rfl⟩ := List.append_of_mem h
  rw [but_split hn]
  simp only [List.length_append, List.length_cons]
  omega
theorem but_le (l : List Int) (n : Int) : (but l n).length ≤ l.length := List.length_filter_le _ _
theorem but_perm {l : List Int} {n : Int} (hn : l.Nodup) (h : n ∈ l) : (n :: but l n).Perm l := by
  obtain ⟨a, b, rfl⟩ := List.append_of_mem h
  rw [but_split hn]
  exact List.perm_middle.symm
theorem but_sub {l u : List Int} (h : l.Sublist u) (n : Int) : (but l n).Sublist (but u n) := h.filter _
theorem drop_ok (G : Good x r g k) {n : Int} (hu : n ∈ r.Used) : ∃ x' g' i l, lists_Lists_Drop x n = some (.nil, x') ∧ x'.nodes.length = x.nodes.length ∧ At r.L i l ∧ n ∈ l ∧ (g n).list = i ∧ Good x' ⟨r.L.set i.toNat (but l n), n :: r.Free, but r.Used n, r.Nodes⟩ g' k ∧ ∀ m, m ≠ n → (g' m).list = (g m).list := by
  unfold lists_Lists_Drop
  simp only [lt_eq]
  obtain ⟨h1, i, l, hl, hnl, hgl⟩ := at_used G [100#8, 114#8, 111#8, 112#8] hu
  obtain ⟨hnd, x', g', q1, q2, q3, q4, q5, q6, q7, q8⟩ := G.pulled hl hnl
  obtain ⟨n0, n1⟩ := G.rng n (List.mem_append_right _ hu)
  have hn := q2 n n0 (by omega)
  have hM := G.M
  have hll := G.ll hl
  rw [h1, Option.bind_some, q1]
  simp only [Err.isNil, Bool.not_true, Bool.false_eq_true, if_false, Option.bind_some]
  rw [hn.chk, Option.bind_some, hn.updA, Option.bind_some]
  refine ⟨_, fup g' n ⟨-1, x'.free, -1, 0⟩, i, l, rfl, by simp [q3], hl, hnl, hgl, ?_, fun m hm => by rw [fup_ne hm]; exact (q7 m).2⟩
  have hnf : n ∉ r.Free := fun h => G.nfu h hu
  have hpm : (n :: r.Free ++ but r.Used n).Perm (r.Free ++ r.Used) := (List.perm_middle.symm).trans (List.Perm.append_left _ (but_perm G.nu hu))
  have hgm : ∀ m, m ≠ n → (fup g' n ⟨-1, x'.free, -1, 0⟩ m).used = (g m).used := fun m hm => by rw [fup_ne hm]; exact (q7 m).1
  have hnodes : (x'.nodes.set n.toNat ⟨-1, x'.free, -1, 0⟩).length = x.nodes.length := by simp [q3]
  refine ⟨q2.set n0 (by omega) _, by show r.Nodes = _; rw [hnodes]; exact G.NN, by show (x'.nodes.set _ _).length ≤ _; rw [hnodes]; exact G.nN, ?_, by simpa using G.M, fun m hm => ?_, hpm.nodup_iff.2 G.nod, ?_, fun m h0 h1 => ?_, fun j l' hj => ?_, fun m hm => ?_, ?_, rfl, ?_, fun m hm => ?_, ?_⟩
  · refine Gd.congr q4 fun j l' hj m hm => fup_ne fun e => ?_
    subst e
    rcases hl.of_set hj with ⟨rfl, rfl⟩ | ⟨hji, hjl⟩
    · exact (mem_but.1 hm).2 rfl
    · exact hji (G.dis hjl hl hm hnl)
  · show 0 ≤ m ∧ m < ((x'.nodes.set n.toNat ⟨-1, x'.free, -1, 0⟩).length : Int)
    rw [hnodes]
    exact G.rng m (hpm.mem_iff.1 hm)
  · show (n :: r.Free).length + (but r.Used n).length = (x'.nodes.set n.toNat ⟨-1, x'.free, -1, 0⟩).length
    rw [hnodes]
    have := but_len G.nu hu
    have := G.len
    simp only [List.length_cons]
    omega
  · have h1' : m < ((x'.nodes.set n.toNat ⟨-1, x'.free, -1, 0⟩).length : Int) := h1
    rw [hnodes] at h1'
    exact hpm.mem_iff.2 (G.cov m h0 h1')
  · rcases hl.of_set hj with ⟨rfl, rfl⟩ | ⟨hji, hjl⟩
    · exact but_sub (G.sub _ _ hl) n
    · have h3 := but_sub (G.sub j l' hjl) n
      rwa [but_not (fun h => hji (G.dis hjl hl h hnl))] at h3
  · obtain ⟨hmu, hmn⟩ := mem_but.1 hm
    obtain ⟨j, l', hj, hml⟩ := G.mem m hmu
    by_cases hji : j = i
    · subst hji
      rw [← hl.uniq hj] at hml
      exact ⟨j, _, hj.same _, mem_but.2 ⟨hml, hmn⟩⟩
    · exact ⟨j, l', hj.ne hl.1 hji _, hml⟩
  · refine ⟨?_, ?_, fl_congr (fun m hm => ?_) G.fr⟩
    · rw [fup_same]
      show x'.free = _
      rw [q5]; exact G.free
    · rw [fup_same]
    · rw [fup_ne (show m ≠ n from fun e => hnf (e ▸ hm))]
      exact (q8 m fun h => G.nfu hm ((G.sub _ _ hl).subset h)).symm
  · have h3 : (but r.Used n).Pairwise fun a b => (g b).used < (g a).used := G.tm.sublist List.filter_sublist
    refine h3.imp_of_mem fun {a b} ha hb h => ?_
    rw [hgm a (mem_but.1 ha).2, hgm b (mem_but.1 hb).2]
    exact h
  · obtain ⟨hmu, hmn⟩ := mem_but.1 hm
    rw [hgm m hmn]
    show _ ≤ x'.clock
    rw [q6]
    exact G.ck m hmu
  · show 0 ≤ x'.clock ∧ x'.clock ≤ k
    rw [q6]
    exact G.ck2
theorem touch_ok (G : Good x r g k) (hk : k ≤ 1000) {n : Int} (hu : n ∈ r.Used) : ∃ x' g' i l, lists_Lists_Touch x n = some (.nil, x') ∧ x'.nodes.length = x.nodes.length ∧ At r.L i l ∧ n ∈ l ∧ (g n).list = i ∧ Good x' ⟨r.L.set i.toNat (n :: but l n), r.Free, n :: but r.Used n, r.Nodes⟩ g' (k + 1) ∧ ∀ m, (g' m).list = (g m).list := by
  unfold lists_Lists_Touch
  simp only [lt_eq]
  obtain ⟨h1, i, l, hl, hnl, hgl⟩ := at_used G [116#8, 111#8, 117#8, 99#8, 104#8] hu
  obtain ⟨hnd, x', g', q1, q2, q3, q4, q5, q6, q7, q8⟩ := G.pulled hl hnl
  obtain ⟨n0, n1⟩ := G.rng n (List.mem_append_right _ hu)
  have hn := G.rep n n0 (by omega)
  have hM := G.M
  have hll := G.ll hl
  have hul := G.ul
  have hbl := but_le l n
  have hbu := but_le r.Used n
  have hck := G.ck2
  have hl' : At (r.L.set i.toNat (but l n)) i (but l n) := hl.same _
  have hsub := G.sub i l hl
  obtain ⟨y, g2, p1, p2, p3, p4, p5, p6, p7, p8, p9⟩ := push_eq (n := n) q2 q4 hl' (List.nodup_cons.2 ⟨fun h => (mem_but.1 h).2 rfl, hnd.sublist List.filter_sublist⟩)
    (fun m hm => by
      rw [q3]
      rcases List.mem_cons.1 hm with rfl | hm
      · exact ⟨n0, n1⟩
      · exact G.rng m (List.mem_append_right _ (hsub.subset (mem_but.1 hm).1)))
    (fun j l'' hj hji m hm hm' => by
      rcases hl.of_set hj with ⟨e, _⟩ | ⟨_, hjl⟩
      · exact hji e
      · rcases List.mem_cons.1 hm with rfl | hm
        · exact hji (G.dis hjl hl hm' hnl)
        · exact hji (G.dis hjl hl hm' (mem_but.1 hm).1)) (by omega) (by omega)
  rw [List.set_set] at p4
  rw [h1, Option.bind_some]
  simp only [Err.isNil, Bool.not_true, Bool.false_eq_true, if_false, Option.bind_some]
  rw [hn.chk, Option.bind_some, hn.ixA, Option.bind_some, q1, Option.bind_some, hgl, p1, Option.bind_some]
  refine ⟨y, g2, i, l, rfl, by rw [p3, q3], hl, hnl, rfl, ?_, fun m => ?_⟩
  rotate_left
  · by_cases hm : m = n
    · subst hm
      rw [hgl]
      have hx : At (r.L.set i.toNat (m :: but l m)) i (m :: but l m) := hl.same _
      exact dl_list (p4.dll i _ hx).1 m List.mem_cons_self
    · exact (p7 m hm).2.trans (q7 m).2
  have hpu := but_perm G.nu hu
  have hpm : (r.Free ++ n :: but r.Used n).Perm (r.Free ++ r.Used) := List.Perm.append_left _ hpu
  have hgm : ∀ m, m ≠ n → (g2 m).used = (g m).used := fun m hm => (p7 m hm).1.trans (q7 m).1
  have hnodes : y.nodes.length = x.nodes.length := p3.trans q3
  refine ⟨p2, by rw [hnodes]; exact G.NN, by rw [hnodes]; exact G.nN, p4, by simpa using G.M, fun m hm => ?_, hpm.nodup_iff.2 G.nod, ?_, fun m h0 h1 => ?_, fun j l' hj => ?_, fun m hm => ?_, ?_, ?_, ?_, fun m hm => ?_, ?_⟩
  · rw [hnodes]
    exact G.rng m (hpm.mem_iff.1 hm)
  · rw [hnodes]
    have := hpu.length_eq
    have := G.len
    show r.Free.length + (n :: but r.Used n).length = _
    omega
  · rw [hnodes] at h1
    exact hpm.mem_iff.2 (G.cov m h0 h1)
  · rcases hl.of_set hj with ⟨rfl, rfl⟩ | ⟨hji, hjl⟩
    · exact (but_sub (G.sub _ _ hl) n).cons_cons n
    · have h3 := but_sub (G.sub j l' hjl) n
      rw [but_not (fun h => hji (G.dis hjl hl h hnl))] at h3
      exact h3.cons n
  · rcases List.mem_cons.1 hm with rfl | hm
    · exact ⟨i, _, hl.same _, List.mem_cons_self⟩
    · obtain ⟨hmu, hmn⟩ := mem_but.1 hm
      obtain ⟨j, l', hj, hml⟩ := G.mem m hmu
      by_cases hji : j = i
      · subst hji
        rw [← hl.uniq hj] at hml
        exact ⟨j, _, hj.same _, List.mem_cons_of_mem _ (mem_but.2 ⟨hml, hmn⟩)⟩
      · exact ⟨j, l', hj.ne hl.1 hji _, hml⟩
  · refine fl_congr (fun m hm => ?_) G.fr
    have hml : m ∉ l := fun h => G.nfu hm (hsub.subset h)
    rw [p9 m, q8 m hml]
    intro h
    rcases List.mem_cons.1 h with rfl | h
    · exact hml hnl
    · exact hml (mem_but.1 h).1
  · rw [p5, q5]; exact G.free
  · refine List.pairwise_cons.2 ⟨fun b hb => ?_, ?_⟩
    · rw [p8, hgm b (mem_but.1 hb).2, q6]
      have := G.ck b (mem_but.1 hb).1
      omega
    · have h3 : (but r.Used n).Pairwise fun a b => (g b).used < (g a).used := G.tm.sublist List.filter_sublist
      refine h3.imp_of_mem fun {a b} ha hb h => ?_
      rw [hgm a (mem_but.1 ha).2, hgm b (mem_but.1 hb).2]
      exact h
  · rw [p6, q6]
    rcases List.mem_cons.1 hm with rfl | hm
    · rw [p8, q6]; exact Int.le_refl _
    · obtain ⟨hmu, hmn⟩ := mem_but.1 hm
      rw [hgm m hmn]
      have := G.ck m hmu
      omega
  · rw [p6, q6]
    omega
theorem order_loop (G : Good x r g k) {i : Int} : ∀ (l acc : List Int) (p : Int), dl g i p l (-1) → (∀ m ∈ l, 0 ≤ m ∧ m < (x.nodes.length : Int)) → acc.length + l.length ≤ 70000 → loopO (fun s => lists_Lists_Order_b0 x s.1 s.2) (acc, hdp l (-1)) = some (acc ++ l)
  | [], acc, p, _, _, _ => by
    refine loopO_out ?_
    unfold lists_Lists_Order_b0
    simp [lt_eq, hdp]
  | m :: l, acc, p, hd, hr, hle => by
    obtain ⟨h1, h2, h3, h4⟩ := hd
    obtain ⟨m0, m1⟩ := hr m List.mem_cons_self
    have hm := G.rep m m0 m1
    simp only [List.length_cons] at hle
    rw [loopO_in (s' := (acc ++ [m], hdp l (-1)))]
    · rw [order_loop G l (acc ++ [m]) m h4 (fun q hq => hr q (List.mem_cons_of_mem _ hq)) (by simp; omega)]
      simp
    · show lists_Lists_Order_b0 x acc m = _
      unfold lists_Lists_Order_b0
      simp only [lt_eq]
      rw [if_pos (by simp; omega), app_eq (by simp; omega), Option.bind_some, hm.chk, Option.bind_some, hm.ixA, Option.bind_some, h2]
theorem Good.rl (G : Good x r g k) {i : Int} {l : List Int} (hl : At r.L i l) : ∀ m ∈ l, 0 ≤ m ∧ m < (x.nodes.length : Int) := fun m hm => G.rng m (List.mem_append_right _ ((G.sub i l hl).subset hm))
theorem order_eq (G : Good x r g k) {i : Int} {l : List Int} (hl : At r.L i l) : lists_Lists_Order x i = some l := by
  obtain ⟨q1, q2, q3, q4⟩ := G.gd.dll i l hl
  have h0 := hl.1
  have h1 := q2.lt
  have hll := G.ll hl
  unfold lists_Lists_Order lists_Lists_Order_l0
  simp only [lt_eq, decide_eq_true_eq, outc, Option.bind_some]
  rw [if_neg (by omega), q2.chk, Option.bind_some, q2.ixA, Option.bind_some, order_loop G l [] (-1) q1 (G.rl hl) (by simp; omega)]
  rfl
theorem listX_in (G : Good x r g k) {n : Int} (h0 : 0 ≤ n) (h1 : n < (x.nodes.length : Int)) : lists_Lists_List x n = some (g n).list := by
  have hn := G.rep n h0 h1
  unfold lists_Lists_List
  simp only [lt_eq, decide_eq_true_eq, outc, Option.bind_some]
  rw [if_neg (by omega), hn.chk, Option.bind_some, hn.ixA, Option.bind_some]
theorem last_min {f : Int → Int} : ∀ {u : List Int} {p m : Int}, (u.Pairwise fun a b => f b < f a) → m ∈ u → m ≠ lsp p u → f (lsp p u) < f m
  | [], _, _, _, h, _ => absurd h List.not_mem_nil
  | a :: u, p, m, hp, hm, hne => by
    obtain ⟨h1, h2⟩ := List.pairwise_cons.1 hp
    simp only [lsp] at hne ⊢
    cases u with
    | nil =>
      simp only [lsp, List.mem_singleton] at hne hm
      exact absurd hm hne
    | cons b u =>
      rcases List.mem_cons.1 hm with rfl | hm
      · exact h1 _ (lsp_mem (by simp))
      · exact last_min h2 hm hne
theorem Good.lastof (G : Good x r g k) {i : Int} {l : List Int} (hl : At r.L i l) (hu : lsp (-1) r.Used ∈ l) : lsp (-1) l = lsp (-1) r.Used := by
  refine Classical.byContradiction fun hne => ?_
  have hsub := G.sub i l hl
  have hl0 : l ≠ [] := fun e => by rw [e] at hu; cases hu
  have h1 := last_min (p := -1) G.tm (hsub.subset (lsp_mem (p := -1) hl0)) hne
  have h2 := last_min (p := -1) (G.tm.sublist hsub) hu (Ne.symm hne)
  omega
theorem oldest_eq (G : Good x r g k) : lists_Lists_Oldest x = some (lsp (-1) r.Used) := by
  have hM := G.M
  have hl := G.gd.l
  unfold lists_Lists_Oldest lists_Lists_Oldest_l0
  simp only [lt_eq]
  have key := loopO_inv (body := fun s => lists_Lists_Oldest_b0 x (x.last_.length : Int) s.1 s.2) (fun s => ∃ j : Nat, s.2 = (j : Int) ∧ j ≤ r.L.length ∧ ((s.1 = -1 ∧ ∀ l ∈ r.L.take j, l = []) ∨ (s.1 ∈ r.Used ∧ ∀ l ∈ r.L.take j, l ≠ [] → (g s.1).used ≤ (g (lsp (-1) l)).used)))
    (fun s => (r.L.length - s.2).toNat) (fun y => y = lsp (-1) r.Used) (s := ((-1 : Int), (0 : Int))) ?_ ⟨0, rfl, Nat.zero_le _, .inl ⟨rfl, by simp⟩⟩
  · obtain ⟨y, h1, rfl⟩ := key
    rw [h1]
    rfl
  · rintro ⟨c, s2⟩ ⟨j, hj, hjl, hI⟩
    simp only at hj hI
    subst hj
    unfold lists_Lists_Oldest_b0
    simp only [lt_eq]
    by_cases hjn : j < r.L.length
    · left
      have hat : At r.L (j : Int) r.L[j] := at_nat (List.getElem?_eq_getElem hjn)
      obtain ⟨q1, q2, q3, q4⟩ := G.gd.dll _ _ hat
      have hsub := G.sub _ _ hat
      rw [if_pos (decide_eq_true (by omega)), q3.chk, Option.bind_some, q3.ixA, Option.bind_some, w64_nat (by omega)]
      have htk : r.L.take (j + 1) = r.L.take j ++ [r.L[j]] := List.take_succ_eq_append_getElem hjn
      by_cases he : r.L[j] = []
      · have hv : lsp (-1) r.L[j] = -1 := by rw [he]; rfl
        generalize lsp (-1) r.L[j] = v at hv
        subst hv
        rw [if_neg (show ¬ ((-1 : Int) != -1) = true by simp), Option.bind_some, if_neg (by simp)]
        refine ⟨_, rfl, ⟨j + 1, rfl, hjn, ?_⟩, by simp only; omega⟩
        rw [htk, he]
        rcases hI with ⟨e, hI⟩ | ⟨e, hI⟩
        · refine .inl ⟨e, fun l hl => ?_⟩
          rcases List.mem_append.1 hl with h | h
          · exact hI l h
          · exact List.mem_singleton.1 h
        · refine .inr ⟨e, fun l hl hne => ?_⟩
          rcases List.mem_append.1 hl with h | h
          · exact hI l h hne
          · exact absurd (List.mem_singleton.1 h) hne
      · have hm := lsp_mem (p := -1) he
        have hmu := hsub.subset hm
        obtain ⟨m0, m1⟩ := G.rng _ (List.mem_append_right _ hmu)
        have hmr := G.rep _ m0 m1
        rw [if_pos (by simp; omega)]
        rcases hI with ⟨e, hI⟩ | ⟨e, hI⟩
        · subst e
          rw [if_pos (by simp), Option.bind_some, if_pos rfl]
          refine ⟨_, rfl, ⟨j + 1, rfl, hjn, .inr ⟨hmu, fun l hl hne => ?_⟩⟩, by simp only; omega⟩
          rw [htk] at hl
          rcases List.mem_append.1 hl with h | h
          · exact absurd (hI l h) hne
          · rw [List.mem_singleton.1 h]; exact Int.le_refl _
        · obtain ⟨c0, c1⟩ := G.rng _ (List.mem_append_right _ e)
          have hcr := G.rep _ c0 c1
          rw [if_neg (by simp; omega), hmr.chk, Option.bind_some, hmr.ixA, Option.bind_some, hcr.chk, Option.bind_some, hcr.ixA, Option.bind_some, Option.bind_some]
          by_cases hlt : (g (lsp (-1) r.L[j])).used < (g c).used
          · rw [if_pos (decide_eq_true hlt)]
            refine ⟨_, rfl, ⟨j + 1, rfl, hjn, .inr ⟨hmu, fun l hl hne => ?_⟩⟩, by simp only; omega⟩
            rw [htk] at hl
            rcases List.mem_append.1 hl with h | h
            · have := hI l h hne
              show (g (lsp (-1) r.L[j])).used ≤ _
              omega
            · rw [List.mem_singleton.1 h]; exact Int.le_refl _
          · rw [if_neg (by simpa using hlt)]
            refine ⟨_, rfl, ⟨j + 1, rfl, hjn, .inr ⟨e, fun l hl hne => ?_⟩⟩, by simp only; omega⟩
            rw [htk] at hl
            rcases List.mem_append.1 hl with h | h
            · exact hI l h hne
            · rw [List.mem_singleton.1 h]
              show (g c).used ≤ _
              omega
    · right
      have hje : j = r.L.length := by omega
      subst hje
      rw [List.take_length] at hI
      rw [if_neg (by simp; omega)]
      refine ⟨_, rfl, ?_⟩
      rcases hI with ⟨e, hI⟩ | ⟨e, hI⟩
      · cases hu : r.Used with
        | nil => exact e
        | cons n u =>
          obtain ⟨i, l, h1, h2⟩ := G.mem n (by rw [hu]; exact List.mem_cons_self)
          rw [hI l (List.mem_of_getElem? h1.2)] at h2
          cases h2
      · refine Classical.byContradiction fun hne => ?_
        have h1 := last_min (p := -1) G.tm e hne
        have hu0 : r.Used ≠ [] := fun h => by rw [h] at e; cases e
        obtain ⟨i, l, h2, h3⟩ := G.mem _ (lsp_mem (p := -1) hu0)
        have h4 := hI l (List.mem_of_getElem? h2.2) (fun h => by rw [h] at h3; cases h3)
        rw [G.lastof h2 h3] at h4
        omega
end
def tab {α : Type} (n j : Nat) (f : Nat → α) (d : α) : List α := (List.range n).map fun m => if m < j then f m else d
section
variable {α : Type} {n j : Nat} {f : Nat → α} {d : α}
theorem tab_len : (tab n j f d).length = n := by simp [tab]
theorem tab_zero : tab n 0 f d = List.replicate n d := by
  refine List.ext_getElem? fun m => ?_
  simp only [tab, List.getElem?_map, List.getElem?_replicate]
  by_cases h : m < n
  · rw [List.getElem?_range h, if_pos h]; simp
  · rw [List.getElem?_eq_none (by simp; omega), if_neg h]; rfl
theorem tab_get {m : Nat} (h : m < n) : (tab n j f d)[m]? = some (if m < j then f m else d) := by
  simp only [tab, List.getElem?_map]
  rw [List.getElem?_range h]; rfl
theorem tab_set (h : j < n) : (tab n j f d).set j (f j) = tab n (j + 1) f d := by
  refine List.ext_getElem? fun m => ?_
  by_cases hm : m < n
  · by_cases he : j = m
    · subst he
      rw [List.getElem?_set_self (by rw [tab_len]; exact hm), tab_get hm, if_pos (by omega)]
    · rw [List.getElem?_set_ne he, tab_get hm, tab_get hm]
      by_cases h2 : m < j
      · rw [if_pos h2, if_pos (by omega)]
      · rw [if_neg h2, if_neg (by omega)]
  · rw [List.getElem?_eq_none (by rw [List.length_set, tab_len]; omega), List.getElem?_eq_none (by rw [tab_len]; omega)]
theorem tab_at (h : j < n) : At (tab n j f d) (j : Int) d := at_nat (by rw [tab_get h, if_neg (by omega)])
theorem tab_upd (h : j < n) {g : α → α} (hg : g d = f j) : updA (tab n j f d).length (tab n j f d) (j : Int) g = some (tab n (j + 1) f d) := by
  rw [(tab_at h).updA, hg, Int.toNat_natCast, tab_set h]
end
theorem mkS_nat {α : Type} {b n : Nat} (z : α) (h : b * n ≤ 281474976710656) (h2 : n ≤ 1000000) : mkS b (n : Int) z = some (List.replicate n z) := by
  unfold mkS
  have h' : ((b * n : Nat) : Int) ≤ 281474976710656 := by omega
  rw [Int.natCast_mul] at h'
  rw [if_pos ⟨by omega, h', by omega⟩, Int.toNat_natCast]
def ints (a d : Nat) : List Int := (List.range' a d).map fun (m : Nat) => (m : Int)
theorem ints_succ (a d : Nat) : ints a (d + 1) = (a : Int) :: ints (a + 1) d := rfl
theorem mem_ints {a d : Nat} {m : Int} : m ∈ ints a d ↔ (a : Int) ≤ m ∧ m < ((a + d : Nat) : Int) := by
  unfold ints
  rw [List.mem_map]
  constructor
  · rintro ⟨q, hq, rfl⟩
    have := List.mem_range'_1.1 hq
    omega
  · intro h
    exact ⟨m.toNat, List.mem_range'_1.2 (by omega), by omega⟩
theorem ints_nodup : ∀ (d a : Nat), (ints a d).Nodup
  | 0, _ => List.nodup_nil
  | d + 1, a => by
    rw [ints_succ]
    exact List.nodup_cons.2 ⟨fun h => by have := (mem_ints.1 h).1; omega, ints_nodup d (a + 1)⟩
def g0 (N : Nat) (m : Int) : lists_link := if m = (N : Int) - 1 then ⟨-1, -1, -1, 0⟩ else ⟨-1, m + 1, -1, 0⟩
theorem fl_g0 (N : Nat) : ∀ (d a : Nat), a + d = N → fl (g0 N) (ints a d)
  | 0, _, _ => trivial
  | d + 1, a, h => by
    rw [ints_succ]
    refine ⟨?_, ?_, fl_g0 N d (a + 1) (by omega)⟩
    · cases d with
      | zero =>
        unfold g0
        rw [if_pos (by omega)]
        rfl
      | succ d =>
        unfold g0
        rw [if_neg (by omega), ints_succ]
        show (a : Int) + 1 = ((a + 1 : Nat) : Int)
        omega
    · unfold g0
      split <;> rfl
theorem new_ok {n N : Nat} (h1 : 1 ≤ n) (h2 : n ≤ 64) (h3 : 1 ≤ N) (h4 : N ≤ 65536) : ∃ x, lists_New (n : Int) (N : Int) = some (some x, .nil) ∧ Good x ⟨List.replicate n [], ints 0 N, [], N⟩ (g0 N) 0 ∧ x.nodes.length = N := by
  let x : lists_Lists := ⟨(tab N N (fun m => (⟨-1, (m : Int) + 1, -1, 0⟩ : lists_link)) z_lists_link).set (N - 1) ⟨-1, -1, -1, 0⟩, tab n n (fun _ => -1) 0, tab n n (fun _ => -1) 0, List.replicate n 0, 0, 0⟩
  let r : R9 := ⟨List.replicate n [], ints 0 N, [], N⟩
  refine ⟨x, ?_, ?_, by simp [x, tab_len]⟩
  · unfold lists_New
    simp only [lt_eq]
    rw [if_neg (by simp; omega), Option.bind_some, if_neg (by simp; omega), if_neg (by simp; omega), Option.bind_some, if_neg (by simp; omega), mkS_nat _ (by omega) (by omega), mkS_nat _ (by omega) (by omega), Option.bind_some, Option.bind_some, Option.bind_some, Option.bind_some]
    have k0 := loopO_up (body := fun s => lists_New_b0 (N : Int) (List.replicate N z_lists_link) (List.replicate n (0 : Int)) (List.replicate n (0 : Int)) (List.replicate n (0 : Int)) ((List.replicate n (0 : Int)).length : Int) s.1 s.2.1 s.2.2) (fun j => ((j : Int), tab n j (fun _ => (-1 : Int)) 0, tab n j (fun _ => (-1 : Int)) 0)) n (x := (tab n n (fun _ => (-1 : Int)) 0, tab n n (fun _ => (-1 : Int)) 0)) (fun j hj => by
      unfold lists_New_b0
      simp only [lt_eq]
      rw [if_pos (decide_eq_true (by simp; omega)), (tab_at hj).chk, Option.bind_some, tab_upd hj (f := fun _ => (-1 : Int)) (d := 0) (g := fun _ => (-1 : Int)) rfl, Option.bind_some, Option.bind_some, Option.bind_some, w64_nat (by omega)]) (by
      unfold lists_New_b0
      simp only [lt_eq]
      rw [if_neg (by simp)])
    have k1 := fun s61 => loopO_up (body := fun s => lists_New_b1 (N : Int) (List.replicate N z_lists_link) (List.replicate n (0 : Int)) (List.replicate n (0 : Int)) (List.replicate n (0 : Int)) s61 ((List.replicate N z_lists_link).length : Int) s.1 s.2) (fun j => ((j : Int), tab N j (fun m => (⟨-1, (m : Int) + 1, -1, 0⟩ : lists_link)) z_lists_link)) N (x := (tab N N (fun m => (⟨-1, (m : Int) + 1, -1, 0⟩ : lists_link)) z_lists_link)) (fun j hj => by
      unfold lists_New_b1
      simp only [lt_eq]
      rw [if_pos (decide_eq_true (by simp; omega)), (tab_at hj).chk, Option.bind_some, tab_upd hj (f := fun m => (⟨-1, (m : Int) + 1, -1, 0⟩ : lists_link)) (by rw [w64_nat (by omega)]; simp), Option.bind_some, w64_nat (by omega)]) (by
      unfold lists_New_b1
      simp only [lt_eq]
      rw [if_neg (by simp)])
    simp only [tab_zero] at k0 k1
    unfold lists_New_l0 lists_New_l1
    rw [show ((0 : Int), List.replicate n (0 : Int), List.replicate n (0 : Int)) = (((0 : Nat) : Int), List.replicate n (0 : Int), List.replicate n (0 : Int)) from rfl, k0, Option.bind_some, show ((0 : Int), List.replicate N z_lists_link) = (((0 : Nat) : Int), List.replicate N z_lists_link) from rfl, k1 _, Option.bind_some, w64_eq (by omega) (by omega)]
    have hat : At (tab N N (fun m => (⟨-1, (m : Int) + 1, -1, 0⟩ : lists_link)) z_lists_link) ((N : Int) - 1) ⟨-1, (N : Int), -1, 0⟩ := by
      have h : N - 1 < N := by omega
      have := at_nat (tab_get (f := fun m => (⟨-1, (m : Int) + 1, -1, 0⟩ : lists_link)) (d := z_lists_link) (j := N) h)
      rw [if_pos h] at this
      rw [show ((N : Int) - 1) = ((N - 1 : Nat) : Int) by omega]
      rw [show ((N - 1 : Nat) : Int) + 1 = (N : Int) by omega] at this
      exact this
    rw [hat.chk, Option.bind_some, hat.updA, Option.bind_some]
    have : ((N : Int) - 1).toNat = N - 1 := by omega
    rw [this]
  · show Good x r (g0 N) 0
    have hL : ∀ {i : Int} {l}, At (List.replicate n ([] : List Int)) i l → l = [] ∧ i < n := fun {i l} h => ⟨(List.mem_replicate.1 (List.mem_of_getElem? h.2)).2, by simpa using h.lt⟩
    have hlen : x.nodes.length = N := by simp [x, tab_len]
    refine ⟨fun m h0 h1 => ⟨h0, ?_⟩, ?_, by rw [hlen]; exact h4, ⟨by simp [x, r, tab_len], by simp [x, r, tab_len], by simp [x, r], fun i l hl => ?_⟩, by simpa [r] using h2, fun m hm => ?_, ?_, ?_, fun m h0 h1 => ?_, fun i l hl => ?_, fun m hm => (by cases hm), fl_g0 N N 0 (by omega), ?_, .nil, fun m hm => (by cases hm), by simp [x]⟩
    · rw [hlen] at h1
      show ((tab N N (fun m => (⟨-1, (m : Int) + 1, -1, 0⟩ : lists_link)) z_lists_link).set (N - 1) ⟨-1, -1, -1, 0⟩)[m.toNat]? = some (g0 N m)
      unfold g0
      by_cases hm : m = (N : Int) - 1
      · rw [if_pos hm, show m.toNat = N - 1 by omega, List.getElem?_set_self (by rw [tab_len]; omega)]
      · rw [if_neg hm, List.getElem?_set_ne (by omega), tab_get (by omega), if_pos (by omega)]
        congr 2
        omega
    · rw [hlen]
    · obtain ⟨rfl, hi⟩ := hL hl
      have h0 := hl.1
      have ht : At (tab n n (fun _ => (-1 : Int)) 0) i (-1) := ⟨h0, by rw [tab_get (by omega), if_pos (by omega)]⟩
      exact ⟨trivial, ht, ht, h0, by show (List.replicate n (0 : Int))[i.toNat]? = some 0; rw [List.getElem?_replicate, if_pos (by omega)]⟩
    · rw [hlen]
      simp only [r, List.append_nil] at hm
      have := mem_ints.1 hm
      omega
    · simp only [r, List.append_nil]
      exact ints_nodup N 0
    · rw [hlen]; simp [r, ints]
    · rw [hlen] at h1
      simp only [r, List.append_nil]
      exact mem_ints.2 (by omega)
    · obtain ⟨rfl, hi⟩ := hL hl
      exact List.nil_sublist _
    · show (0 : Int) = hdp (ints 0 N) (-1)
      obtain ⟨N', rfl⟩ : ∃ N', N = N' + 1 := ⟨N - 1, by omega⟩
      rw [ints_succ]
      rfl
def fold (h : BitVec 64) : BitVec 64 := h ^^^ (h >>> 33)
def mix0 (h : BitVec 64) : BitVec 64 := fold (fold (fold h * 18397679294719823053#64) * 14181476777654086739#64)
theorem mix_ex : ∃ f : BitVec 64 → BitVec 64, ∀ h, f h = mix0 h := ⟨mix0, fun _ => rfl⟩
noncomputable def mix : BitVec 64 → BitVec 64 := Classical.choose mix_ex
theorem mix_def (h : BitVec 64) : mix h = mix0 h := Classical.choose_spec mix_ex h
theorem bloom_Mix_eq (h : BitVec 64) : bloom_Mix h = some (mix h) := by rw [mix_def]; simp only [bloom_Mix, lt_eq, mix0, fold]
def stir (h : BitVec 64) (c : BitVec 8) : BitVec 64 := (h ^^^ c.setWidth 64) * 1099511628211#64
def hash0 (k : List (BitVec 8)) : BitVec 64 := mix0 (k.foldl stir 14695981039346656037#64)
theorem hash_ex : ∃ f : List (BitVec 8) → BitVec 64, ∀ h, f h = hash0 h := ⟨hash0, fun _ => rfl⟩
noncomputable def hash : List (BitVec 8) → BitVec 64 := Classical.choose hash_ex
theorem hash_def (h : List (BitVec 8)) : hash h = hash0 h := Classical.choose_spec hash_ex h
theorem bloom_Hash_eq (k : List (BitVec 8)) (hk : k.length ≤ 1000000) : bloom_Hash k = some (hash k) := by
  have h := loopO_foldl k stir id (body := fun s => bloom_Hash_b0 k k.length s.1 s.2) (fun s i hi => by
    simp only [bloom_Hash_b0, lt_eq, ix_nat hi, Option.bind_some, w64_nat (show i < 9223372036854775807 by omega)]
    rw [if_pos (by simpa using hi)]; rfl) (fun s => by simp [bloom_Hash_b0, lt_eq]) 14695981039346656037#64
  simp only [bloom_Hash, lt_eq, bloom_Hash_l0, h, Option.bind_some, bloom_Mix_eq, hash_def, hash0, mix_def, id]
theorem slot_eq (h : BitVec 64) {n : Nat} (h1 : 1 ≤ n) (h2 : n ≤ 256) : bloom_Slot h (n : Int) = some ((h.toNat % n : Nat) : Int) := by
  have e : BitVec.ofInt 64 (n : Int) = BitVec.ofNat 64 n := BitVec.ofInt_natCast 64 n
  have hn : (BitVec.ofNat 64 n).toNat = n := by rw [BitVec.toNat_ofNat, Nat.mod_eq_of_lt (by omega)]
  have h0 : BitVec.ofNat 64 n ≠ 0#64 := fun h => by rw [h] at hn; simp at hn; omega
  unfold bloom_Slot
  simp only [lt_eq]
  rw [if_neg (by simp; omega), e, dvU_eq h0]
  simp only [Option.map_some, Option.bind_some]
  have hm : (h % BitVec.ofNat 64 n).toNat = h.toNat % n := by rw [BitVec.toNat_umod, hn]
  have hl : h.toNat % n < n := Nat.mod_lt _ (by omega)
  rw [BitVec.toInt_eq_toNat_of_lt (by rw [hm]; omega), hm]
noncomputable def slotN (k : List (BitVec 8)) (H : Nat) : Nat := (hash k).toNat % H
theorem head_eq {x : ram_Ram} {k : List (BitVec 8)} (hk : k.length ≤ 1000000) (h1 : 1 ≤ x.heads.length) (h2 : x.heads.length ≤ 256) : ram_Ram_head x k = some ((slotN k x.heads.length : Nat) : Int) := by
  have hl : slotN k x.heads.length < x.heads.length := Nat.mod_lt _ (by omega)
  unfold ram_Ram_head
  simp only [lt_eq]
  rw [bloom_Hash_eq k hk, Option.bind_some, slot_eq _ h1 h2, Option.bind_some]
  show (chk _ ((slotN k x.heads.length : Nat) : Int)).bind _ = _
  unfold chk
  rw [if_pos ⟨by omega, by omega⟩]
  rfl
def sl (nx : Int → Int) : List Int → Prop
  | [] => True
  | n :: l => nx n = hdp l (-1) ∧ sl nx l
theorem sl_congr {f f' : Int → Int} : ∀ {l : List Int}, (∀ n ∈ l, f' n = f n) → sl f l → sl f' l
  | [], _, _ => trivial
  | n :: l, h, hs => ⟨(h n List.mem_cons_self).trans hs.1, sl_congr (fun m hm => h m (List.mem_cons_of_mem _ hm)) hs.2⟩
theorem sl_app {f : Int → Int} : ∀ {a : List Int} {n : Int} {b : List Int}, sl f (a ++ n :: b) → sl f b ∧ f n = hdp b (-1) ∧ (a ≠ [] → f (lsp (-1) a) = n)
  | [], n, b, h => ⟨h.2, h.1, fun h => absurd rfl h⟩
  | [c], n, b, h => by
    obtain ⟨h1, h2, h3⟩ := sl_app (a := []) h.2
    exact ⟨h1, h2, fun _ => h.1⟩
  | c :: d :: a, n, b, h => by
    obtain ⟨h1, h2, h3⟩ := sl_app (a := d :: a) h.2
    exact ⟨h1, h2, fun _ => h3 (by simp)⟩
theorem sl_out {f : Int → Int} {n : Int} {b : List Int} : ∀ {a : List Int}, a ≠ [] → (a ++ n :: b).Nodup → sl f (a ++ n :: b) → sl (fun m => if m = lsp (-1) a then hdp b (-1) else f m) (a ++ b)
  | [], h, _, _ => absurd rfl h
  | [c], _, hn, h => by
    have hn' := List.nodup_cons.1 hn
    obtain ⟨h1, h2, h3⟩ := sl_app (a := []) h.2
    refine ⟨?_, sl_congr (fun m hm => ?_) h1⟩
    · exact if_pos rfl
    · have hm' : m ∈ b := hm
      have : m ≠ c := fun e => hn'.1 (by rw [← e]; exact List.mem_cons_of_mem _ hm')
      exact if_neg this
  | c :: d :: a, _, hn, h => by
    have hn' := List.nodup_cons.1 hn
    have ih := sl_out (a := d :: a) (by simp) hn'.2 h.2
    refine ⟨?_, ih⟩
    have hl := lsp_mem (l := d :: a) (p := -1) (by simp)
    have hc : c ≠ lsp (-1) (c :: d :: a) := fun e => by
      have : lsp (-1) (c :: d :: a) = lsp (-1) (d :: a) := rfl
      rw [this] at e
      exact hn'.1 (by rw [e]; exact List.mem_append_left _ hl)
    exact (if_neg hc).trans h.1
structure RI (x : ram_Ram) (l : List aEn) (lim : Int) (ρ : R9) (g : Int → lists_link) (th : Int → aEn) (nx : Int → Int) (C : Nat → List Int) (k : Int) : Prop where
  gd : Good x.lists ρ g k
  nine : ρ.L.length = 9
  tn : x.things.length = x.lists.nodes.length
  nn : x.next_.length = x.lists.nodes.length
  tr : ∀ n : Int, 0 ≤ n → n < x.lists.nodes.length → At x.things n (th n)
  nr : ∀ n : Int, 0 ≤ n → n < x.lists.nodes.length → At x.next_ n (nx n)
  h1 : 1 ≤ x.heads.length
  h2 : x.heads.length ≤ 256
  hd : ∀ s : Nat, s < x.heads.length → At x.heads (s : Int) (hdp (C s) (-1))
  ch : ∀ s : Nat, s < x.heads.length → sl nx (C s) ∧ (C s).Nodup
  cm : ∀ s : Nat, s < x.heads.length → ∀ n, n ∈ C s ↔ n ∈ ρ.Used ∧ slotN (th n).Key x.heads.length = s
  ll : l = ρ.Used.map th
  ok : okL l
  cls : ∀ e ∈ l, 0 ≤ clsE e ∧ clsE e < 9
  ds : dst l
  cl : ∀ n ∈ ρ.Used, (g n).list = clsE (th n)
  bu : B8 lim x.budget (l.map clsE)
  ct : x.count = (l.length : Int)
  lim1 : 1 ≤ lim
  lim2 : lim ≤ 1048576
  nb : lim < 32 * ((x.lists.nodes.length : Int) + 1)
section
variable {x : ram_Ram} {l : List aEn} {lim : Int} {ρ : R9} {g : Int → lists_link} {th : Int → aEn} {nx : Int → Int} {C : Nat → List Int} {k : Int}
theorem RI.rng (R : RI x l lim ρ g th nx C k) {n : Int} (h : n ∈ ρ.Used) : 0 ≤ n ∧ n < (x.lists.nodes.length : Int) := R.gd.rng n (List.mem_append_right _ h)
theorem RI.key (R : RI x l lim ρ g th nx C k) {n : Int} (h : n ∈ ρ.Used) : th n ∈ l := by rw [R.ll]; exact List.mem_map_of_mem h
theorem RI.len (R : RI x l lim ρ g th nx C k) : l.length ≤ 32768 := by
  have h1 := usedL_len (l := l.map clsE) fun c hc => R.bu.cls c hc
  have h2 := R.bu.le
  have h3 := R.lim2
  rw [List.length_map] at h1
  omega
theorem RI.ulen (R : RI x l lim ρ g th nx C k) : ρ.Used.length = l.length := by rw [R.ll, List.length_map]
theorem map_inj {f : Int → aEn} : ∀ {u : List Int}, dst (u.map f) → ∀ {m n : Int}, m ∈ u → n ∈ u → (f m).Key = (f n).Key → m = n
  | [], _, m, n, hm, _, _ => by cases hm
  | a :: u, hd, m, n, hm, hn, he => by
    have h2 := List.pairwise_cons.1 hd
    rcases List.mem_cons.1 hm with e1 | hm1
    · rcases List.mem_cons.1 hn with e2 | hn1
      · exact e1.trans e2.symm
      · exact absurd (by rw [← e1]; exact he) (h2.1 (f n) (List.mem_map_of_mem hn1))
    · rcases List.mem_cons.1 hn with e2 | hn1
      · exact absurd (by rw [← e2]; exact he.symm) (h2.1 (f m) (List.mem_map_of_mem hm1))
      · exact map_inj h2.2 hm1 hn1 he
theorem RI.inj (R : RI x l lim ρ g th nx C k) {m n : Int} (hm : m ∈ ρ.Used) (hn : n ∈ ρ.Used) (he : (th m).Key = (th n).Key) : m = n :=
  map_inj (f := th) (by rw [← R.ll]; exact R.ds) hm hn he
theorem RI.chain (R : RI x l lim ρ g th nx C k) (key : List (BitVec 8)) : slotN key x.heads.length < x.heads.length := Nat.mod_lt _ (by have := R.h1; omega)
theorem find_loop (R : RI x l lim ρ g th nx C k) (key : List (BitVec 8)) : ∀ (c : List Int), sl nx c → (∀ n ∈ c, n ∈ ρ.Used) → ram_Ram_find_l0 x key (hdp c (-1)) = some (match c.find? fun n => decide ((th n).Key = key) with | none => .inl () | some n => .inr n)
  | [], _, _ => by
    refine loopO_out (body := fun s => ram_Ram_find_b0 x key s) ?_
    unfold ram_Ram_find_b0
    simp [hdp, lt_eq]
  | n :: c, hs, hu => by
    obtain ⟨n0, n1⟩ := R.rng (hu n List.mem_cons_self)
    have ht := R.tr n n0 n1
    have hn := R.nr n n0 n1
    simp only [hdp, List.find?_cons]
    by_cases hk : (th n).Key = key
    · rw [decide_eq_true hk]
      refine loopO_out (body := fun s => ram_Ram_find_b0 x key s) ?_
      unfold ram_Ram_find_b0
      simp only [lt_eq]
      rw [if_pos (decide_eq_true n0), ht.chk, Option.bind_some, ht.ixA, Option.bind_some, if_pos (by simpa using hk)]
    · rw [decide_eq_false hk]
      have ih := find_loop R key c hs.2 (fun m hm => hu m (List.mem_cons_of_mem _ hm))
      rw [← hs.1] at ih
      simp only
      rw [← ih]
      refine loopO_in (body := fun s => ram_Ram_find_b0 x key s) ?_
      unfold ram_Ram_find_b0
      simp only [lt_eq]
      rw [if_pos (decide_eq_true n0), ht.chk, Option.bind_some, ht.ixA, Option.bind_some, if_neg (by simpa using hk), hn.chk, Option.bind_some, hn.ixA, Option.bind_some]
theorem find_x (R : RI x l lim ρ g th nx C k) {key : List (BitVec 8)} (hk : key.length ≤ 1000000) : (ram_Ram_find x key = some (-1) ∧ fE key l = none) ∨ ∃ n, ram_Ram_find x key = some n ∧ n ∈ ρ.Used ∧ (th n).Key = key ∧ fE key l = some (th n) := by
  have hs := R.chain key
  obtain ⟨c1, c2⟩ := R.ch _ hs
  have hh := R.hd _ hs
  have hl := find_loop R key (C (slotN key x.heads.length)) c1 (fun n hn => ((R.cm _ hs n).1 hn).1)
  unfold ram_Ram_find
  rw [head_eq hk R.h1 R.h2, Option.bind_some, hh.ixA, Option.bind_some, hl, Option.bind_some]
  cases hf : (C (slotN key x.heads.length)).find? fun n => decide ((th n).Key = key) with
  | none =>
    refine .inl ⟨rfl, fE_none.2 fun e he hke => ?_⟩
    rw [R.ll] at he
    obtain ⟨n, hn, rfl⟩ := List.mem_map.1 he
    have hc := (R.cm _ hs n).2 ⟨hn, by rw [hke]⟩
    have := List.find?_eq_none.1 hf n hc
    simp [hke] at this
  | some n =>
    have hn := ((R.cm _ hs n).1 (List.mem_of_find?_eq_some hf)).1
    have hke : (th n).Key = key := by have := List.find?_some hf; simpa using this
    refine .inr ⟨n, rfl, hn, hke, ?_⟩
    rw [← hke]
    exact dst_fE R.ds (R.key hn)
end
def rdP (x : ram_Ram) (c : Bool × Int) : Option Int := if c.1 = true then ixA x.heads.length x.heads c.2 else ixA x.next_.length x.next_ c.2
def plP (s : Nat) : List Int → Bool × Int
  | [] => (true, (s : Int))
  | a :: p => (false, lsp a p)
theorem rm_b0 {x : ram_Ram} {n m : Int} {v : aEn} {c : Bool × Int} (h : rdP x c = some m) : ram_Ram_remove_b0 x n v c = if m = n then some (.inr c) else (chk x.next_.length m).bind fun _ => some (.inl (false, m)) := by
  obtain ⟨b, i⟩ := c
  unfold ram_Ram_remove_b0
  simp only [lt_eq]
  cases b with
  | true =>
    simp only [rdP, if_true] at h ⊢
    rw [h]
    simp only [Option.bind_some]
    by_cases he : m = n
    · rw [if_pos he, if_neg (by simp [he])]
    · rw [if_neg he, if_pos (by simpa using he), if_pos trivial, h]
      rfl
  | false =>
    simp only [rdP, Bool.false_eq_true, if_false] at h ⊢
    rw [h]
    simp only [Option.bind_some]
    by_cases he : m = n
    · rw [if_pos he, if_neg (by simp [he])]
    · rw [if_neg he, if_pos (by simpa using he), if_neg (by decide), h]
      rfl
theorem but_app {p b : List Int} {n : Int} (h : (p ++ n :: b).Nodup) : n ∉ p ∧ n ∉ b := by
  rw [List.nodup_append] at h
  exact ⟨fun hp => h.2.2 n hp n List.mem_cons_self rfl, (List.nodup_cons.1 h.2.1).1⟩
section
variable {x : ram_Ram} {l : List aEn} {lim : Int} {ρ : R9} {g : Int → lists_link} {th : Int → aEn} {nx : Int → Int} {C : Nat → List Int} {k : Int}
theorem RI.at_pl (R : RI x l lim ρ g th nx C k) {s : Nat} (hs : s < x.heads.length) {p r : List Int} {m : Int} (hC : C s = p ++ m :: r) : rdP x (plP s p) = some m := by
  have hh := R.hd s hs
  obtain ⟨c1, c2⟩ := R.ch s hs
  have hcm := R.cm s hs
  rw [hC] at hh c1 hcm
  cases p with
  | nil =>
    simp only [plP, rdP, if_true]
    exact hh.ixA
  | cons a p =>
    have h3 := (sl_app c1).2.2 (by simp)
    have hm : lsp (-1) (a :: p) ∈ a :: p := lsp_mem (by simp)
    obtain ⟨u0, u1⟩ := R.rng ((hcm _).1 (List.mem_append_left _ hm)).1
    have hn := R.nr _ u0 u1
    simp only [plP, rdP, Bool.false_eq_true, if_false]
    rw [h3] at hn
    exact hn.ixA
theorem rm_loop (R : RI x l lim ρ g th nx C k) {s : Nat} (hs : s < x.heads.length) {n : Int} {v : aEn} {b : List Int} : ∀ (q p : List Int), C s = p ++ (q ++ n :: b) → ram_Ram_remove_l0 x n v (plP s p) = some (plP s (p ++ q))
  | [], p, hC => by
    have h := R.at_pl hs hC
    rw [List.append_nil]
    exact loopO_out (body := fun s => ram_Ram_remove_b0 x n v s) (by rw [rm_b0 h, if_pos rfl])
  | m :: q, p, hC => by
    have h := R.at_pl hs (p := p) (m := m) (r := q ++ n :: b) hC
    have hnd := (R.ch s hs).2
    rw [hC] at hnd
    have hmn : m ≠ n := fun e => by
      have h2 := (but_app (p := p) (n := m) (b := q ++ n :: b) hnd).2
      exact h2 (by rw [e]; simp)
    have hmu := ((R.cm s hs m).1 (by rw [hC]; simp)).1
    obtain ⟨u0, u1⟩ := R.rng hmu
    have hck := (R.nr m u0 u1).chk
    have ih := rm_loop (v := v) R hs (n := n) (b := b) q (p ++ [m]) (by rw [hC]; simp)
    rw [show p ++ m :: q = (p ++ [m]) ++ q by simp, ← ih]
    refine loopO_in (body := fun s => ram_Ram_remove_b0 x n v s) ?_
    rw [rm_b0 h, if_neg hmn, hck, Option.bind_some]
    congr 2
    cases p with
    | nil => rfl
    | cons a p => simp only [plP, List.cons_append, lsp_app]; rfl
theorem unlink (R : RI x l lim ρ g th nx C k) {s : Nat} (hs : s < x.heads.length) {n : Int} {p b : List Int} (hC : C s = p ++ n :: b) : ∃ (H' N' : List Int) (nx' : Int → Int),
    (if (plP s p).1 = true then
        (chk (x.next_).length n).bind fun v53 =>
        (ixA (x.next_).length x.next_ n).bind fun v55 =>
        (updA (x.heads).length x.heads (plP s p).2 (fun _ => v55)).bind fun c57 =>
        some (c57, x.next_)
      else
        (chk (x.next_).length n).bind fun v60 =>
        (ixA (x.next_).length x.next_ n).bind fun v62 =>
        (updA (x.next_).length x.next_ (plP s p).2 (fun _ => v62)).bind fun c64 =>
        some (x.heads, c64)) = some (H', N') ∧ H'.length = x.heads.length ∧ N'.length = x.next_.length ∧
    (∀ j : Nat, j < x.heads.length → At H' (j : Int) (hdp (if j = s then p ++ b else C j) (-1))) ∧
    (∀ m : Int, 0 ≤ m → m < x.lists.nodes.length → At N' m (nx' m)) ∧
    (∀ j : Nat, j < x.heads.length → sl nx' (if j = s then p ++ b else C j)) := by
  have hh := R.hd s hs
  obtain ⟨c1, c2⟩ := R.ch s hs
  have hcm := R.cm s hs
  rw [hC] at hh c1 c2 hcm
  obtain ⟨s1, s2, s3⟩ := sl_app c1
  obtain ⟨n0, n1⟩ := R.rng ((hcm n).1 (by simp)).1
  have hn := R.nr n n0 n1
  rw [s2] at hn
  cases p with
  | nil =>
    refine ⟨x.heads.set s (hdp b (-1)), x.next_, nx, ?_, by simp, rfl, fun j hj => ?_, R.nr, fun j hj => ?_⟩
    · simp only [plP, if_true]
      rw [hn.chk, Option.bind_some, hn.ixA, Option.bind_some, hh.updA, Option.bind_some]
      rfl
    · by_cases he : j = s
      · subst he
        rw [if_pos rfl]
        have := hh.same (hdp b (-1))
        simpa using this
      · rw [if_neg he]
        have := (R.hd j hj).ne (i := (s : Int)) (by omega) (by omega) (hdp b (-1))
        simpa using this
    · by_cases he : j = s
      · rw [if_pos he]; exact s1
      · rw [if_neg he]; exact (R.ch j hj).1
  | cons a p =>
    have hm : lsp (-1) (a :: p) ∈ a :: p := lsp_mem (by simp)
    have hmu := (hcm _).1 (List.mem_append_left _ hm)
    obtain ⟨u0, u1⟩ := R.rng hmu.1
    have hu := R.nr _ u0 u1
    refine ⟨x.heads, x.next_.set (lsp (-1) (a :: p)).toNat (hdp b (-1)), fun m => if m = lsp (-1) (a :: p) then hdp b (-1) else nx m, ?_, rfl, by simp, fun j hj => ?_, fun m m0 m1 => ?_, fun j hj => ?_⟩
    · simp only [plP, Bool.false_eq_true, if_false]
      rw [hn.chk, Option.bind_some, hn.ixA, Option.bind_some, show lsp a p = lsp (-1) (a :: p) from rfl, hu.updA, Option.bind_some]
    · by_cases he : j = s
      · subst he
        rw [if_pos rfl]
        exact hh
      · rw [if_neg he]
        exact R.hd j hj
    · by_cases he : m = lsp (-1) (a :: p)
      · subst he
        simp only [if_true]
        exact hu.same _
      · simp only
        rw [if_neg he]
        exact (R.nr m m0 m1).ne u0 he _
    · by_cases he : j = s
      · rw [if_pos he]
        exact sl_out (by simp) c2 c1
      · rw [if_neg he]
        refine sl_congr (fun m hmj => if_neg fun e => ?_) (R.ch j hj).1
        have h2 := (R.cm j hj m).1 hmj
        rw [e] at h2
        exact he (h2.2.symm.trans hmu.2)
theorem butE_perm {e : aEn} : ∀ {l : List aEn}, dst l → e ∈ l → l.Perm (e :: butE e.Key l)
  | [], _, h => by cases h
  | y :: l, hd, h => by
    have h2 := List.pairwise_cons.1 hd
    unfold butE
    rw [List.filter_cons]
    by_cases hk : y.Key = e.Key
    · have hye : y = e := by
        rcases List.mem_cons.1 h with h1 | h1
        · exact h1.symm
        · exact absurd hk (h2.1 e h1)
      subst hye
      rw [if_neg (by simp)]
      rw [List.filter_eq_self.2 fun z hz => by have := h2.1 z hz; simpa using Ne.symm this]
    · rw [if_pos (by simpa using hk)]
      have he : e ∈ l := by
        rcases List.mem_cons.1 h with h1 | h1
        · exact absurd (by rw [h1]) hk
        · exact h1
      exact ((butE_perm h2.2 he).cons y).trans (.swap _ _ _)
theorem butE_map {f : Int → aEn} {n : Int} {u : List Int} (hi : ∀ m ∈ u, (f m).Key = (f n).Key → m = n) : butE (f n).Key (u.map f) = (but u n).map f := by
  unfold butE but
  rw [List.filter_map]
  congr 1
  refine List.filter_congr fun m hm => ?_
  by_cases he : m = n
  · subst he; simp
  · have : ¬ (f m).Key = (f n).Key := fun h => he (hi m hm h)
    simp only [Function.comp]
    rw [bne_iff_ne.2 this, bne_iff_ne.2 he]
theorem remove_ok (R : RI x l lim ρ g th nx C k) {n : Int} (hu : n ∈ ρ.Used) : ∃ x' ρ' g' th' nx' C', ram_Ram_remove x n = some (th n, x') ∧ RI x' (butE (th n).Key l) lim ρ' g' th' nx' C' k := by
  obtain ⟨n0, n1⟩ := R.rng hu
  have ht := R.tr n n0 n1
  have hln := R.key hu
  have hkey := (ck_ok (R.ok _ hln)).2.1
  have hs := R.chain (th n).Key
  obtain ⟨s, hse⟩ : ∃ s, s = slotN (th n).Key x.heads.length := ⟨_, rfl⟩
  have hhead := head_eq (x := x) (k := (th n).Key) (by omega) R.h1 R.h2
  rw [← hse] at hs hhead
  have hcs := (R.cm s hs n).2 ⟨hu, hse.symm⟩
  obtain ⟨p, b, hC⟩ := List.append_of_mem hcs
  have hnd := (R.ch s hs).2
  rw [hC] at hnd
  obtain ⟨hnp, hnb⟩ := but_app hnd
  have hloop := rm_loop (v := th n) R hs (n := n) (b := b) p [] hC
  rw [List.nil_append] at hloop
  obtain ⟨H', N', nx', e1, lH, lN, aH, aN, aS⟩ := unlink R hs hC
  obtain ⟨xl, g', i, li, d1, d2, d3, d4, d5, d6, d7⟩ := drop_ok R.gd hu
  have hcl := R.cl n hu
  have hmem : clsE (th n) ∈ l.map clsE := List.mem_map_of_mem hln
  obtain ⟨b', v1, v2⟩ := give8 (by have := R.lim2; omega) R.bu hmem
  have hlen := R.len
  have hpos : 0 < l.length := List.length_pos_of_mem hln
  have hperm := butE_perm R.ds hln
  have hblen := hperm.length_eq
  simp only [List.length_cons] at hblen
  let z : aEn := ⟨[], 0, 0, 0, []⟩
  refine ⟨⟨b', xl, H', N', x.things.set n.toNat z, (l.length : Int) - 1⟩, ⟨ρ.L.set i.toNat (but li n), n :: ρ.Free, but ρ.Used n, ρ.Nodes⟩, g', fun m => if m = n then z else th m, nx', fun j => if j = s then p ++ b else C j, ?_, ?_⟩
  · unfold ram_Ram_remove
    rw [ht.chk, Option.bind_some, ht.ixA, Option.bind_some, hhead, Option.bind_some, show ((true : Bool), (s : Int)) = plP s [] from rfl, hloop, Option.bind_some, e1, Option.bind_some, listX_in R.gd n0 n1, hcl, Option.bind_some, d1, Option.bind_some, v1, Option.bind_some, ht.updA, R.ct]
    simp only [Option.bind_some, lt_eq]
    rw [w64_eq (by omega) (by omega)]
  · have hth : ∀ m ∈ but ρ.Used n, (if m = n then z else th m) = th m := fun m hm => if_neg (mem_but.1 hm).2
    have hmap : (but ρ.Used n).map (fun m => if m = n then z else th m) = butE (th n).Key l := by
      rw [R.ll, butE_map fun m hm he => R.inj hm hu he]
      exact List.map_congr_left hth
    refine ⟨d6, by simp [R.nine], by simp [R.tn, d2], lN.trans (R.nn.trans d2.symm), fun m m0 m1 => ?_, fun m m0 m1 => aN m m0 (by rw [d2] at m1; exact m1), by rw [lH]; exact R.h1, by rw [lH]; exact R.h2, fun j hj => aH j (by rw [lH] at hj; exact hj), fun j hj => ?_, fun j hj m => ?_, hmap.symm, R.ok.sub (butE_sub _ _), fun e he => R.cls e ((butE_sub _ _).subset he), dst_sub R.ds (butE_sub _ _), fun m hm => ?_, ?_, ?_, R.lim1, R.lim2, by rw [d2]; exact R.nb⟩
    · rw [d2] at m1
      by_cases he : m = n
      · subst he
        simp only [if_true]
        exact ht.same _
      · simp only
        rw [if_neg he]
        exact (R.tr m m0 m1).ne n0 he _
    · rw [lH] at hj
      refine ⟨aS j hj, ?_⟩
      by_cases he : j = s
      · rw [if_pos he]
        exact hnd.sublist (List.Sublist.append_left (List.sublist_cons_self _ _) _)
      · rw [if_neg he]
        exact (R.ch j hj).2
    · rw [lH] at hj
      show m ∈ (if j = s then p ++ b else C j) ↔ m ∈ but ρ.Used n ∧ slotN (if m = n then z else th m).Key H'.length = j
      rw [lH, mem_but]
      by_cases hmn : m = n
      · subst hmn
        constructor
        · intro hm
          by_cases he : j = s
          · rw [if_pos he] at hm
            rcases List.mem_append.1 hm with h | h
            · exact absurd h hnp
            · exact absurd h hnb
          · rw [if_neg he] at hm
            exact absurd (((R.cm j hj m).1 hm).2.symm.trans hse.symm) he
        · rintro ⟨⟨_, h⟩, _⟩
          exact absurd rfl h
      · rw [if_neg hmn]
        have h0 := R.cm j hj m
        by_cases he : j = s
        · subst he
          rw [if_pos rfl]
          rw [hC] at h0
          constructor
          · intro hm
            have h1 := h0.1 (by rcases List.mem_append.1 hm with h | h <;> simp [h])
            exact ⟨⟨h1.1, hmn⟩, h1.2⟩
          · rintro ⟨⟨h1, _⟩, h2⟩
            have h3 := h0.2 ⟨h1, h2⟩
            rcases List.mem_append.1 h3 with h | h
            · exact List.mem_append_left _ h
            · rcases List.mem_cons.1 h with h | h
              · exact absurd h hmn
              · exact List.mem_append_right _ h
        · rw [if_neg he, h0]
          exact ⟨fun h => ⟨⟨h.1, hmn⟩, h.2⟩, fun h => ⟨h.1.1, h.2⟩⟩
    · show (g' m).list = clsE (if m = n then z else th m)
      rw [hth m hm, d7 m (mem_but.1 hm).2]
      exact R.cl m (mem_but.1 hm).1
    · have h1 := (hperm.map clsE).erase (clsE (th n))
      rw [List.map_cons, List.erase_cons_head] at h1
      exact v2.perm h1
    · show (l.length : Int) - 1 = _
      omega
end
def RX (x : ram_Ram) (l : List aEn) (lim k : Int) : Prop := ∃ ρ g th nx C, RI x l lim ρ g th nx C k
theorem RX.more {x : ram_Ram} {l : List aEn} {lim k k' : Int} (h : RX x l lim k) (hk : k ≤ k') : RX x l lim k' := by
  obtain ⟨ρ, g, th, nx, C, R⟩ := h
  exact ⟨ρ, g, th, nx, C, { R with gd := R.gd.more hk }⟩
theorem RX.len {x : ram_Ram} {l : List aEn} {lim k : Int} (h : RX x l lim k) : l.length ≤ 32768 := by
  obtain ⟨ρ, g, th, nx, C, R⟩ := h; exact R.len
theorem RX.ok {x : ram_Ram} {l : List aEn} {lim k : Int} (h : RX x l lim k) : okL l ∧ dst l ∧ 1 ≤ lim ∧ lim ≤ 1048576 ∧ (∀ e ∈ l, 0 ≤ clsE e ∧ clsE e < 9) ∧ usE l ≤ lim := by
  obtain ⟨ρ, g, th, nx, C, R⟩ := h; exact ⟨R.ok, R.ds, R.lim1, R.lim2, R.cls, R.bu.le⟩
theorem new_x {lim : Int} (h1 : 1 ≤ lim) (h2 : lim ≤ 1048576) : ∃ x, ram_New lim = some (some x, .nil) ∧ RX x [] lim 0 := by
  obtain ⟨b, hb, vb⟩ := new8 h1 (by omega : lim ≤ 1099511627776)
  obtain ⟨N, hN⟩ : ∃ N : Nat, (if (1 : Int) > lim / 32 then (1 : Int) else lim / 32) = (N : Int) := by
    refine ⟨(if (1 : Int) > lim / 32 then (1 : Int) else lim / 32).toNat, ?_⟩
    split <;> omega
  have hN1 : 1 ≤ N := by split at hN <;> omega
  have hN2 : N ≤ 32768 := by split at hN <;> omega
  have hN3 : lim < 32 * ((N : Int) + 1) := by split at hN <;> omega
  obtain ⟨H, hH⟩ : ∃ H : Nat, H = if N ≤ 256 then N else 256 := ⟨_, rfl⟩
  have hH1 : 1 ≤ H ∧ H ≤ 256 := by split at hH <;> omega
  have hHi : (if (256 : Int) < (N : Int) then (256 : Int) else (N : Int)) = (H : Int) := by
    split at hH <;> split <;> omega
  obtain ⟨xl, hl, G, hlen⟩ := new_ok (n := 9) (N := N) (by omega) (by omega) hN1 (by omega)
  let x : ram_Ram := ⟨b, xl, tab H H (fun _ => (-1 : Int)) 0, List.replicate N 0, List.replicate N z_aEn, 0⟩
  have hq : quo64 lim 32 = lim / 32 := by unfold quo64; rw [Int.tdiv_eq_ediv_of_nonneg (by omega), w64_eq (by omega) (by omega)]
  have hloop : ram_New_l0 b xl (List.replicate H 0) (List.replicate N 0) (List.replicate N z_aEn) (H : Int) ((0 : Int), List.replicate H 0) = some (tab H H (fun _ => (-1 : Int)) 0) := by
    have k0 := loopO_up (body := fun s => ram_New_b0 b xl (List.replicate H 0) (List.replicate N 0) (List.replicate N z_aEn) (H : Int) s.1 s.2) (fun j => ((j : Int), tab H j (fun _ => (-1 : Int)) 0)) H (x := tab H H (fun _ => (-1 : Int)) 0) (fun j hj => by
      unfold ram_New_b0
      simp only [lt_eq]
      rw [if_pos (decide_eq_true (by omega)), (tab_at hj).chk, Option.bind_some, tab_upd hj (f := fun _ => (-1 : Int)) (d := 0) (g := fun _ => (-1 : Int)) rfl, Option.bind_some, w64_nat (by omega)]) (by
      unfold ram_New_b0
      simp only [lt_eq]
      rw [if_neg (by simp)])
    simp only [tab_zero] at k0
    exact k0
  refine ⟨x, ?_, ⟨List.replicate 9 [], ints 0 N, [], N⟩, g0 N, fun _ => z_aEn, fun _ => 0, fun _ => [], ?_⟩
  · unfold ram_New
    simp only [lt_eq]
    rw [if_neg (by simp; omega), hb, Option.bind_some]
    simp only [Option.elim_some, Err.isNil, Bool.not_true, Bool.false_eq_true, if_false]
    rw [hq, hN, show (9 : Int) = ((9 : Nat) : Int) from rfl, hl, Option.bind_some]
    simp only [Option.elim_some, Err.isNil, Bool.not_true, Bool.false_eq_true, if_false]
    rw [hHi, mkS_nat _ (by omega) (by omega), Option.bind_some, mkS_nat _ (by omega) (by omega), Option.bind_some, mkS_nat _ (by omega) (by omega), Option.bind_some]
    simp only [List.length_replicate]
    rw [hloop, Option.bind_some]
  · refine ⟨G, by simp, by simp [x, hlen], by simp [x, hlen], fun n n0 n1 => ⟨n0, ?_⟩, fun n n0 n1 => ⟨n0, ?_⟩, by simp [x, tab_len]; omega, by simp [x, tab_len]; omega, fun s hs => ⟨by omega, ?_⟩, fun s hs => ⟨trivial, .nil⟩, fun s hs n => by simp, rfl, fun e he => (by cases he), fun e he => (by cases he), .nil, fun n hn => (by cases hn), vb, rfl, h1, h2, by show lim < 32 * ((xl.nodes.length : Int) + 1); rw [hlen]; exact hN3⟩
    · have : n < (xl.nodes.length : Int) := n1
      rw [hlen] at this
      show (List.replicate N z_aEn)[n.toNat]? = _
      rw [List.getElem?_replicate, if_pos (by omega)]
    · have : n < (xl.nodes.length : Int) := n1
      rw [hlen] at this
      show (List.replicate N (0 : Int))[n.toNat]? = _
      rw [List.getElem?_replicate, if_pos (by omega)]
    · have hs' : s < H := by have := hs; simp [x, tab_len] at this; exact this
      show (tab H H (fun _ => (-1 : Int)) 0)[((s : Int)).toNat]? = some (-1)
      rw [Int.toNat_natCast, tab_get hs', if_pos hs']
theorem new_bad {lim : Int} (h : lim < 1 ∨ lim > 1048576) : ∃ e, ram_New lim = some (none, e) ∧ codeOf e = 2 := by
  unfold ram_New
  simp only [lt_eq]
  by_cases h1 : lim > 1048576
  · rw [if_pos (decide_eq_true h1), new_eq _ _ _ (by decide)]
    exact ⟨_, rfl, by simp [codeOf]⟩
  · rw [if_neg (by simpa using h1), new8_bad (by omega), Option.bind_some]
    simp only [Option.elim_none, Err.isNil, Bool.not_false, if_true]
    rw [wrap_eq _ _ _ rfl]
    exact ⟨_, rfl, by simp [codeOf]⟩
section
variable {x : ram_Ram} {l : List aEn} {lim k : Int}
theorem used_x (R : RX x l lim k) : ram_Ram_Used x = some (usE l) := by
  obtain ⟨ρ, g, th, nx, C, R⟩ := R
  unfold ram_Ram_Used slab_Budget_Used
  rw [Option.bind_some, R.bu.used]
  rfl
theorem len_x (R : RX x l lim k) : ram_Ram_Len x = some (l.length : Int) := by
  obtain ⟨ρ, g, th, nx, C, R⟩ := R
  unfold ram_Ram_Len
  rw [R.ct]
theorem limit_x (R : RX x l lim k) : ram_Ram_Limit x = some lim := by
  obtain ⟨ρ, g, th, nx, C, R⟩ := R
  unfold ram_Ram_Limit slab_Budget_Limit
  rw [Option.bind_some, R.bu.ok.lim]
theorem copy_ok {e : aEn} (h : ckE e = 0) : item_Copy e = some e := copy_eq6 (by have := (ck_ok h).2.2.2.2.2.2.2.2; omega)
theorem peek_x (R : RX x l lim k) {key : List (BitVec 8)} (hk : key.length ≤ 1000000) : ram_Ram_Peek x key = some (match fE key l with | none => (zeroE, false) | some e => (e, true)) := by
  obtain ⟨ρ, g, th, nx, C, R⟩ := R
  unfold ram_Ram_Peek
  rcases find_x R hk with ⟨h1, h2⟩ | ⟨n, h1, h2, h3, h4⟩
  · rw [h1, h2, Option.bind_some, lt_eq, if_pos (by decide)]
    rfl
  · obtain ⟨n0, n1⟩ := R.rng h2
    have ht := R.tr n n0 n1
    rw [h1, h4, Option.bind_some, lt_eq, if_neg (by simp; omega), ht.chk, Option.bind_some, ht.ixA, Option.bind_some, copy_ok (R.ok _ (R.key h2))]
    rfl
def dropX (key : List (BitVec 8)) (l : List aEn) : aEn × Bool := match fE key l with | none => (zeroE, false) | some e => (e, true)
theorem drop_x (R : RX x l lim k) {key : List (BitVec 8)} (hk : key.length ≤ 1000000) : ∃ x', ram_Ram_Drop x key = some ((dropX key l).1, (dropX key l).2, x') ∧ RX x' (butE key l) lim k := by
  obtain ⟨ρ, g, th, nx, C, R⟩ := R
  unfold ram_Ram_Drop dropX
  rcases find_x R hk with ⟨h1, h2⟩ | ⟨n, h1, h2, h3, h4⟩
  · rw [h1, h2, Option.bind_some, lt_eq, if_pos (by decide), but_none h2]
    exact ⟨x, rfl, ρ, g, th, nx, C, R⟩
  · obtain ⟨n0, n1⟩ := R.rng h2
    obtain ⟨x', ρ', g', th', nx', C', r1, r2⟩ := remove_ok R h2
    rw [h1, h4, Option.bind_some, lt_eq, if_neg (by simp; omega), r1, Option.bind_some]
    rw [h3] at r2
    exact ⟨x', rfl, ρ', g', th', nx', C', r2⟩
theorem get_x (R : RX x l lim k) (hkk : k ≤ 1000) {key : List (BitVec 8)} (hk : key.length ≤ 1000000) (now : Int) : ∃ x', ram_Ram_Get x key now = some (getX l key now, getB l key now, x') ∧ RX x' (getL l key now) lim (k + 1) := by
  obtain ⟨ρ, g, th, nx, C, R⟩ := R
  unfold ram_Ram_Get getX getB getL
  rcases find_x R hk with ⟨h1, h2⟩ | ⟨n, h1, h2, h3, h4⟩
  · rw [h1, h2, Option.bind_some, lt_eq, if_pos (by decide)]
    exact ⟨x, rfl, RX.more ⟨ρ, g, th, nx, C, R⟩ (by omega)⟩
  · obtain ⟨n0, n1⟩ := R.rng h2
    have ht := R.tr n n0 n1
    rw [h1, h4, Option.bind_some, lt_eq, if_neg (by simp; omega), ht.chk, Option.bind_some, ht.ixA, Option.bind_some, live_x, Option.bind_some, lt_eq]
    by_cases hv : liveE (th n) now = true
    · simp only [hv, Bool.not_true, Bool.false_eq_true, if_false, if_true]
      obtain ⟨xl, g', i, li, d1, d2, d3, d4, d5, d6, d7⟩ := touch_ok R.gd hkk h2
      rw [d1, Option.bind_some, Option.bind_some, Option.bind_some, copy_ok (R.ok _ (R.key h2))]
      refine ⟨_, rfl, ⟨ρ.L.set i.toNat (n :: but li n), ρ.Free, n :: but ρ.Used n, ρ.Nodes⟩, g', th, nx, C, ?_⟩
      have hmap : (n :: but ρ.Used n).map th = th n :: butE key l := by
        rw [List.map_cons, R.ll, ← h3, butE_map fun m hm he => R.inj hm h2 he]
      have hp : (th n :: butE key l).Perm l := by rw [← h3]; exact (butE_perm R.ds (R.key h2)).symm
      refine ⟨d6, by simp [R.nine], R.tn.trans d2.symm, R.nn.trans d2.symm, fun m m0 m1 => R.tr m m0 (by rw [d2] at m1; exact m1), fun m m0 m1 => R.nr m m0 (by rw [d2] at m1; exact m1), R.h1, R.h2, R.hd, R.ch, fun s hs m => ?_, hmap.symm, fun e he => R.ok e (hp.mem_iff.1 he), fun e he => R.cls e (hp.mem_iff.1 he), ?_, fun m hm => ?_, R.bu.perm (hp.map clsE).symm, R.ct.trans (by rw [hp.length_eq]), R.lim1, R.lim2, by show lim < 32 * ((xl.nodes.length : Int) + 1); rw [d2]; exact R.nb⟩
      · rw [R.cm s hs m]
        show _ ↔ m ∈ n :: but ρ.Used n ∧ _
        rw [(but_perm R.gd.nu h2).mem_iff]
      · refine List.pairwise_cons.2 ⟨fun e he => ?_, dst_sub R.ds (butE_sub _ _)⟩
        rw [h3]
        exact Ne.symm (mem_butE.1 he).2
      · rw [d7 m]
        exact R.cl m ((but_perm R.gd.nu h2).mem_iff.1 hm)
    · have hv' : liveE (th n) now = false := by simpa using hv
      simp only [hv', Bool.not_false, if_true, Bool.false_eq_true, if_false]
      obtain ⟨x', ρ', g', th', nx', C', r1, r2⟩ := remove_ok R h2
      rw [r1, Option.bind_some]
      rw [h3] at r2
      exact ⟨x', rfl, RX.more ⟨ρ', g', th', nx', C', r2⟩ (by omega)⟩
def allE (l : List aEn) : List aEn := (List.range 9).flatMap fun (c : Nat) => l.filter fun e => decide (clsE e = (c : Int))
theorem sub_filter {p : Int → Bool} : ∀ {l u : List Int}, l.Sublist u → u.Nodup → (∀ a ∈ u, a ∈ l ↔ p a = true) → l = u.filter p := by
  intro l u hs hn hp
  have h1 : l.filter p = l := List.filter_eq_self.2 fun a ha => (hp a (hs.subset ha)).1 ha
  have h2 : l.Sublist (u.filter p) := by rw [← h1]; exact hs.filter p
  refine h2.eq_of_length ?_
  have hperm : l.Perm (u.filter p) := (List.perm_ext_iff_of_nodup (hn.sublist hs) (hn.sublist List.filter_sublist)).2 fun a => by
    rw [List.mem_filter]
    exact ⟨fun ha => ⟨hs.subset ha, (hp a (hs.subset ha)).1 ha⟩, fun ha => (hp a ha.1).2 ha.2⟩
  exact hperm.length_eq
theorem class_l {ρ : R9} {g : Int → lists_link} {th : Int → aEn} {nx : Int → Int} {C : Nat → List Int} (R : RI x l lim ρ g th nx C k) {c : Nat} {li : List Int} (hl : At ρ.L (c : Int) li) : li.map th = l.filter fun e => decide (clsE e = (c : Int)) := by
  have h := sub_filter (p := fun n => decide (clsE (th n) = (c : Int))) (R.gd.sub _ _ hl) R.gd.nu fun n hn => by
    rw [decide_eq_true_eq, ← R.cl n hn]
    constructor
    · exact fun hm => dl_list (R.gd.gd.dll _ _ hl).1 n hm
    · intro he
      obtain ⟨j, lj, h1, h2⟩ := R.gd.mem n hn
      have h3 := dl_list (R.gd.gd.dll _ _ h1).1 n h2
      have : j = (c : Int) := h3.symm.trans he
      subst this
      rw [hl.uniq h1]
      exact h2
  rw [h, R.ll, List.filter_map]
  rfl
theorem each_l1 {ρ : R9} {g : Int → lists_link} {th : Int → aEn} {nx : Int → Int} {C : Nat → List Int} (R : RI x l lim ρ g th nx C k) (c : Int) {li : List Int} (hu : ∀ n ∈ li, n ∈ ρ.Used) (hl : li.length ≤ 100000) : ∀ (d i : Nat) (acc : List aEn), i + d = li.length → acc.length + d ≤ 1000000 →
    ram_Ram_each_1_l1 x c li (li.length : Int) ((i : Int), acc) = some (acc ++ (li.drop i).map th)
  | 0, i, acc, h, _ => by
    rw [List.drop_of_length_le (by omega), List.map_nil, List.append_nil]
    refine loopO_out (body := fun s => ram_Ram_each_1_b1 x c li (li.length : Int) s.1 s.2) ?_
    unfold ram_Ram_each_1_b1
    simp only [lt_eq]
    rw [if_neg (by simp; omega)]
  | d + 1, i, acc, h, ha => by
    have hi : i < li.length := by omega
    have hm := hu li[i] (List.getElem_mem hi)
    obtain ⟨n0, n1⟩ := R.rng hm
    have ht := R.tr _ n0 n1
    have ih := each_l1 R c hu hl d (i + 1) (acc ++ [th li[i]]) (by omega) (by simp; omega)
    rw [List.drop_eq_getElem_cons hi, List.map_cons, show acc ++ th li[i] :: (li.drop (i + 1)).map th = (acc ++ [th li[i]]) ++ (li.drop (i + 1)).map th by simp, ← ih]
    refine loopO_in (body := fun s => ram_Ram_each_1_b1 x c li (li.length : Int) s.1 s.2) ?_
    unfold ram_Ram_each_1_b1 ram_Ram_All_y
    simp only [lt_eq]
    rw [if_pos (decide_eq_true (by omega)), ix_nat hi, Option.bind_some, ht.chk, Option.bind_some, ht.ixA, Option.bind_some, copy_ok (R.ok _ (R.key hm)), Option.bind_some, app_eq (by simp; omega), Option.bind_some, Option.bind_some, w64_nat (by omega)]
theorem all_x (R : RX x l lim k) : ram_Ram_All x = some (allE l) := by
  obtain ⟨ρ, g, th, nx, C, R⟩ := R
  have hlen := R.len
  have hf := R.gd.gd.f
  have hacc : ∀ j : Nat, j ≤ 9 → ((List.range j).flatMap fun (c : Nat) => l.filter fun e => decide (clsE e = (c : Int))).length ≤ j * 32768 := by
    intro j
    induction j with
    | zero => intro _; simp
    | succ j ih =>
      intro hj
      rw [List.range_succ, List.flatMap_append, List.length_append]
      have h1 := ih (by omega)
      have h2 : ((([j] : List Nat).flatMap fun (c : Nat) => l.filter fun e => decide (clsE e = (c : Int)))).length ≤ 32768 := by
        simp only [List.flatMap_cons, List.flatMap_nil, List.append_nil]
        exact Nat.le_trans (List.length_filter_le _ _) hlen
      omega
  have k0 := loopO_up (body := fun s => ram_Ram_each_1_b0 x s.1 s.2) (fun j => ((j : Int), (List.range j).flatMap fun (c : Nat) => l.filter fun e => decide (clsE e = (c : Int)))) 9 (x := allE l) (fun j hj => by
    obtain ⟨li, hat⟩ := at_ex (l := ρ.L) (i := (j : Int)) (by omega) (by rw [R.nine]; omega)
    have hll := R.gd.ll hat
    have hc := class_l R hat
    have ha := hacc j (by omega)
    have hcl : (li.map th).length = li.length := by simp
    have hcle : (li).length ≤ 32768 := by rw [← hcl, hc]; exact Nat.le_trans (List.length_filter_le _ _) hlen
    unfold ram_Ram_each_1_b0
    simp only [lt_eq]
    rw [if_pos (decide_eq_true (by omega)), order_eq R.gd hat, Option.bind_some]
    have e1 := each_l1 R (j : Int) (li := li) (fun n hn => (R.gd.sub _ _ hat).subset hn) (by omega) li.length 0 ((List.range j).flatMap fun (c : Nat) => l.filter fun e => decide (clsE e = (c : Int))) (by omega) (by omega)
    rw [show (0 : Int) = ((0 : Nat) : Int) from rfl, e1, Option.bind_some, w64_nat (by omega), List.drop_zero, hc, List.range_succ, List.flatMap_append]
    simp) (by
    unfold ram_Ram_each_1_b0
    simp only [lt_eq]
    rw [if_neg (by simp)]
    rfl)
  unfold ram_Ram_All ram_Ram_each ram_Ram_each_1 ram_Ram_each_1_l0
  rw [Option.bind_some]
  have k1 : loopO (fun s => ram_Ram_each_1_b0 x s.1 s.2) ((0 : Int), ([] : List aEn)) = some (allE l) := k0
  rw [k1]
  rfl
end
def tpl (x : ram_Ram) : ram_Ram × slab_Budget × lists_Lists × (List lists_link) × (List Int) × (List Int) × (List Int) × (List Int) × (List Int) × (List aEn) := (x, x.budget, x.lists, x.lists.nodes, x.lists.first_, x.lists.last_, x.lists.count, x.heads, x.next_, x.things)
theorem butE_last {y : aEn} {a : List aEn} (h : dst (a ++ [y])) : butE y.Key (a ++ [y]) = a := by
  have h2 := List.pairwise_append.1 h
  unfold butE
  rw [List.filter_append, List.filter_cons, if_neg (by simp), List.filter_nil, List.append_nil]
  exact List.filter_eq_self.2 fun z hz => by have := h2.2.2 z hz y (by simp); simpa using this
section
variable {x : ram_Ram} {l : List aEn} {lim k : Int}
theorem set_b {e : aEn} {now c : Int} {acc : List aEn} (R : RX x l lim k) : ram_Ram_Set_b0 e now c acc x x.budget x.lists x.lists.nodes x.lists.first_ x.lists.last_ x.lists.count x.heads x.next_ x.things =
    if sizeI c > lim - usE l then (lists_Lists_Oldest x.lists).bind fun v69 => (ram_Ram_remove x v69).bind fun v71 => (if liveE v71.1 now = true then app 64 acc [v71.1] else some acc).bind fun a => some (.inl (a, tpl v71.2)) else some (.inr (acc, tpl x)) := by
  obtain ⟨ρ, g, th, nx, C, R⟩ := R
  have hlim1 := R.lim1
  have hlim2 := R.lim2
  unfold ram_Ram_Set_b0
  simp only [size_eq, Option.bind_some, left8 (by omega) (by omega) R.bu, lt_eq, live_x]
  by_cases hc : sizeI c > lim - usE l
  · rw [if_pos (decide_eq_true (p := sizeI c > lim - usedL (l.map clsE)) hc), if_pos hc]
    refine congrArg _ (funext fun v69 => ?_)
    refine congrArg _ (funext fun v71 => ?_)
    by_cases hv : liveE v71.1 now = true
    · rw [if_pos hv, if_pos hv]
      rfl
    · rw [if_neg hv, if_neg hv]
      rfl
  · rw [if_neg (show ¬ decide (sizeI c > lim - usedL (l.map clsE)) = true by simpa [usE] using hc), if_neg hc]
    rfl
theorem set_loop {e : aEn} {now c t : Int} (hct : sizeI c = t) (htl : t ≤ lim) {l0 : List aEn} (hd : dst l0) (hl : l0.length ≤ 40000) : ∀ (n : Nat) (acc : List aEn) (x : ram_Ram), n ≤ l0.length → acc.length + n ≤ 100000 → RX x (l0.take n) lim k →
    ∃ x', ram_Ram_Set_l0 e now c (acc, tpl x) = some (acc ++ (((l0.take n).drop (kn t lim l0 n)).reverse).filter (fun y => liveE y now), tpl x') ∧ RX x' (l0.take (kn t lim l0 n)) lim k
  | n, acc, x, hn, ha, R => by
    have hb := set_b (e := e) (now := now) (c := c) (acc := acc) R
    rw [hct] at hb
    cases n with
    | zero =>
      rw [if_neg (by simp [usE, usedL]; omega)] at hb
      have ho : ram_Ram_Set_l0 e now c (acc, tpl x) = some (acc, tpl x) := loopO_out (body := fun s => ram_Ram_Set_b0 e now c s.1 s.2.1 s.2.2.1 s.2.2.2.1 s.2.2.2.2.1 s.2.2.2.2.2.1 s.2.2.2.2.2.2.1 s.2.2.2.2.2.2.2.1 s.2.2.2.2.2.2.2.2.1 s.2.2.2.2.2.2.2.2.2.1 s.2.2.2.2.2.2.2.2.2.2) hb
      rw [ho]
      exact ⟨x, by simp [kn], R⟩
    | succ n =>
      by_cases hc : t > lim - usE (l0.take (n + 1))
      · rw [if_pos hc] at hb
        have hi : n < l0.length := by omega
        have hkn : kn t lim l0 (n + 1) = kn t lim l0 n := by rw [kn, if_pos hc]
        have hkl := kn_le t lim l0 n
        have hts : l0.take (n + 1) = l0.take n ++ [l0[n]] := List.take_succ_eq_append_getElem hi
        have hdr : ((l0.take (n + 1)).drop (kn t lim l0 n)).reverse = l0[n] :: ((l0.take n).drop (kn t lim l0 n)).reverse := by
          rw [hts, List.drop_append_of_le_length (by simp; omega), List.reverse_append]
          rfl
        obtain ⟨ρ, g, th, nx, C, R⟩ := R
        have hul := R.ulen
        have hlen : (l0.take (n + 1)).length = n + 1 := by simp; omega
        have hu0 : ρ.Used ≠ [] := fun h => by rw [h, hlen] at hul; simp at hul
        have hmem := lsp_mem (p := -1) hu0
        have hlast : th (lsp (-1) ρ.Used) = l0[n] := by
          have h1 := lsp_get (p := -1) hu0
          have h2 : (l0.take (n + 1))[n]? = some (th (lsp (-1) ρ.Used)) := by
            rw [R.ll, List.getElem?_map]
            rw [hul, hlen, Nat.add_sub_cancel] at h1
            rw [h1]
            rfl
          rw [List.getElem?_take, if_pos (by omega), List.getElem?_eq_getElem hi] at h2
          exact (Option.some.inj h2).symm
        obtain ⟨x', ρ', g', th', nx', C', r1, r2⟩ := remove_ok R hmem
        have hds := R.ds
        rw [hlast] at r1 r2
        rw [hts] at r2 hds
        rw [butE_last hds] at r2
        rw [oldest_eq R.gd, Option.bind_some, r1, Option.bind_some] at hb
        simp only at hb
        have happ : (if liveE l0[n] now = true then app 64 acc [l0[n]] else some acc) = some (if liveE l0[n] now = true then acc ++ [l0[n]] else acc) := by
          split
          · rw [app_eq (by simp; omega)]
          · rfl
        rw [happ, Option.bind_some] at hb
        obtain ⟨x2, i1, i2⟩ := set_loop (e := e) (now := now) hct htl hd hl n (if liveE l0[n] now = true then acc ++ [l0[n]] else acc) x' (by omega) (by split <;> (try simp only [List.length_append, List.length_cons, List.length_nil]) <;> omega) ⟨ρ', g', th', nx', C', r2⟩
        have hin : ram_Ram_Set_l0 e now c (acc, tpl x) = ram_Ram_Set_l0 e now c (if liveE l0[n] now = true then acc ++ [l0[n]] else acc, tpl x') := loopO_in (body := fun s => ram_Ram_Set_b0 e now c s.1 s.2.1 s.2.2.1 s.2.2.2.1 s.2.2.2.2.1 s.2.2.2.2.2.1 s.2.2.2.2.2.2.1 s.2.2.2.2.2.2.2.1 s.2.2.2.2.2.2.2.2.1 s.2.2.2.2.2.2.2.2.2.1 s.2.2.2.2.2.2.2.2.2.2) hb
        refine ⟨x2, ?_, by rw [hkn]; exact i2⟩
        rw [hin, i1, hkn, hdr, List.filter_cons]
        by_cases hv : liveE l0[n] now = true
        · rw [if_pos hv, if_pos hv, List.append_assoc]; rfl
        · rw [if_neg hv, if_neg hv]
      · rw [if_neg hc] at hb
        have hkn : kn t lim l0 (n + 1) = n + 1 := by rw [kn, if_neg hc]
        have ho : ram_Ram_Set_l0 e now c (acc, tpl x) = some (acc, tpl x) := loopO_out (body := fun s => ram_Ram_Set_b0 e now c s.1 s.2.1 s.2.2.1 s.2.2.2.1 s.2.2.2.2.1 s.2.2.2.2.2.1 s.2.2.2.2.2.2.1 s.2.2.2.2.2.2.2.1 s.2.2.2.2.2.2.2.2.1 s.2.2.2.2.2.2.2.2.2.1 s.2.2.2.2.2.2.2.2.2.2) hb
        refine ⟨x, ?_, by rw [hkn]; exact R⟩
        rw [ho, hkn, List.drop_of_length_le (by simp; omega)]
        simp
theorem put_x {ρ : R9} {g : Int → lists_link} {th : Int → aEn} {nx : Int → Int} {C : Nat → List Int} (R : RI x l lim ρ g th nx C k) (hk : k ≤ 1000) {e : aEn} (he : ckE e = 0) (hc : 0 ≤ clsE e ∧ clsE e < 9) (hn : fE e.Key l = none) (hf : tkE e ≤ lim - usE l) :
    ∃ m xl b' H' N' T' x', lists_Lists_Add x.lists (clsE e) = some (m, .nil, xl) ∧ slab_Budget_Take x.budget (clsE e) = some (.nil, b') ∧ chk x.things.length m = some () ∧ updA x.things.length x.things m (fun _ => e) = some T' ∧ chk x.next_.length m = some () ∧ updA x.next_.length x.next_ m (fun _ => hdp (C (slotN e.Key x.heads.length)) (-1)) = some N' ∧
      updA x.heads.length x.heads ((slotN e.Key x.heads.length : Nat) : Int) (fun _ => m) = some H' ∧ x' = ⟨b', xl, H', N', T', (l.length : Int) + 1⟩ ∧ RX x' (e :: l) lim (k + 1) := by
  have hlen := R.len
  have hul := R.ulen
  have hgl := R.gd.len
  have hnb := R.nb
  have husl := usedL_len (l := l.map clsE) fun c hc => R.bu.cls c hc
  rw [List.length_map] at husl
  have htk : 32 ≤ tkE e := by
    obtain ⟨⟨i, hi⟩, hx⟩ := upto9 (show ¬ (clsE e < 0 ∨ 9 ≤ clsE e) by omega)
    simp only at hx
    unfold tkE
    rw [hx]
    exact (size_i i hi).1
  have husE : usedL (l.map clsE) = usE l := rfl
  obtain ⟨m, F, hF⟩ : ∃ m F, ρ.Free = m :: F := by
    cases h : ρ.Free with
    | nil => rw [h] at hgl; simp only [List.length_nil] at hgl; omega
    | cons m F => exact ⟨m, F, rfl⟩
  obtain ⟨li, hl⟩ := at_ex (l := ρ.L) (i := clsE e) hc.1 (by rw [R.nine]; omega)
  obtain ⟨xl, g', a1, a2, a3, a4, a5⟩ := add_ok R.gd hk hF hl
  obtain ⟨b', t1, t2⟩ := take8 (by have := R.lim2; omega) R.bu hc.1 hc.2 (show sizeI (clsE e) ≤ lim - usedL (l.map clsE) from hf)
  have hmF : m ∈ ρ.Free := by rw [hF]; exact List.mem_cons_self
  have hmU : m ∉ ρ.Used := R.gd.nfu hmF
  obtain ⟨m0, m1⟩ := R.gd.rng m (List.mem_append_left _ hmF)
  have hs := R.chain e.Key
  obtain ⟨s, hse⟩ : ∃ s, s = slotN e.Key x.heads.length := ⟨_, rfl⟩
  rw [← hse] at hs
  have hT := R.tr m m0 m1
  have hN := R.nr m m0 m1
  have hH := R.hd s hs
  have hmC : ∀ j, j < x.heads.length → m ∉ C j := fun j hj h => hmU ((R.cm j hj m).1 h).1
  refine ⟨m, xl, b', _, _, _, _, a1, t1, hT.chk, hT.updA _, hN.chk, hN.updA _, by rw [← hse]; exact hH.updA _, rfl, ⟨ρ.L.set (clsE e).toNat (m :: li), F, m :: ρ.Used, ρ.Nodes⟩, g', fun n => if n = m then e else th n, fun n => if n = m then hdp (C s) (-1) else nx n, fun j => if j = s then m :: C s else C j, ?_⟩
  rw [← hse]
  refine ⟨a3, by simp [R.nine], by simp [R.tn, a2], by simp [R.nn, a2], fun n n0 n1 => ?_, fun n n0 n1 => ?_, by simpa using R.h1, by simpa using R.h2, fun j hj => ?_, fun j hj => ?_, fun j hj n => ?_, ?_, fun y hy => ?_, fun y hy => ?_, ?_, fun n hn => ?_, ?_, by simp, R.lim1, R.lim2, by show lim < 32 * ((xl.nodes.length : Int) + 1); rw [a2]; exact R.nb⟩
  · rw [a2] at n1
    by_cases hne : n = m
    · subst hne
      simp only [if_true]
      exact hT.same e
    · simp only
      rw [if_neg hne]
      exact (R.tr n n0 n1).ne m0 hne e
  · rw [a2] at n1
    by_cases hne : n = m
    · subst hne
      simp only [if_true]
      exact hN.same _
    · simp only
      rw [if_neg hne]
      exact (R.nr n n0 n1).ne m0 hne _
  · rw [List.length_set] at hj
    by_cases hje : j = s
    · subst hje
      simp only [if_true, hdp]
      exact hH.same m
    · simp only
      rw [if_neg hje]
      exact (R.hd j hj).ne (by omega) (by omega) m
  · rw [List.length_set] at hj
    by_cases hje : j = s
    · subst hje
      simp only [if_true]
      exact ⟨⟨if_pos rfl, sl_congr (fun n hn => if_neg (fun h : n = m => hmC j hj (h ▸ hn))) (R.ch j hj).1⟩, List.nodup_cons.2 ⟨hmC j hj, (R.ch j hj).2⟩⟩
    · show sl _ (if j = s then m :: C s else C j) ∧ (if j = s then m :: C s else C j).Nodup
      rw [if_neg hje]
      exact ⟨sl_congr (fun n hn => if_neg (fun h : n = m => hmC j hj (h ▸ hn))) (R.ch j hj).1, (R.ch j hj).2⟩
  · rw [List.length_set] at hj ⊢
    show n ∈ (if j = s then m :: C s else C j) ↔ n ∈ m :: ρ.Used ∧ slotN (if n = m then e else th n).Key x.heads.length = j
    by_cases hne : n = m
    · rw [if_pos hne]
      constructor
      · intro h
        by_cases hje : j = s
        · exact ⟨by rw [hne]; exact List.mem_cons_self, by rw [hje, hse]⟩
        · rw [if_neg hje] at h
          exact absurd (hne ▸ h) (hmC j hj)
      · rintro ⟨_, h⟩
        rw [if_pos (h.symm.trans hse.symm), hne]
        exact List.mem_cons_self
    · rw [if_neg hne, List.mem_cons]
      have h0 := R.cm j hj n
      by_cases hje : j = s
      · subst hje
        rw [if_pos rfl, List.mem_cons, h0]
        exact ⟨fun h => h.elim (fun h => absurd h hne) fun h => ⟨.inr h.1, h.2⟩, fun h => .inr ⟨h.1.resolve_left hne, h.2⟩⟩
      · rw [if_neg hje, h0]
        exact ⟨fun h => ⟨.inr h.1, h.2⟩, fun h => ⟨h.1.resolve_left hne, h.2⟩⟩
  · simp only [List.map_cons, if_true]
    rw [R.ll]
    congr 1
    exact List.map_congr_left fun n hn => (if_neg (fun h : n = m => hmU (h ▸ hn))).symm
  · rcases List.mem_cons.1 hy with rfl | hy
    · exact he
    · exact R.ok y hy
  · rcases List.mem_cons.1 hy with rfl | hy
    · exact hc
    · exact R.cls y hy
  · exact List.pairwise_cons.2 ⟨fun y hy => Ne.symm (fE_none.1 hn y hy), R.ds⟩
  · show (g' n).list = clsE (if n = m then e else th n)
    by_cases hne : n = m
    · rw [if_pos hne, hne]
      exact a5
    · rw [if_neg hne, a4 n hne]
      exact R.cl n ((List.mem_cons.1 hn).resolve_left hne)
  · rw [List.map_cons]
    exact t2
end
section
variable {x : ram_Ram} {l : List aEn} {lim k : Int}
theorem okS_iff {lim : Int} {e : aEn} : okS lim e = decide (0 ≤ cls (encE e).length ∧ sizeI (cls (encE e).length) ≤ lim) := by
  unfold okS tkE clsE
  congr 1
  rw [size_pos]
  have := (cls_lt (encE e).length).1
  exact propext ⟨fun h => ⟨h.1.1, h.2⟩, fun h => ⟨⟨h.1, this⟩, h.2⟩⟩
theorem set_x (R : RX x l lim k) (hk : k ≤ 1000) (e : aEn) (now : Int) : ∃ er x', ram_Ram_Set x e now = some (goneS lim l e now, er, x') ∧ codeOf er = setC lim e now ∧ er.isNil = decide (setC lim e now = 0) ∧ RX x' (setL lim l e now) lim (k + 1) := by
  obtain ⟨er, c1, c2, c3⟩ := check_eq e
  unfold ram_Ram_Set
  rw [c1, Option.bind_some, lt_eq, c3]
  by_cases hc : ¬ ckE e = 0
  · have hs : setC lim e now = ckE e := by unfold setC; rw [if_pos hc]
    have hn : er.isNil = false := by rw [c3, decide_eq_false hc]
    unfold setL goneS
    rw [hs, if_neg hc, if_neg hc, if_pos (by simpa using hc), wrap_eq _ _ _ hn]
    refine ⟨_, x, rfl, ?_, ?_, R.more (by omega)⟩
    · simpa [codeOf] using c2
    · rw [decide_eq_false hc]; rfl
  have hc : ckE e = 0 := Classical.not_not.1 hc
  rw [if_neg (by simp [hc]), size_eq6 hc, Option.bind_some, live_x, Option.bind_some, lt_eq]
  by_cases hv : ¬ liveE e now = true
  · have hs : setC lim e now = 10 := by unfold setC; rw [if_neg (by simp [hc]), if_pos (by simpa using hv)]
    unfold setL goneS
    rw [hs, if_neg (show ¬ (10 : Int) = 0 by decide), if_neg (show ¬ (10 : Int) = 0 by decide), if_pos (by simpa using hv), new_eq _ _ _ (by decide)]
    exact ⟨_, x, rfl, by simp [codeOf], rfl, R.more (by omega)⟩
  have hv : liveE e now = true := Classical.not_not.1 hv
  obtain ⟨ρ, g, th, nx, C, RR⟩ := R
  have hfit : slab_Budget_Fits x.budget ((encE e).length : Int) = some (okS lim e) := by rw [fits8 RR.bu, okS_iff]
  rw [if_neg (by simp [hv]), hfit, Option.bind_some, lt_eq]
  by_cases hf : ¬ okS lim e = true
  · have h0 : okS lim e = false := by simpa using hf
    have hs : setC lim e now = 3 := by unfold setC; rw [if_neg (by simp [hc]), if_neg (by simp [hv]), if_pos h0]
    unfold setL goneS
    rw [hs, if_neg (show ¬ (3 : Int) = 0 by decide), if_neg (show ¬ (3 : Int) = 0 by decide), if_pos (by rw [h0]; rfl), new_eq _ _ _ (by decide)]
    exact ⟨_, x, rfl, by simp [codeOf], rfl, RX.more ⟨ρ, g, th, nx, C, RR⟩ (by omega)⟩
  have hf : okS lim e = true := Classical.not_not.1 hf
  have hs : setC lim e now = 0 := by unfold setC; rw [if_neg (by simp [hc]), if_neg (by simp [hv]), if_neg (by simp [hf])]
  have hf' : 0 < tkE e ∧ tkE e ≤ lim := by unfold okS at hf; simpa using hf
  have hcl : 0 ≤ clsE e ∧ clsE e < 9 := size_pos.1 hf'.1
  have hkey := (ck_ok hc).2.1
  unfold setL goneS
  rw [hs, if_pos (show (0 : Int) = 0 from rfl), if_pos (show (0 : Int) = 0 from rfl), if_neg (by rw [hf]; decide), Option.bind_some, class_eq, Option.bind_some]
  -- the key's own goes
  obtain ⟨n, x1, hfind, hrem, R1⟩ : ∃ n x1, ram_Ram_find x e.Key = some n ∧ (if decide (n ≥ (0 : Int)) = true then (ram_Ram_remove x n).bind fun v38 => some (tpl v38.2) else some (tpl x)) = some (tpl x1) ∧ RX x1 (butE e.Key l) lim k := by
    rcases find_x RR (key := e.Key) (by omega) with ⟨h1, h2⟩ | ⟨n, h1, h2, h3, h4⟩
    · exact ⟨-1, x, h1, by rw [if_neg (by decide)], by rw [but_none h2]; exact ⟨ρ, g, th, nx, C, RR⟩⟩
    · obtain ⟨x', ρ', g', th', nx', C', r1, r2⟩ := remove_ok RR h2
      obtain ⟨n0, n1⟩ := RR.rng h2
      rw [h3] at r2
      exact ⟨n, x', h1, by rw [if_pos (decide_eq_true n0), r1]; rfl, ρ', g', th', nx', C', r2⟩
  rw [hfind, Option.bind_some, lt_eq]
  have hrem' : (if decide (n ≥ (0 : Int)) = true then
            (ram_Ram_remove x n).bind fun v38 =>
            some (v38.2, v38.2.budget, v38.2.lists, v38.2.lists.nodes, v38.2.lists.first_, v38.2.lists.last_, v38.2.lists.count, v38.2.heads, v38.2.next_, v38.2.things)
          else
            some (x, x.budget, x.lists, x.lists.nodes, x.lists.first_, x.lists.last_, x.lists.count, x.heads, x.next_, x.things)) = some (tpl x1) := hrem
  rw [hrem', Option.bind_some]
  -- room is made
  have hlen := R1.len
  have hds := R1.ok.2.1
  obtain ⟨x2, l1, l2⟩ := set_loop (e := e) (now := now) (c := clsE e) (t := tkE e) rfl hf'.2 hds (by omega) (butE e.Key l).length [] x1 (Nat.le_refl _) (by simp; omega) (by rw [List.take_length]; exact R1)
  rw [List.take_length, List.nil_append] at l1
  have l1' : ram_Ram_Set_l0 e now (cls ((encE e).length : Int)) (([] : List aEn), (tpl x1).1, (tpl x1).2.1, (tpl x1).2.2.1, (tpl x1).2.2.2.1, (tpl x1).2.2.2.2.1, (tpl x1).2.2.2.2.2.1, (tpl x1).2.2.2.2.2.2.1, (tpl x1).2.2.2.2.2.2.2.1, (tpl x1).2.2.2.2.2.2.2.2.1, (tpl x1).2.2.2.2.2.2.2.2.2) = some (goneL lim l e now, tpl x2) := l1
  rw [l1', Option.bind_some]
  -- it is put in
  have hkf := kn_fit (l := butE e.Key l) hf'.2 (butE e.Key l).length
  have hnone : fE e.Key (keptL lim l e) = none := fE_none.2 fun y hy => (mem_butE.1 (List.mem_of_mem_take hy)).2
  have R2 : RX x2 (keptL lim l e) lim k := l2
  obtain ⟨ρ2, g2, th2, nx2, C2, RR2⟩ := R2
  obtain ⟨m, xl, b', H', N', T', x', p1, p2, p3, p4, p5, p6, p7, p8, p9⟩ := put_x RR2 hk hc hcl hnone hkf
  have hh := head_eq (x := ({ x2 with budget := b', lists := xl } : ram_Ram)) (k := e.Key) (by omega) RR2.h1 RR2.h2
  have hhd := RR2.hd _ (RR2.chain e.Key)
  have hl2 := RR2.len
  refine ⟨.nil, x', ?_, rfl, rfl, p9⟩
  show ((lists_Lists_Add x2.lists (clsE e)).bind _) = _
  rw [p1, Option.bind_some]
  simp only [lt_eq, Err.isNil, Bool.not_true, Bool.false_eq_true, if_false]
  show ((slab_Budget_Take x2.budget (clsE e)).bind _) = _
  rw [p2, Option.bind_some]
  show ((ram_Ram_head ({ x2 with budget := b', lists := xl } : ram_Ram) e.Key).bind _) = _
  rw [hh, Option.bind_some, copy_ok hc, Option.bind_some]
  show ((ixA x2.heads.length x2.heads ((slotN e.Key x2.heads.length : Nat) : Int)).bind _) = _
  rw [hhd.ixA, Option.bind_some]
  show ((chk x2.things.length m).bind _) = _
  rw [p3, Option.bind_some]
  show ((updA x2.things.length x2.things m (fun _ => e)).bind _) = _
  rw [p4, Option.bind_some]
  show ((chk x2.next_.length m).bind _) = _
  rw [p5, Option.bind_some]
  show ((updA x2.next_.length x2.next_ m (fun _ => hdp (C2 (slotN e.Key x2.heads.length)) (-1))).bind _) = _
  rw [p6, Option.bind_some]
  show ((updA x2.heads.length x2.heads ((slotN e.Key x2.heads.length : Nat) : Int) (fun _ => m)).bind _) = _
  rw [p7, Option.bind_some]
  show some (goneL lim l e now, Err.nil, ({ budget := b', lists := xl, heads := H', next_ := N', things := T', count := w64 (x2.count + 1) } : ram_Ram)) = _
  rw [RR2.ct, w64_eq (by omega) (by omega), p8]
def deadN (now : Int) (l : List aEn) : Nat := (l.filter fun y => !liveE y now).length
theorem sweep_loop {now : Int} {A : List aEn} (hA : A.Perm l) (hd : dst l) (hok : okL l) (hl : l.length ≤ 40000) : ∀ (d i : Nat) (x : ram_Ram), i + d = A.length → RX x (l.filter fun y => liveE y now || !decide (y ∈ A.take i)) lim k →
    ∃ x', ram_Ram_Sweep_l0 now A (A.length : Int) ((deadN now (A.take i) : Int), (i : Int), tpl x) = some ((deadN now A : Int), tpl x') ∧ RX x' (l.filter fun y => liveE y now) lim k
  | 0, i, x, h, R => by
    have hi : i = A.length := by omega
    have ho : ram_Ram_Sweep_l0 now A (A.length : Int) ((deadN now (A.take i) : Int), (i : Int), tpl x) = some ((deadN now (A.take i) : Int), tpl x) := by
      refine loopO_out (body := fun s => ram_Ram_Sweep_b0 now A (A.length : Int) s.1 s.2.1 s.2.2.1 s.2.2.2.1 s.2.2.2.2.1 s.2.2.2.2.2.1 s.2.2.2.2.2.2.1 s.2.2.2.2.2.2.2.1 s.2.2.2.2.2.2.2.2.1 s.2.2.2.2.2.2.2.2.2.1 s.2.2.2.2.2.2.2.2.2.2.1 s.2.2.2.2.2.2.2.2.2.2.2) ?_
      simp only
      unfold ram_Ram_Sweep_b0
      simp only [lt_eq]
      rw [if_neg (by simp; omega)]
    rw [hi, List.take_length] at ho R
    rw [hi, List.take_length, ho]
    refine ⟨x, rfl, ?_⟩
    rw [List.filter_congr (q := fun y => liveE y now) fun y hy => by simp [hA.mem_iff.2 hy]] at R
    exact R
  | d + 1, i, x, h, R => by
    have hi : i < A.length := by omega
    have hal : A[i] ∈ l := hA.mem_iff.1 (List.getElem_mem hi)
    have hAl := hA.length_eq
    have hkey := (ck_ok (hok _ hal)).2.1
    have hts : A.take (i + 1) = A.take i ++ [A[i]] := List.take_succ_eq_append_getElem hi
    have hAd : dst A := (hA.pairwise_iff (fun {a b} h => Ne.symm h)).2 hd
    have hni : A[i] ∉ A.take i := by
      intro hm
      have h2 : dst (A.take i ++ [A[i]]) := dst_sub hAd (by rw [← hts]; exact List.take_sublist _ _)
      exact (List.pairwise_append.1 h2).2.2 _ hm _ (by simp) rfl
    have hdl : deadN now (A.take i) ≤ i := Nat.le_trans (List.length_filter_le _ _) (by simp; omega)
    have hdn : deadN now (A.take (i + 1)) = deadN now (A.take i) + (if liveE A[i] now = true then 0 else 1) := by
      unfold deadN
      rw [hts, List.filter_append, List.length_append, List.filter_cons, List.filter_nil]
      by_cases hv : liveE A[i] now = true
      · simp [hv]
      · simp [hv]
    have hstep : ∃ x', ram_Ram_Sweep_b0 now A (A.length : Int) (deadN now (A.take i) : Int) (i : Int) x x.budget x.lists x.lists.nodes x.lists.first_ x.lists.last_ x.lists.count x.heads x.next_ x.things = some (.inl ((deadN now (A.take (i + 1)) : Int), ((i + 1 : Nat) : Int), tpl x')) ∧ RX x' (l.filter fun y => liveE y now || !decide (y ∈ A.take (i + 1))) lim k := by
      by_cases hv : liveE A[i] now = true
      · refine ⟨x, ?_, ?_⟩
        · unfold ram_Ram_Sweep_b0
          simp only [lt_eq]
          rw [if_pos (decide_eq_true (by omega)), ix_nat hi, Option.bind_some, live_x, Option.bind_some, if_neg (by simp [hv]), hdn, if_pos hv, w64_nat (by omega)]
          rfl
        · rw [List.filter_congr (q := fun y => liveE y now || !decide (y ∈ A.take i)) fun y hy => by
            rw [hts]
            by_cases hy2 : y = A[i]
            · subst hy2; simp only [hv, Bool.true_or]
            · simp only [List.mem_append, List.mem_singleton, hy2, or_false]]
          exact R
      · have hin : A[i] ∈ l.filter fun y => liveE y now || !decide (y ∈ A.take i) := List.mem_filter.2 ⟨hal, by simp [hni]⟩
        obtain ⟨ρ, g, th, nx, C, RR⟩ := R
        rcases find_x RR (key := A[i].Key) (by omega) with ⟨h1, h2⟩ | ⟨n, h1, h2, h3, h4⟩
        · exact absurd rfl (fE_none.1 h2 _ hin)
        · obtain ⟨x', ρ', g', th', nx', C', r1, r2⟩ := remove_ok RR h2
          have hthn : th n = A[i] := Option.some.inj (h4.symm.trans (dst_fE RR.ds hin))
          rw [hthn] at r1 r2
          refine ⟨x', ?_, ?_⟩
          · have hfx : ram_Ram_find ({ x with budget := x.budget, lists := ({ x.lists with nodes := x.lists.nodes, first_ := x.lists.first_, last_ := x.lists.last_, count := x.lists.count } : lists_Lists), heads := x.heads, next_ := x.next_, things := x.things } : ram_Ram) A[i].Key = some n := h1
            have hrx : ram_Ram_remove ({ x with budget := x.budget, lists := ({ x.lists with nodes := x.lists.nodes, first_ := x.lists.first_, last_ := x.lists.last_, count := x.lists.count } : lists_Lists), heads := x.heads, next_ := x.next_, things := x.things } : ram_Ram) n = some (A[i], x') := r1
            unfold ram_Ram_Sweep_b0
            simp only [lt_eq]
            rw [if_pos (decide_eq_true (by omega)), ix_nat hi, Option.bind_some, live_x, Option.bind_some, if_pos (by simpa using hv), hfx, Option.bind_some, hrx, Option.bind_some, hdn, if_neg hv, w64_nat (by omega), w64_nat (by omega)]
            rfl
          · have hfil : butE A[i].Key (l.filter fun y => liveE y now || !decide (y ∈ A.take i)) = l.filter fun y => liveE y now || !decide (y ∈ A.take (i + 1)) := by
              unfold butE
              rw [List.filter_filter]
              refine List.filter_congr fun y hy => ?_
              rw [hts]
              by_cases hy2 : y = A[i]
              · subst hy2
                have hv' : liveE A[i] now = false := by simpa using hv
                simp only [hv', List.mem_append, List.mem_singleton, or_true, bne_self_eq_false, Bool.false_and, Bool.false_or, decide_true, Bool.not_true]
              · have hyk : y.Key ≠ A[i].Key := fun hk2 => hy2 (by
                  have e1 := dst_fE hd hy
                  rw [hk2, dst_fE hd hal] at e1
                  exact (Option.some.inj e1).symm)
                simp only [List.mem_append, List.mem_singleton, hy2, or_false, bne_iff_ne.2 hyk, Bool.true_and]
            rw [← hfil]
            exact ⟨ρ', g', th', nx', C', r2⟩
    obtain ⟨x1, hb, R1⟩ := hstep
    obtain ⟨x2, i1, i2⟩ := sweep_loop hA hd hok hl d (i + 1) x1 (by omega) R1
    refine ⟨x2, ?_, i2⟩
    rw [← i1]
    exact loopO_in (body := fun s => ram_Ram_Sweep_b0 now A (A.length : Int) s.1 s.2.1 s.2.2.1 s.2.2.2.1 s.2.2.2.2.1 s.2.2.2.2.2.1 s.2.2.2.2.2.2.1 s.2.2.2.2.2.2.2.1 s.2.2.2.2.2.2.2.2.1 s.2.2.2.2.2.2.2.2.2.1 s.2.2.2.2.2.2.2.2.2.2.1 s.2.2.2.2.2.2.2.2.2.2.2) hb
theorem allE_perm (h : ∀ e ∈ l, 0 ≤ clsE e ∧ clsE e < 9) : (allE l).Perm l := by
  unfold allE
  have key : ∀ (j : Nat) (l : List aEn), (∀ e ∈ l, 0 ≤ clsE e ∧ clsE e < (j : Int)) → ((List.range j).flatMap fun (c : Nat) => l.filter fun e => decide (clsE e = (c : Int))).Perm l := by
    intro j
    induction j with
    | zero =>
      intro l hl
      cases l with
      | nil => exact .nil
      | cons e l => have := hl e List.mem_cons_self; omega
    | succ j ih =>
      intro l hl
      rw [List.range_succ, List.flatMap_append]
      simp only [List.flatMap_cons, List.flatMap_nil, List.append_nil]
      have h1 := ih (l.filter fun e => !decide (clsE e = (j : Int))) fun e he => by
        have := hl e (List.mem_filter.1 he).1
        have h2 : clsE e ≠ (j : Int) := by simpa using (List.mem_filter.1 he).2
        omega
      have h3 : ((List.range j).flatMap fun (c : Nat) => (l.filter fun e => !decide (clsE e = (j : Int))).filter fun e => decide (clsE e = (c : Int))) = (List.range j).flatMap fun (c : Nat) => l.filter fun e => decide (clsE e = (c : Int)) := by
        refine congrArg List.flatten (List.map_congr_left fun c hc => ?_)
        rw [List.filter_filter]
        refine List.filter_congr fun e he => ?_
        have hcj := List.mem_range.1 hc
        by_cases hce : clsE e = (c : Int)
        · simp [hce]; omega
        · simp [hce]
      rw [h3] at h1
      refine (h1.append_right _).trans ?_
      refine (List.perm_append_comm).trans ?_
      exact List.filter_append_perm _ _
  exact key 9 l h
theorem sweep_x (R : RX x l lim k) (now : Int) : ∃ x', ram_Ram_Sweep x now = some ((l.length : Int) - ((l.filter fun y => liveE y now).length : Int), x') ∧ RX x' (l.filter fun y => liveE y now) lim k := by
  obtain ⟨o1, o2, o3, o4, o5, o6⟩ := R.ok
  have hp := allE_perm o5
  have hlen := R.len
  obtain ⟨x', h1, h2⟩ := sweep_loop (now := now) hp o2 o1 (by omega) (allE l).length 0 x (by omega) (by
    rw [List.filter_eq_self.2 fun y hy => by simp]
    exact R)
  unfold ram_Ram_Sweep
  rw [all_x R, Option.bind_some, lt_eq]
  have h1' : ram_Ram_Sweep_l0 now (allE l) ((allE l).length : Int) ((0 : Int), (0 : Int), x, x.budget, x.lists, x.lists.nodes, x.lists.first_, x.lists.last_, x.lists.count, x.heads, x.next_, x.things) = some ((deadN now (allE l) : Int), tpl x') := h1
  rw [h1', Option.bind_some]
  refine ⟨x', ?_, h2⟩
  have hn : (deadN now (allE l) : Int) = (l.length : Int) - ((l.filter fun y => liveE y now).length : Int) := by
    have e1 : deadN now (allE l) = deadN now l := (hp.filter _).length_eq
    rw [e1]
    unfold deadN
    have e2 := (List.filter_append_perm (fun y => liveE y now) l).length_eq
    rw [List.length_append] at e2
    omega
  rw [hn]
  rfl
end
def actL (lim : Int) (l : List aEn) (o : L11_Op) : List aEn :=
  if o.Kind = 0 then setL lim l o.X o.Now else if o.Kind = 1 then getL l o.X.Key o.Now else if o.Kind = 2 then butE o.X.Key l else if o.Kind = 4 then l.filter fun y => liveE y o.Now else l
theorem val_lt {e : aEn} (h : ckE e = 0) : e.Value.length < 9223372036854775807 := by
  have := (ck_ok h).2.2.2.2.2.2.2.2; omega
section
variable {x : ram_Ram} {l : List aEn} {lim k : Int}
theorem gone_ok (h : okL l) (e : aEn) (now : Int) : okL (goneS lim l e now) := by
  unfold goneS goneL
  intro y hy
  split at hy
  · exact h y ((butE_sub _ _).subset (List.mem_of_mem_drop (List.mem_reverse.1 (List.mem_filter.1 hy).1)))
  · cases hy
theorem gone_len (e : aEn) (now : Int) : (goneS lim l e now).length ≤ l.length := by
  unfold goneS goneL
  split
  · refine Nat.le_trans (List.length_filter_le _ _) ?_
    rw [List.length_reverse, List.length_drop]
    have := butE_len e.Key l
    omega
  · exact Nat.zero_le _
theorem do_eq (R : RX x l lim k) (hk : k ≤ 1000) {o : L11_Op} (ho : o.X.Key.length ≤ 200) : ∃ x', L11_do x ⟨lim, l⟩ o = some (⟨lim, actL lim l o⟩, true, x') ∧ RX x' (actL lim l o) lim (k + 1) := by
  obtain ⟨o1, o2, o3, o4, o5, o6⟩ := R.ok
  have hlen := R.len
  unfold L11_do actL
  simp only [lt_eq, beq_iff_eq]
  by_cases k0 : o.Kind = 0
  · obtain ⟨er, x', h1, h2, h3, h4⟩ := set_x R hk o.X o.Now
    have hg := gone_len (lim := lim) (l := l) o.X o.Now
    refine ⟨x', ?_, by rw [if_pos k0]; exact h4⟩
    rw [if_pos k0, if_pos k0, rset_eq o.Now (by omega) (by omega) o1 o2]
    simp only [Option.bind_some, h1]
    rw [sameAll_refl (by omega) fun y hy => val_lt (gone_ok o1 _ _ y hy)]
    simp only [Option.bind_some, if_true, trouble_Of, h2, beq_self_eq_true]
  rw [if_neg k0, if_neg k0]
  by_cases k1 : o.Kind = 1
  · obtain ⟨x', h1, h2⟩ := get_x R hk (key := o.X.Key) (by omega) o.Now
    refine ⟨x', ?_, by rw [if_pos k1]; exact h2⟩
    have hx : (getX l o.X.Key o.Now).Value.length < 9223372036854775807 := by
      unfold getX
      split
      · simp [zeroE]
      · split
        · exact val_lt (o1 _ (fE_some ‹_›).1)
        · simp [zeroE]
    rw [if_pos k1, if_pos k1, rget_eq o.X.Key o.Now (by omega) o2]
    simp only [Option.bind_some, h1]
    rw [same_eq6 _ _ hx]
    simp
  rw [if_neg k1, if_neg k1]
  by_cases k2 : o.Kind = 2
  · obtain ⟨x', h1, h2⟩ := drop_x R (key := o.X.Key) (by omega)
    refine ⟨x', ?_, by rw [if_pos k2]; exact h2.more (by omega)⟩
    rw [if_pos k2, if_pos k2, refFind_eq _ (by omega)]
    simp only [Option.bind_some, h1]
    unfold dropX
    rcases fd_cases l o.X.Key with ⟨g1, g2⟩ | ⟨j, hj, g1, g2, g3⟩
    · rw [g1, g2, if_pos (by decide), but_none g2]
      simp only [Bool.not_false, if_true]
      rw [show (⟨[], 0, 0, 0, []⟩ : aEn) = zeroE from rfl, same_eq6 _ _ (by simp [zeroE])]
      simp
    · rw [g1, g3, if_neg (by simp), rbut_but (r := ⟨lim, l⟩) o2 (by simp only; omega) hj g2]
      simp only [Option.bind_some, if_true]
      rw [ix_nat hj, Option.bind_some, same_eq6 _ _ (val_lt (o1 _ (List.getElem_mem hj)))]
      simp
  rw [if_neg k2, if_neg k2]
  by_cases k3 : o.Kind = 3
  · refine ⟨x, ?_, by rw [if_neg (by omega)]; exact R.more (by omega)⟩
    rw [if_pos k3, if_neg (by omega), refFind_eq _ (by omega), peek_x R (key := o.X.Key) (by omega)]
    simp only [Option.bind_some]
    rcases fd_cases l o.X.Key with ⟨g1, g2⟩ | ⟨j, hj, g1, g2, g3⟩
    · rw [g1, g2]
      simp
    · rw [g1, g3]
      simp only [decide_eq_true (show ((j : Int) ≥ 0) by omega), Bool.not_true, Bool.false_eq_true, if_false, if_true]
      rw [ix_nat hj, Option.bind_some, same_eq6 _ _ (val_lt (o1 _ (List.getElem_mem hj)))]
      simp
  rw [if_neg k3]
  by_cases k4 : o.Kind = 4
  · obtain ⟨x', h1, h2⟩ := sweep_x R o.Now
    refine ⟨x', ?_, by rw [if_pos k4]; exact h2.more (by omega)⟩
    rw [if_pos k4, if_pos k4, rsweep_eq o.Now (by omega)]
    simp only [Option.bind_some, h1, beq_self_eq_true]
  rw [if_neg k4, if_neg k4]
  exact ⟨x, rfl, R.more (by omega)⟩
end
theorem light_eq11 (l : List L11_Op) : L11_light l = some false ∨ (L11_light l = some true ∧ l.length ≤ 40 ∧ ∀ o ∈ l, o.X.Key.length ≤ 200 ∧ o.X.Value.length ≤ 5000) := by
  unfold L11_light
  simp only [lt_eq]
  by_cases h : l.length > 40
  · left; rw [if_pos (decide_eq_true (by omega))]
  rw [if_neg (by rw [decide_eq_false (by omega)]; simp)]
  have k := loopO_up (body := fun s => L11_light_b0 l s.1 s.2) (fun i : Nat => ((l.take i).map (·.X), (i : Int))) l.length (x := l.map (·.X)) (fun i hi => by
    unfold L11_light_b0
    simp only [lt_eq]
    rw [if_pos (decide_eq_true (by omega)), ix_nat hi, Option.bind_some, app_eq (by simp; omega), Option.bind_some, w64_nat (by omega), List.take_succ_eq_append_getElem hi, List.map_append, List.map_cons, List.map_nil]) (by
    unfold L11_light_b0
    simp only [lt_eq]
    rw [if_neg (by simp), List.take_length])
  have k' : L11_light_l0 l ([], 0) = some (l.map (·.X)) := k
  rw [k', Option.bind_some]
  rcases light_eq (l.map (·.X)) with h1 | ⟨h1, h2, h3⟩
  · left; rw [h1]; rfl
  · right
    rw [h1]
    exact ⟨rfl, by omega, fun o ho => h3 _ (List.mem_map_of_mem ho)⟩
def ent (c : BitVec 8) (n : Nat) : aEn := ⟨[c], 1, 1, 0, List.replicate n 0#8⟩
theorem ent_len (c : BitVec 8) {n : Nat} (h : n < 128) : (encE (ent c n)).length = 6 + n := by
  unfold encE ent
  simp only [List.length_replicate, List.length_append, List.length_cons, List.length_nil]
  rw [num7_small h, num7_small (by decide), num7_small (by decide), num7_small (by decide)]
  simp only [List.length_cons, List.length_nil]
  omega
theorem ent_ck (c : BitVec 8) {n : Nat} (h : n ≤ 4096) : ckE (ent c n) = 0 := by
  unfold ckE ckK ent
  simp
  omega
theorem mk_z (n : Nat) (h : n ≤ 1000) : mkS 1 (n : Int) (0#8 : BitVec 8) = some (List.replicate n 0#8) := by
  unfold mkS
  rw [if_pos (by omega), Int.toNat_natCast]
theorem works11 : L11_works = some true := by
  obtain ⟨x0, n1, R0⟩ := new_x (lim := 100) (by omega) (by omega)
  obtain ⟨er, n2, n3⟩ := new_bad (lim := 0) (by omega)
  have ta : tkE (ent 97#8 0) = 32 := by unfold tkE clsE; rw [ent_len _ (by omega)]; decide
  have tb : tkE (ent 98#8 40) = 64 := by unfold tkE clsE; rw [ent_len _ (by omega)]; decide
  have tc : tkE (ent 99#8 0) = 32 := by unfold tkE clsE; rw [ent_len _ (by omega)]; decide
  have td : tkE (ent 100#8 70) = 128 := by unfold tkE clsE; rw [ent_len _ (by omega)]; decide
  have hka : ∀ c n, (ent c n).Key = [c] := fun _ _ => rfl
  have hlv : ∀ c n, liveE (ent c n) 0 = true := fun _ _ => rfl
  have hs : ∀ c n, n ≤ 100 → setC 100 (ent c n) 0 = if tkE (ent c n) ≤ 100 ∧ 0 < tkE (ent c n) then 0 else 3 := fun c n hn => by
    unfold setC okS
    rw [ent_ck c (by omega), if_neg (by simp), hlv, if_neg (by simp)]
    by_cases h : tkE (ent c n) ≤ 100 ∧ 0 < tkE (ent c n)
    · rw [if_pos h, if_neg (by simp; omega)]
    · rw [if_neg h, if_pos (by simp; omega)]
  have sa : setC 100 (ent 97#8 0) 0 = 0 := by rw [hs _ _ (by omega), ta]; decide
  have sb : setC 100 (ent 98#8 40) 0 = 0 := by rw [hs _ _ (by omega), tb]; decide
  have sc : setC 100 (ent 99#8 0) 0 = 0 := by rw [hs _ _ (by omega), tc]; decide
  have sd : setC 100 (ent 100#8 70) 0 = 3 := by rw [hs _ _ (by omega), td]; decide
  have u0 : usE [] = 0 := rfl
  -- a
  have la : setL 100 [] (ent 97#8 0) 0 = [ent 97#8 0] := by
    unfold setL keptL
    rw [sa, if_pos rfl]
    simp [butE]
  have ga : goneS 100 [] (ent 97#8 0) 0 = [] := by
    unfold goneS goneL
    rw [sa, if_pos rfl]
    simp [butE]
  obtain ⟨e1, x1, a1, a2, a3, R1⟩ := set_x R0 (by omega) (ent 97#8 0) 0
  rw [sa] at a2 a3
  rw [ga] at a1
  rw [la] at R1
  -- b
  have bb : butE [98#8] [ent 97#8 0] = [ent 97#8 0] := by simp [butE, hka]
  have kb : kn 64 100 [ent 97#8 0] 1 = 1 := by
    simp only [kn, List.take_succ_cons, List.take_zero, usE_cons, ta, u0]
    decide
  have lb : setL 100 [ent 97#8 0] (ent 98#8 40) 0 = [ent 98#8 40, ent 97#8 0] := by
    unfold setL keptL
    rw [sb, if_pos rfl, hka, bb, tb, show [ent 97#8 0].length = 1 from rfl, kb]
    rfl
  have gb : goneS 100 [ent 97#8 0] (ent 98#8 40) 0 = [] := by
    unfold goneS goneL
    rw [sb, if_pos rfl, hka, bb, tb, show [ent 97#8 0].length = 1 from rfl, kb]
    rfl
  obtain ⟨e2, x2, b1, b2, b3, R2⟩ := set_x R1 (by omega) (ent 98#8 40) 0
  rw [sb] at b2 b3
  rw [gb] at b1
  rw [lb] at R2
  -- a is got
  obtain ⟨x3, g1, R3⟩ := get_x R2 (by omega) (key := [97#8]) (by simp) 0
  have fa : fE [97#8] [ent 98#8 40, ent 97#8 0] = some (ent 97#8 0) := by simp [fE, hka]
  have lg : getL [ent 98#8 40, ent 97#8 0] [97#8] 0 = [ent 97#8 0, ent 98#8 40] := by
    unfold getL
    rw [fa]
    simp [hlv, butE, hka]
  have gg : getB [ent 98#8 40, ent 97#8 0] [97#8] 0 = true := by
    unfold getB
    rw [fa]
    exact hlv _ _
  rw [gg] at g1
  rw [lg] at R3
  -- c
  have bc : butE [99#8] [ent 97#8 0, ent 98#8 40] = [ent 97#8 0, ent 98#8 40] := by simp [butE, hka]
  have kc : kn 32 100 [ent 97#8 0, ent 98#8 40] 2 = 1 := by
    simp only [kn, List.take_succ_cons, List.take_zero, usE_cons, ta, tb, u0]
    decide
  have lc : setL 100 [ent 97#8 0, ent 98#8 40] (ent 99#8 0) 0 = [ent 99#8 0, ent 97#8 0] := by
    unfold setL keptL
    rw [sc, if_pos rfl, hka, bc, tc, show [ent 97#8 0, ent 98#8 40].length = 2 from rfl, kc]
    rfl
  have gc : goneS 100 [ent 97#8 0, ent 98#8 40] (ent 99#8 0) 0 = [ent 98#8 40] := by
    unfold goneS goneL
    rw [sc, if_pos rfl, hka, bc, tc, show [ent 97#8 0, ent 98#8 40].length = 2 from rfl, kc]
    simp [hlv]
  obtain ⟨e4, x4, c1, c2, c3, R4⟩ := set_x R3 (by omega) (ent 99#8 0) 0
  rw [sc] at c2 c3
  rw [gc] at c1
  rw [lc] at R4
  -- d
  have ld : setL 100 [ent 99#8 0, ent 97#8 0] (ent 100#8 70) 0 = [ent 99#8 0, ent 97#8 0] := by
    unfold setL
    rw [sd]
    rfl
  obtain ⟨e5, x5, d1, d2, d3, R5⟩ := set_x R4 (by omega) (ent 100#8 70) 0
  rw [sd] at d2
  rw [ld] at R5
  have hu : ram_Ram_Used x5 = some 64 := by
    rw [used_x R5]
    simp only [usE_cons, ta, tc, u0]
    decide
  have z1 : mkS 1 (40 : Int) (0#8 : BitVec 8) = some (List.replicate 40 0#8) := mk_z 40 (by omega)
  have z2 : mkS 1 (70 : Int) (0#8 : BitVec 8) = some (List.replicate 70 0#8) := mk_z 70 (by omega)
  have ea : (⟨[97#8], 1, 1, 0, []⟩ : aEn) = ent 97#8 0 := rfl
  have eb : (⟨[98#8], 1, 1, 0, List.replicate 40 0#8⟩ : aEn) = ent 98#8 40 := rfl
  have ec : (⟨[99#8], 1, 1, 0, []⟩ : aEn) = ent 99#8 0 := rfl
  have ed : (⟨[100#8], 1, 1, 0, List.replicate 70 0#8⟩ : aEn) = ent 100#8 70 := rfl
  have hnil : Err.isNil .nil = true := rfl
  unfold L11_works
  simp only [n1, n2, Option.bind_some, Option.elim_some, Option.elim_none, lt_eq, hnil, Bool.not_true, Bool.false_eq_true, if_false, z1, z2, ea, eb, ec, ed, a1, b1, g1, c1, d1, trouble_Of, n3, a3, b3, c3, d2, beq_self_eq_true, if_true, decide_true, List.length_nil, List.length_cons, hu, len_x R5, limit_x R5]
  simp [ix, hka]
theorem acts_loop {α : Type} {lim : Int} {ops : List L11_Op} (hl : ops.length ≤ 40) (ho : ∀ o ∈ ops, o.X.Key.length ≤ 200) {body : Int × R11_Ram × ram_Ram × slab_Budget × lists_Lists × (List lists_link) × (List Int) × (List Int) × (List Int) × (List Int) × (List Int) × (List aEn) → Option ((Int × R11_Ram × ram_Ram × slab_Budget × lists_Lists × (List lists_link) × (List Int) × (List Int) × (List Int) × (List Int) × (List Int) × (List aEn)) ⊕ α)} (F : R11_Ram → ram_Ram → α)
    (f1 : ∀ (i : Nat) (hi : i < ops.length) (r r' : R11_Ram) (x x' : ram_Ram) (b : Bool), L11_do x r ops[i] = some (r', b, x') → body ((i : Int), r, tpl x) = some (.inl (((i + 1 : Nat) : Int), r', tpl x')))
    (f2 : ∀ (r : R11_Ram) (x : ram_Ram), body ((ops.length : Int), r, tpl x) = some (.inr (F r x))) : ∀ (d i : Nat) (x : ram_Ram) (l : List aEn), i + d = ops.length → RX x l lim (i : Int) →
    ∃ x' l', loopO body ((i : Int), ⟨lim, l⟩, tpl x) = some (F ⟨lim, l'⟩ x') ∧ RX x' l' lim 40 ∧ l' = (ops.drop i).foldl (actL lim) l
  | 0, i, x, l, h, R => by
    have hi : i = ops.length := by omega
    subst hi
    exact ⟨x, l, loopO_out (f2 _ _), R.more (by omega), by simp⟩
  | d + 1, i, x, l, h, R => by
    have hi : i < ops.length := by omega
    obtain ⟨x', h1, h2⟩ := do_eq R (by omega) (ho _ (List.getElem_mem hi))
    obtain ⟨x2, l2, g1, g2, g3⟩ := acts_loop hl ho F f1 f2 d (i + 1) x' (actL lim l ops[i]) (by omega) (by exact_mod_cast h2)
    refine ⟨x2, l2, ?_, g2, ?_⟩
    · rw [← g1]
      exact loopO_in (f1 i hi _ _ _ _ _ h1)
    · rw [g3, List.drop_eq_getElem_cons hi, List.foldl_cons]
theorem fdI_at {A : List aEn} (h : dst A) {i : Nat} (hi : i < A.length) : fdI A A[i].Key = (i : Int) := by
  rcases fd_cases A A[i].Key with ⟨g1, g2⟩ | ⟨j, hj, g1, g2, g3⟩
  · exact absurd rfl (fE_none.1 g2 _ (List.getElem_mem hi))
  · rw [g1]
    have hk : A[j].Key = A[i].Key := (fE_some g3).2
    have hp := List.pairwise_iff_getElem.1 h
    rcases Nat.lt_trichotomy i j with hij | hij | hij
    · exact absurd hk.symm (hp i j hi hj hij)
    · rw [hij]
    · exact absurd hk (hp j i hj hi hij)
theorem dst_perm {l m : List aEn} (h : l.Perm m) (hd : dst m) : dst l := (h.pairwise_iff (fun {a b} h => Ne.symm h)).2 hd
theorem fdI_mem {A : List aEn} (h : dst A) {e : aEn} (he : e ∈ A) : ∃ (j : Nat) (hj : j < A.length), fdI A e.Key = (j : Int) ∧ A[j] = e := by
  obtain ⟨j, hj, rfl⟩ := List.mem_iff_getElem.1 he
  exact ⟨j, hj, fdI_at h hj, rfl⟩
theorem fdI_neg {A : List aEn} {k : List (BitVec 8)} (h : ∀ e ∈ A, e.Key ≠ k) : fdI A k = -1 := by
  rcases fd_cases A k with ⟨g1, g2⟩ | ⟨j, hj, g1, g2, g3⟩
  · exact g1
  · exact absurd (fE_some g3).2 (h _ (fE_some g3).1)
theorem isNil_nil : Err.isNil .nil = true := rfl
theorem lim_of (x0 : BitVec 16) : w64 ((1 : Int) + Int.tmod (BitVec.toNat x0 : Int) 9000) = 1 + (BitVec.toNat x0 : Int) % 9000 ∧ 1 ≤ 1 + (BitVec.toNat x0 : Int) % 9000 ∧ 1 + (BitVec.toNat x0 : Int) % 9000 ≤ 1048576 := by
  rw [Int.tmod_eq_emod_of_nonneg (by omega)]
  exact ⟨w64_eq (by omega) (by omega), by omega, by omega⟩
end Go.Proofs.YtggeboakilalhaaDoor
namespace Go.Proofs.YtggeboakilalhaaDoor
open Go Go.Va
set_option linter.unusedSimpArgs false
set_option linter.unusedVariables false
def wf_aEn (x : aEn) : Prop := wfS x.Key ∧ (wfI .i64) x.Version ∧ (wfI .i64) x.AsOf ∧ (wfI .i64) x.Ends ∧ (wfL wfT) x.Value
theorem opens39 : Opens Tryd.prog 39 e_aEn wf_aEn := by
  intro H enc w fuel cs x hx
  obtain ⟨xs, m, _, _, hl, hn, hx⟩ := DataW.trod_struct Tryd.underlying39 hx
  rw [cellsOf_sz tk sz39 (by decide)] at hl
  obtain ⟨y0, w0, r0, o0⟩ := opens_f hx hn 0 (o := 0) (s := 1) rfl (opens_s Tryd.underlying9) rfl (cellsOf_sz tk sz9 (by decide))
  obtain ⟨y1, w1, r1, o1⟩ := opens_f hx hn 1 (o := 1) (s := 1) rfl (opens_i64 Tryd.underlying3) rfl (cellsOf_sz tk sz3 (by decide))
  obtain ⟨y2, w2, r2, o2⟩ := opens_f hx hn 2 (o := 2) (s := 1) rfl (opens_i64 Tryd.underlying3) rfl (cellsOf_sz tk sz3 (by decide))
  obtain ⟨y3, w3, r3, o3⟩ := opens_f hx hn 3 (o := 3) (s := 1) rfl (opens_i64 Tryd.underlying3) rfl (cellsOf_sz tk sz3 (by decide))
  obtain ⟨y4, w4, r4, o4⟩ := opens_f hx hn 4 (o := 4) (s := 1) rfl (opens_l tk Tryd.underlying37 (enc_u td5 sz5) (opens_u rfl rfl Tryd.underlying5)) rfl (cellsOf_sz tk sz37 (by decide))
  refine ⟨⟨y0, y1, y2, y3, y4⟩, ⟨w0, w1, w2, w3, w4⟩, ?_, ?_⟩
  · have h := (rel_piece r0 (rel_piece r1 (rel_piece r2 (rel_piece r3 (rel_piece r4 (rel_end hl))))))
    rw [List.drop_zero] at h
    first | exact h | (simp only [List.append_nil, List.append_assoc] at h ⊢; exact h) | (simpa [AV.cells, e_aEn, c_aEn] using h)
  · have h := (one_piece o0 (one_piece o1 (one_piece o2 (one_piece o3 (one_piece o4 (one_end hl))))))
    rw [List.drop_zero] at h
    exact h
def wf_L11_Op (x : L11_Op) : Prop := (wfI .i64) x.Kind ∧ wf_aEn x.X ∧ (wfI .i64) x.Now
theorem opens41 : Opens Tryd.prog 41 e_L11_Op wf_L11_Op := by
  intro H enc w fuel cs x hx
  obtain ⟨xs, m, _, _, hl, hn, hx⟩ := DataW.trod_struct Tryd.underlying41 hx
  rw [cellsOf_sz tk sz41 (by decide)] at hl
  obtain ⟨y0, w0, r0, o0⟩ := opens_f hx hn 0 (o := 0) (s := 1) rfl (opens_i64 Tryd.underlying3) rfl (cellsOf_sz tk sz3 (by decide))
  obtain ⟨y1, w1, r1, o1⟩ := opens_f hx hn 1 (o := 1) (s := 5) rfl opens39 rfl (cellsOf_sz tk sz39 (by decide))
  obtain ⟨y2, w2, r2, o2⟩ := opens_f hx hn 2 (o := 6) (s := 1) rfl (opens_i64 Tryd.underlying3) rfl (cellsOf_sz tk sz3 (by decide))
  refine ⟨⟨y0, y1, y2⟩, ⟨w0, w1, w2⟩, ?_, ?_⟩
  · have h := (rel_piece r0 (rel_piece r1 (rel_piece r2 (rel_end hl))))
    rw [List.drop_zero] at h
    first | exact h | (simp only [List.append_nil, List.append_assoc] at h ⊢; exact h) | (simpa [AV.cells, e_L11_Op, c_L11_Op] using h)
  · have h := (one_piece o0 (one_piece o1 (one_piece o2 (one_end hl))))
    rw [List.drop_zero] at h
    exact h
end Go.Proofs.YtggeboakilalhaaDoor
namespace Go.Proofs.YtggeboakilalhaaDoor
open Go Go.Va
set_option linter.unusedVariables false
set_option linter.unusedSimpArgs false
theorem RamEnds_pure (x0 : BitVec 16) (ops : List L11_Op) (now : Int) (key : List (BitVec 8)) (_ : wfT x0) (_ : wfL wf_L11_Op ops) (_ : wfI .i64 now) (_ : wfS key) : L11_RamEnds x0 ops now key = some true := by
  obtain ⟨w1, w2, w3⟩ := lim_of x0
  generalize hlm : 1 + (BitVec.toNat x0 : Int) % 9000 = lim at w1 w2 w3
  unfold L11_RamEnds
  simp only [lt_eq]
  rcases light_eq11 ops with h | ⟨h, hl, ho⟩
  · rw [h]
    simp [works11]
  by_cases hkey : (key.length : Int) > 200
  · rw [h, decide_eq_true hkey]
    simp [works11]
  obtain ⟨x, n1, R0⟩ := new_x w2 w3
  rw [h, Option.bind_some, if_neg (by decide), Option.bind_some, if_neg (by simpa using hkey), w1, n1, Option.bind_some]
  simp only [Option.elim_some, isNil_nil, Bool.not_true, Bool.false_eq_true, if_false, Option.bind_some]
  rw [rnew_eq, if_neg (by omega), Option.bind_some]
  obtain ⟨x', l, g1, R, _⟩ := acts_loop hl (fun o h => (ho o h).1) (body := fun s => L11_RamEnds_b0 ops now key s.1 s.2.1 s.2.2.1 s.2.2.2.1 s.2.2.2.2.1 s.2.2.2.2.2.1 s.2.2.2.2.2.2.1 s.2.2.2.2.2.2.2.1 s.2.2.2.2.2.2.2.2.1 s.2.2.2.2.2.2.2.2.2.1 s.2.2.2.2.2.2.2.2.2.2.1 s.2.2.2.2.2.2.2.2.2.2.2) (fun r x => (r, tpl x)) (fun i hi r r' x x' b hb => by
    show L11_RamEnds_b0 ops now key (i : Int) r x x.budget x.lists x.lists.nodes x.lists.first_ x.lists.last_ x.lists.count x.heads x.next_ x.things = _
    unfold L11_RamEnds_b0
    simp only [lt_eq]
    rw [if_pos (decide_eq_true (by omega)), ix_nat hi, Option.bind_some]
    show ((L11_do x r ops[i]).bind _) = _
    rw [hb, Option.bind_some, w64_nat (by omega)]
    rfl) (fun r x => by
    show L11_RamEnds_b0 ops now key (ops.length : Int) r x x.budget x.lists x.lists.nodes x.lists.first_ x.lists.last_ x.lists.count x.heads x.next_ x.things = _
    unfold L11_RamEnds_b0
    simp only [lt_eq]
    rw [if_neg (by simp)]
    rfl) ops.length 0 x [] (by omega) R0
  have g1' : L11_RamEnds_l0 ops now key ((0 : Int), (⟨lim, []⟩ : R11_Ram), x, x.budget, x.lists, x.lists.nodes, x.lists.first_, x.lists.last_, x.lists.count, x.heads, x.next_, x.things) = some (⟨lim, l⟩, tpl x') := g1
  rw [g1', Option.bind_some]
  obtain ⟨o1, o2, o3, o4, o5, o6⟩ := R.ok
  have hlen := R.len
  have hp := allE_perm o5
  have hal := hp.length_eq
  have hA2 := dst_perm hp o2
  show ((ram_Ram_All x').bind _) = _
  rw [all_x R, Option.bind_some]
  obtain ⟨x2, t1, R2⟩ := get_x R (by omega) (key := key) (by omega) now
  show ((ram_Ram_Get x' key now).bind _) = _
  rw [t1, Option.bind_some]
  -- what is got, beside what was there
  have hcmp : ((fdI (allE l) key = -1 ∧ getB l key now = false) ∨ ∃ (j : Nat) (hj : j < (allE l).length), fdI (allE l) key = (j : Int) ∧ getB l key now = liveE (allE l)[j] now ∧ (liveE (allE l)[j] now = true → getX l key now = (allE l)[j])) := by
    unfold getB getX
    cases hf : fE key l with
    | none => exact .inl ⟨fdI_neg fun y hy => fE_none.1 hf y (hp.mem_iff.1 hy), rfl⟩
    | some y =>
      obtain ⟨f1, f2⟩ := fE_some hf
      obtain ⟨j, hj, f3, f4⟩ := fdI_mem hA2 (hp.mem_iff.2 f1)
      rw [f2] at f3
      refine .inr ⟨j, hj, f3, by rw [f4], fun hv => ?_⟩
      rw [f4] at hv ⊢
      exact if_pos hv
  have hcond : (if getB l key now = true then
                (R06_Live (getX l key now) now).bind fun v107 =>
                  if (!v107) = true then some true
                  else
                    (R06_Find (allE l) key).bind fun v112 =>
                      if decide (v112 ≥ 0) = true then
                        (R06_Find (allE l) key).bind fun v117 =>
                          (ix (allE l) v117).bind fun v119 =>
                            (R06_Live v119 now).bind fun v121 => some (true != v121)
                      else some (true != false)
              else
                (R06_Find (allE l) key).bind fun v127 =>
                  if decide (v127 ≥ 0) = true then
                    (R06_Find (allE l) key).bind fun v132 =>
                      (ix (allE l) v132).bind fun v134 =>
                        (R06_Live v134 now).bind fun v136 => some (false != v136)
                  else some (false != false)) = some false := by
    rcases hcmp with ⟨c1, c2⟩ | ⟨j, hj, c1, c2, c3⟩
    · rw [c2, if_neg (by decide), refFind_eq _ (by omega), c1, Option.bind_some, if_neg (by decide)]
      rfl
    · by_cases hv : liveE (allE l)[j] now = true
      · rw [c2, if_pos hv, c3 hv, live_r, Option.bind_some, if_neg (by simp [hv]), refFind_eq _ (by omega), c1, Option.bind_some, if_pos (by simp), Option.bind_some, ix_nat hj, Option.bind_some, live_r, Option.bind_some, hv]
        rfl
      · have hv' : liveE (allE l)[j] now = false := by simpa using hv
        rw [c2, if_neg hv, refFind_eq _ (by omega), c1, Option.bind_some, if_pos (by simp), Option.bind_some, ix_nat hj, Option.bind_some, live_r, Option.bind_some, hv']
        rfl
  simp only
  rw [hcond, Option.bind_some, if_neg (by decide)]
  obtain ⟨p1, p2, p3, p4, p5, p6⟩ := R2.ok
  have hlen2 := R2.len
  obtain ⟨x3, u1, R3⟩ := sweep_x R2 now
  obtain ⟨q1, q2, q3, q4, q5, q6⟩ := R3.ok
  have hlen3 := R3.len
  have hp3 := allE_perm q5
  have hal3 := hp3.length_eq
  have hA3 := dst_perm hp3 q2
  rw [u1, Option.bind_some]
  simp only [all_x R3, Option.bind_some]
  generalize hM : allE ((getL l key now).filter fun y => liveE y now) = M at *
  have hMl : M.length ≤ 32768 := by omega
  have hgl : (getL l key now).length ≤ l.length := by
    unfold getL
    cases hf : fE key l with
    | none => exact Nat.le_refl _
    | some y =>
      simp only
      have hb : (butE key l).length < l.length := by
        unfold butE
        have h1 := List.length_filter_lt_length_iff_exists (l := l) (p := fun x => x.Key != key)
        exact h1.2 ⟨y, (fE_some hf).1, by simp [(fE_some hf).2]⟩
      split
      · simp; omega
      · omega
  have hfl := List.length_filter_le (fun y => liveE y now) (getL l key now)
  have hin : ∀ y ∈ l, liveE y now = true → y ∈ M := by
    intro y hy hv
    refine hp3.mem_iff.2 (List.mem_filter.2 ⟨?_, hv⟩)
    unfold getL
    cases hf : fE key l with
    | none => exact hy
    | some z =>
      simp only
      obtain ⟨f1, f2⟩ := fE_some hf
      by_cases hyk : y.Key = key
      · have e1 := dst_fE o2 hy
        rw [hyk, hf] at e1
        have e2 : z = y := Option.some.inj e1
        subst e2
        rw [if_pos hv]
        exact List.mem_cons_self
      · split
        · exact List.mem_cons_of_mem _ (mem_butE.2 ⟨hy, hyk⟩)
        · exact mem_butE.2 ⟨hy, hyk⟩
  have k1 := fun (G : aEn × Bool × ram_Ram) (S : Int × ram_Ram) => loopO_up (body := fun s => L11_RamEnds_b1 now (⟨lim, l⟩, tpl x') (allE l) G S M s) (fun i : Nat => (i : Int)) M.length (x := .inl ()) (fun i hi => by
    have hm := (List.mem_filter.1 (hp3.mem_iff.1 (List.getElem_mem hi))).2
    unfold L11_RamEnds_b1
    simp only [lt_eq]
    rw [if_pos (decide_eq_true (by omega)), ix_nat hi, Option.bind_some, live_r, Option.bind_some, if_neg (by simpa using hm), w64_nat (by omega)]) (by
    unfold L11_RamEnds_b1
    simp only [lt_eq]
    rw [if_neg (by simp)])
  have k1' : ∀ G S, L11_RamEnds_l1 now (⟨lim, l⟩, tpl x') (allE l) G S M (0 : Int) = some (.inl ()) := k1
  rw [k1', Option.bind_some]
  simp only [Sum.elim_inl]
  have k2 := fun (G : aEn × Bool × ram_Ram) (S : Int × ram_Ram) => loopO_up (body := fun s => L11_RamEnds_b2 now (⟨lim, l⟩, tpl x') (allE l) G S M s) (fun i : Nat => (i : Int)) (allE l).length (x := .inl ()) (fun i hi => by
    have hm := hp.mem_iff.1 (List.getElem_mem hi)
    unfold L11_RamEnds_b2
    simp only [lt_eq]
    rw [if_pos (decide_eq_true (by omega)), ix_nat hi, Option.bind_some, live_r, Option.bind_some]
    by_cases hv : liveE (allE l)[i] now = true
    · obtain ⟨j, hj, f1, f2⟩ := fdI_mem hA3 (hin _ hm hv)
      rw [if_pos hv, Option.bind_some, refFind_eq _ (by omega), f1, Option.bind_some, Option.bind_some, if_neg (by simp), w64_nat (by omega)]
    · rw [if_neg hv, Option.bind_some, if_neg (by decide), w64_nat (by omega)]) (by
    unfold L11_RamEnds_b2
    simp only [lt_eq]
    rw [if_neg (by simp)])
  have k2' : ∀ G S, L11_RamEnds_l2 now (⟨lim, l⟩, tpl x') (allE l) G S M (0 : Int) = some (.inl ()) := k2
  rw [k2', Option.bind_some]
  simp only [Sum.elim_inl]
  rw [if_pos (decide_eq_true (by omega)), if_pos (decide_eq_true (by omega)), works11]
  rfl
end Go.Proofs.YtggeboakilalhaaDoor
namespace Go.Proofs.YtggeboakilalhaaDoor
open Go.ChangeShapes Go.WideShapes Go.RowKit
theorem own : ownKnob Tryd.prog.godebug = none := by kernel_rfl
theorem laidEt : Tryd.prog.globalNamed "errors.errorType" = some 0 := by kernel_rfl
theorem laidRt : (Tryd.prog.cutTypes.find? (·.1 == "internal/reflectlite.rtype")).map (·.2) = some 139 := by kernel_rfl
theorem laidRow : ((List.range 181).filter fun t => Tryd.prog.rowNamed t [101, 114, 114, 111, 114]) = [28] := by kernel_rfl
theorem laidSize : Tryd.prog.types.size = 181 := by kernel_rfl
def laidL {H : Type} : List (String × DataW H) := [("errors.errorType", Rows.laid_errors_errorType)]
theorem handle_of_laid {W : World} (h : laidMetH Tryd.prog laidL W) : W.cell? ⟨0, 0, none⟩ = some (.iface 139 (.agg #[.pointer (some ⟨1, 28, none⟩)])) := by
  have h' : laidMet Tryd.prog [] W ∧ handlesMet Tryd.prog laidL W := h
  obtain ⟨name, u, ty, e1, e2, e3, e4, e5⟩ := h'.2 _ (List.mem_singleton.2 rfl)
  have en : name = [101, 114, 114, 111, 114] := (Option.some.inj e1).symm
  subst en
  obtain rfl := Option.some.inj (laidRt.symm.trans e2)
  have hm : ty ∈ (List.range 181).filter fun t => Tryd.prog.rowNamed t [101, 114, 114, 111, 114] := List.mem_filter.2 ⟨List.mem_range.2 (by rw [← laidSize]; exact e3), e4⟩
  rw [laidRow] at hm
  obtain rfl := List.mem_singleton.1 hm
  have hh : typeHandle Tryd.prog 28 = .pointer (some ⟨1, 28, none⟩) := by kernel_rfl
  rw [hh] at e5
  simpa using World.var?_cell laidEt e5 0
noncomputable def laidWorld (os : Os) : World :=
  let w0 := World.holding Tryd.prog os ⟨#[], #[], []⟩
  { w0 with heap := w0.heap.modify 0 fun
      | .cells _ t frozen => .cells #[.iface 139 (.agg #[.pointer (some ⟨1, 28, none⟩)])] t frozen
      | o => o }
theorem laidWorld_met (os : Os) (args : Array Value) : laidMetH Tryd.prog laidL ((laidWorld os).forCall (fun _ _ => 0) ⟨#[], args, []⟩).memory :=
  laidMetH_of_parts (laidMet_nil _ _) (by kernel_rfl)
theorem gls_met {W : World} (h : laidMetH Tryd.prog laidL W) : ∀ p ∈ gls, W.cell? p.1 = some p.2 := by
  intro p hp
  obtain rfl := List.mem_singleton.1 hp
  exact handle_of_laid h
theorem laidOut : laidOutB Tryd.prog = true := by kernel_rfl
end Go.Proofs.YtggeboakilalhaaDoor

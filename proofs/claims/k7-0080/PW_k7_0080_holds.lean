import PyProof.Rows.All
import Wide.All
import OpenK.AllK
import Wide.FinOn
import PySem.Challenge.RW_k7_0080
namespace Mine
open PySem PyProof.Rows PyProof.Rows.FinIter

theorem tjoin (sep : Str) (l : List Str) : Txt.join sep l = Str.join sep l := StrLaws.glued_eq_join sep l
theorem step_ne : ∀ (l : List Nat) (st : KWd.St), (∀ w ∈ st.1, w.length ≠ 0) → ∀ w ∈ (l.foldl KWd.step st).1, w.length ≠ 0
  | [], _, h => h
  | c :: l, st, h => by
    rw [List.foldl_cons]
    apply step_ne l
    intro w hw
    unfold KWd.step at hw
    split at hw
    · split at hw
      · exact h w hw
      · rename_i h0
        simp only [List.mem_append, List.mem_singleton] at hw
        rcases hw with hw | rfl
        · exact h w hw
        · exact h0
    · exact h w hw
theorem scan_ne (x : Str) : ∀ w ∈ (KWd.scan x).1, w.length ≠ 0 := step_ne _ _ (fun _ h => nomatch h)
theorem fin_ne (x : Str) : ∀ w ∈ KWd.fin (KWd.scan x), w.length ≠ 0 := by
  intro w hw
  unfold KWd.fin at hw
  split at hw
  · exact scan_ne x w hw
  · rename_i h0
    simp only [List.mem_append, List.mem_singleton] at hw
    rcases hw with hw | rfl
    · exact scan_ne x w hw
    · exact h0
theorem join_app (sep r c : Str) (ws : List Str) : Str.join sep (ws ++ [r ++ c]) = Str.join sep (ws ++ [r]) ++ c := by
  rw [join_snoc, join_snoc]
  split
  · rfl
  · rw [Str.append_assoc, Str.append_assoc, Str.append_assoc]
theorem join_len0 (sep : Str) : ∀ (l : List Str), (∀ w ∈ l, w.length ≠ 0) → (Str.join sep l).length = 0 → l = []
  | [], _, _ => rfl
  | [a], h, e => absurd e (h a (List.mem_cons_self ..))
  | a :: b :: r, h, e => by
    have e' : (a ++ sep ++ Str.join sep (b :: r)).length = 0 := e
    rw [Str.length_append, Str.length_append] at e'
    exact absurd (by omega) (h a (List.mem_cons_self ..))

/-- the scan of `_law_scan`, said by the words -/
def Sq (x want : Str) (gap : Bool) : Prop :=
  want = Str.join (Str.ofString " ") (KWd.fin (KWd.scan x)) ∧ ((KWd.scan x).2.length ≠ 0 → gap = false) ∧ ((KWd.scan x).2.length = 0 → want.length ≠ 0 → gap = true)
theorem sq_start : Sq Str.empty Str.empty false := ⟨rfl, fun _ => rfl, fun _ h => absurd rfl h⟩
theorem sq_blank {x want : Str} {gap : Bool} {c : Nat} (hc : Unicode.isSpace c = true) (h : Sq x want gap) : Sq (x ++ ⟨#[c]⟩) want true := by
  obtain ⟨h1, h2, h3⟩ := h
  have e : KWd.fin (KWd.step (KWd.scan x) c) = KWd.fin (KWd.scan x) ∧ (KWd.step (KWd.scan x) c).2.length = 0 := by
    unfold KWd.step
    rw [if_pos hc]
    split
    · rename_i h0
      exact ⟨rfl, h0⟩
    · rename_i h0
      refine ⟨?_, rfl⟩
      unfold KWd.fin
      rw [if_neg h0]
      rfl
  refine ⟨?_, ?_, fun _ _ => rfl⟩
  · rw [KWd.scan_snoc, e.1]; exact h1
  · intro hn
    rw [KWd.scan_snoc] at hn
    exact absurd e.2 hn
theorem sq_gap {x want : Str} {c : Nat} (hc : Unicode.isSpace c = false) (h : Sq x want true) (hw : want.length ≠ 0) : Sq (x ++ ⟨#[c]⟩) (want ++ Str.ofString " " ++ ⟨#[c]⟩) false := by
  obtain ⟨h1, h2, h3⟩ := h
  have h0 : (KWd.scan x).2.length = 0 := Classical.byContradiction fun hn => by cases h2 hn
  have e : KWd.scan (x ++ ⟨#[c]⟩) = ((KWd.scan x).1, ⟨#[c]⟩) := by
    rw [KWd.scan_snoc]
    unfold KWd.step
    rw [if_neg (by rw [hc]; decide), KWd.len0 h0]
    exact Prod.ext rfl (Str.ext' Array.empty_append)
  have hf : KWd.fin (KWd.scan x) = (KWd.scan x).1 := by unfold KWd.fin; rw [if_pos h0]
  refine ⟨?_, fun _ => rfl, fun h => ?_⟩
  · rw [e]
    show _ = Str.join _ ((KWd.scan x).1 ++ [⟨#[c]⟩])
    rw [join_snoc, if_neg, h1, hf]
    intro hn
    rw [hf, hn] at h1
    rw [h1] at hw
    exact hw rfl
  · rw [e] at h
    exact absurd (show (1 : Nat) = 0 from h) (by decide)
theorem sq_sign {x want : Str} {gap : Bool} {c : Nat} (hc : Unicode.isSpace c = false) (h : Sq x want gap) (hw : gap = false ∨ want.length = 0) : Sq (x ++ ⟨#[c]⟩) (want ++ ⟨#[c]⟩) false := by
  obtain ⟨h1, h2, h3⟩ := h
  have e : KWd.scan (x ++ ⟨#[c]⟩) = ((KWd.scan x).1, (KWd.scan x).2 ++ ⟨#[c]⟩) := by
    rw [KWd.scan_snoc]
    unfold KWd.step
    rw [if_neg (by rw [hc]; decide)]
  have hl : ((KWd.scan x).2 ++ ⟨#[c]⟩).length ≠ 0 := by
    rw [Str.length_append]
    have : PySem.Str.length ⟨#[c]⟩ = 1 := rfl
    omega
  refine ⟨?_, fun _ => rfl, fun h => ?_⟩
  · rw [e]
    show _ = Str.join _ (if ((KWd.scan x).2 ++ ⟨#[c]⟩).length = 0 then _ else (KWd.scan x).1 ++ [(KWd.scan x).2 ++ ⟨#[c]⟩])
    rw [if_neg hl, join_app]
    by_cases h0 : (KWd.scan x).2.length = 0
    · have hw0 : want.length = 0 := by
        rcases hw with hg | hg
        · exact Classical.byContradiction fun hn => by rw [h3 h0 hn] at hg; cases hg
        · exact hg
      have hf : KWd.fin (KWd.scan x) = (KWd.scan x).1 := by unfold KWd.fin; rw [if_pos h0]
      rw [hf] at h1
      have hn : (KWd.scan x).1 = [] := join_len0 _ _ (scan_ne x) (by rw [← h1]; exact hw0)
      rw [hn, KWd.len0 h0, KWd.len0 hw0]
      rfl
    · have hf : KWd.fin (KWd.scan x) = (KWd.scan x).1 ++ [(KWd.scan x).2] := by unfold KWd.fin; rw [if_neg h0]
      rw [h1, hf]
  · rw [e] at h
    exact absurd h hl
end Mine

namespace Mine
open PySem PyProof.Rows PyProof.Rows.FinIter

def letter (c : Nat) : Bool := (65 ≤ c && c ≤ 90) || (97 ≤ c && c ≤ 122)
def lowc (c : Nat) : Nat := if 65 ≤ c ∧ c ≤ 90 then c + 32 else c
def upc (c : Nat) : Nat := if 97 ≤ c ∧ c ≤ 122 then c - 32 else c
def lastLetter (y : Str) : Bool := y.cps.toList.getLast?.any letter
def Asc (x : Str) : Prop := ∀ d ∈ x.cps.toList, d < 128

theorem cased_of {c : Nat} (h : c < 128) : Unicode.isCased c = letter c :=
  (by decide +kernel : ∀ c, c < 128 → Unicode.isCased c = letter c) c h
theorem lower_of {c : Nat} (h : c < 128) : Unicode.lowerOf c = [lowc c] :=
  (by decide +kernel : ∀ c, c < 128 → Unicode.lowerOf c = [lowc c]) c h
theorem title_of {c : Nat} (h : c < 128) : Unicode.titleOf c = [upc c] :=
  (by decide +kernel : ∀ c, c < 128 → Unicode.titleOf c = [upc c]) c h
theorem asc_app {x : Str} {c : Nat} (h : Asc x) (hc : c < 128) : Asc (x ++ ⟨#[c]⟩) := by
  intro d hd
  rw [Str.cps_append, Array.toList_append] at hd
  rcases List.mem_append.mp hd with hd | hd
  · exact h d hd
  · rw [List.mem_singleton.mp hd]; exact hc
theorem lowerAt_of {x : Str} {i c : Nat} (hx : x.cps[i]? = some c) (hc : c < 128) : Unicode.lowerAt x.cps i = [lowc c] := by
  unfold Unicode.lowerAt
  rw [hx]
  have e : (c == 0x3A3) = false := by
    rw [beq_eq_false_iff_ne]
    omega
  simp only [e, Bool.false_and, Bool.false_eq_true, if_false]
  exact lower_of hc
theorem last_at (y : Str) (c : Nat) (hy : Asc y) : (decide (y.length > 0) && ((y ++ ⟨#[c]⟩ : Str).cps[y.length - 1]?).any Unicode.isCased) = lastLetter y := by
  unfold lastLetter
  by_cases h : y.length > 0
  · have hs : 0 < y.cps.size := h
    have e : (y ++ ⟨#[c]⟩ : Str).cps[y.length - 1]? = y.cps.toList.getLast? := by
      rw [Str.cps_append, List.getLast?_eq_getElem?, Array.getElem?_append_left (by show y.cps.size - 1 < _; omega), ← Array.getElem?_toList, Array.length_toList]
      rfl
    rw [e, decide_eq_true h, Bool.true_and]
    cases hl : y.cps.toList.getLast? with
    | none => rfl
    | some d =>
      show Unicode.isCased d = letter d
      exact cased_of (hy d (List.mem_of_getLast? hl))
  · have e : y = Str.empty := KWd.len0 (by omega)
    subst e
    rfl
theorem title_snoc {y : Str} {c : Nat} (hy : Asc y) (hc : c < 128) : Txt.title (y ++ ⟨#[c]⟩) = Txt.title y ++ ⟨#[if lastLetter y then lowc c else upc c]⟩ := by
  refine Str.ext' ?_
  show placed _ _ = placed _ _ ++ #[_]
  unfold placed
  rw [Str.cps_append, Array.mapIdx_append, Array.flatten_append]
  congr 1
  · congr 1
    apply Array.ext
    · simp
    · intro i h1 h2
      have hi : i < y.cps.size := by simpa using h2
      simp only [Array.getElem_mapIdx]
      have e1 : (y.cps ++ (⟨#[c]⟩ : Str).cps)[i - 1]? = y.cps[i - 1]? := Array.getElem?_append_left (by omega)
      have hd : y.cps[i]? = some y.cps[i] := by simp [hi]
      have hlt : y.cps[i] < 128 := hy _ (by simp)
      rw [e1, lowerAt_of (x := y) hd hlt]
      have := lowerAt_of (x := y ++ ⟨#[c]⟩) (i := i) (c := y.cps[i]) (by rw [Str.cps_append, Array.getElem?_append_left hi, hd]) hlt
      rw [Str.cps_append] at this
      rw [this]
  · have e0 : (⟨#[c]⟩ : Str).cps = #[c] := rfl
    rw [e0]
    have key := last_at y c hy
    rw [Str.cps_append] at key
    have hl : Unicode.lowerAt (y.cps ++ #[c]) y.cps.size = [lowc c] := by
      have := lowerAt_of (x := y ++ ⟨#[c]⟩) (i := y.cps.size) (c := c) (by rw [Str.cps_append]; simp) hc
      rw [Str.cps_append] at this
      exact this
    simp only [List.mapIdx_toArray, List.mapIdx_cons, List.mapIdx_nil, Nat.zero_add]
    have key' : (decide (y.cps.size > 0) && ((y.cps ++ #[c])[y.cps.size - 1]?).any Unicode.isCased) = lastLetter y := key
    rw [key', hl, title_of hc]
    cases lastLetter y <;> simp
theorem title_len {y : Str} (hy : Asc y) : (Txt.title y).length = y.length := by
  show (placed _ _).size = y.cps.size
  unfold placed
  rw [Array.size_flatten]
  have e : (y.cps.mapIdx fun i c => (if (decide (i > 0) && (y.cps[i - 1]?).any Unicode.isCased) = true then Unicode.lowerAt y.cps i else Unicode.titleOf c).toArray).map Array.size = Array.replicate y.cps.size 1 := by
    apply Array.ext
    · simp
    · intro i h1 h2
      have hi : i < y.cps.size := by simpa using h2
      have hd : y.cps[i]? = some y.cps[i] := by simp [hi]
      have hlt : y.cps[i] < 128 := hy _ (by simp)
      simp only [Array.getElem_map, Array.getElem_mapIdx, Array.getElem_replicate]
      rw [lowerAt_of (x := y) hd hlt, title_of hlt]
      split <;> rfl
  rw [e]
  simp
end Mine

namespace Mine
open PySem PyProof.Rows PyProof.Rows.FinIter

theorem nosp' {c : Nat} (h1 : 33 ≤ c) (h2 : c ≤ 126) : Unicode.isSpace c = false :=
  (by decide +kernel : ∀ c, c < 127 → 33 ≤ c → Unicode.isSpace c = false) c (by omega) h1
/-- the scan of `_law_due`, said by the title of the words joined -/
def Due (x due : Str) (gap inside : Bool) : Prop :=
  ∃ w : Str, Sq x w gap ∧ Asc w ∧ due = Txt.title w ∧ due.length = w.length ∧ (gap = true → inside = false) ∧ (gap = false → inside = lastLetter w)
theorem due_start : Due Str.empty Str.empty false false :=
  ⟨Str.empty, sq_start, fun _ h => (nomatch h), rfl, rfl, fun _ => rfl, fun _ => rfl⟩
theorem due_blank {x due : Str} {gap inside : Bool} (h : Due x due gap inside) : Due (x ++ ⟨#[32]⟩) due true false := by
  obtain ⟨w, h1, h2, h3, h4, h5, h6⟩ := h
  exact ⟨w, sq_blank (by decide) h1, h2, h3, h4, fun _ => rfl, fun h => (nomatch h)⟩
theorem last_snoc (w : Str) (c : Nat) : lastLetter (w ++ ⟨#[c]⟩) = letter c := by
  unfold lastLetter
  rw [Str.cps_append, Array.toList_append]
  show ((w.cps.toList ++ [c]).getLast?).any letter = letter c
  rw [List.getLast?_concat]
  rfl
theorem len_snoc (w : Str) (c : Nat) : (w ++ ⟨#[c]⟩).length = w.length + 1 := by rw [Str.length_append]; rfl
theorem due_sign {x due due' : Str} {gap inside inside' : Bool} {c d : Nat} (h : Due x due gap inside) (h1 : 33 ≤ c) (h2 : c ≤ 126)
    (hd : d = if inside then lowc c else upc c) (hi : inside' = letter c)
    (hdue : (gap = true ∧ due.length ≠ 0 ∧ due' = due ++ Str.ofString " " ++ ⟨#[d]⟩) ∨ ((gap = false ∨ due.length = 0) ∧ due' = due ++ ⟨#[d]⟩)) :
    Due (x ++ ⟨#[c]⟩) due' false inside' := by
  obtain ⟨w, k1, k2, k3, k4, k5, k6⟩ := h
  have hs := nosp' h1 h2
  have hc : c < 128 := by omega
  have eb : Str.ofString " " = ⟨#[32]⟩ := by decide
  rcases hdue with ⟨hg, hl, e⟩ | ⟨hg, e⟩
  · subst hg
    have hin : inside = false := k5 rfl
    have e1 : Txt.title (w ++ Str.ofString " " ++ ⟨#[c]⟩) = due ++ Str.ofString " " ++ ⟨#[d]⟩ := by
      rw [eb, title_snoc (asc_app k2 (by decide)) hc, title_snoc k2 (by decide), ← k3, last_snoc, hd, hin]
      have e2 : (if lastLetter w = true then lowc 32 else upc 32) = 32 := by split <;> rfl
      rw [e2]
      rfl
    refine ⟨w ++ Str.ofString " " ++ ⟨#[c]⟩, sq_gap hs k1 (by rw [← k4]; exact hl), ?_, ?_, ?_, fun h => (nomatch h), fun _ => ?_⟩
    · rw [eb]; exact asc_app (asc_app k2 (by decide)) hc
    · rw [e, e1]
    · rw [e, eb, len_snoc, len_snoc, len_snoc, len_snoc, k4]
    · rw [hi, last_snoc]
  · have hin : inside = lastLetter w := by
      cases gap with
      | false => exact k6 rfl
      | true =>
        rcases hg with hg | hg
        · cases hg
        · rw [k4] at hg
          rw [k5 rfl, KWd.len0 hg]
          rfl
    have hg' : gap = false ∨ w.length = 0 := by rw [← k4]; exact hg
    refine ⟨w ++ ⟨#[c]⟩, sq_sign hs k1 hg', asc_app k2 hc, ?_, ?_, fun h => (nomatch h), fun _ => ?_⟩
    · rw [e, title_snoc k2 hc, ← k3, hd, hin]
    · rw [e, len_snoc, len_snoc, k4]
    · rw [hi, last_snoc]
theorem due_end {x due : Str} {gap inside : Bool} (h : Due x due gap inside) : due = Txt.title (Txt.join (Str.ofString " ") (KWd.fin (KWd.scan x))) := by
  obtain ⟨w, k1, k2, k3, k4, k5, k6⟩ := h
  rw [k3, k1.1, tjoin]
theorem sq_end {x want : Str} {gap : Bool} (h : Sq x want gap) : want = Txt.join (Str.ofString " ") (KWd.fin (KWd.scan x)) := by
  rw [h.1, tjoin]
end Mine

namespace Mine
open PySem PyProof.Rows PyProof.Rows.FinIter

/-- one turn of `wrapped` -/
def wstep (width : Int) (st : List Str × Str) (w : Str) : List Str × Str :=
  if st.2.length = 0 then (st.1, w) else if (st.2.length : Int) + 1 + (w.length : Int) ≤ width then (st.1, st.2 ++ Str.ofString " " ++ w) else (st.1 ++ [st.2], w)
def wrapS (width : Int) (ws : List Str) : List Str × Str := ws.foldl (wstep width) ([], Str.empty)
def wout (st : List Str × Str) : List Str := if st.2.length = 0 then st.1 else st.1 ++ [st.2]
theorem wrapS_snoc (width : Int) (ws : List Str) (w : Str) : wrapS width (ws ++ [w]) = wstep width (wrapS width ws) w := by
  unfold wrapS
  rw [List.foldl_append]
  rfl
abbrev sl (ws : List Str) (a b : Nat) : List Str := (ws.drop a).take (b - a)
theorem sl_snoc (ws : List Str) {a e : Nat} (ha : a ≤ e) (he : e < ws.length) : sl ws a (e + 1) = sl ws a e ++ [ws[e]] := by
  show (ws.drop a).take (e + 1 - a) = (ws.drop a).take (e - a) ++ [ws[e]]
  rw [show e + 1 - a = (e - a) + 1 by omega, List.take_add_one, List.getElem?_drop, show a + (e - a) = e by omega, List.getElem?_eq_getElem he]
  rfl
theorem sl_len (ws : List Str) {a e : Nat} (ha : a < e) (he : e ≤ ws.length) : sl ws a e ≠ [] := by
  intro h
  have h' := congrArg List.length h
  simp only [List.length_take, List.length_drop, List.length_nil] at h'
  omega
theorem sl_mem {ws : List Str} {a b : Nat} {w : Str} (h : w ∈ sl ws a b) : w ∈ ws := List.mem_of_mem_drop (List.mem_of_mem_take h)

/-- where `_law_lines` stands behind `e` turns -/
def LinesInv (width : Int) (words : List Str) (e : Nat) (want : List Str) (start : Int) : Prop :=
  0 ≤ start ∧ start ≤ (e : Int) ∧ (e < words.length → wrapS width (words.take (e + 1)) = (want, Str.join (Str.ofString " ") (sl words start.toNat (e + 1)))) ∧ (e = words.length → want = wout (wrapS width words))
theorem lines_start (width : Int) (words : List Str) : LinesInv width words 0 [] 0 := by
  refine ⟨by omega, by omega, fun h => ?_, fun h => ?_⟩
  · cases words with
    | nil => exact absurd h (Nat.lt_irrefl _)
    | cons w r => rfl
  · rw [List.eq_nil_of_length_eq_zero h.symm]
    rfl
theorem join_ne {words : List Str} (hn : ∀ w ∈ words, w.length ≠ 0) {a e : Nat} (ha : a < e) (he : e ≤ words.length) : (Str.join (Str.ofString " ") (sl words a e)).length ≠ 0 := by
  intro h
  exact sl_len words ha he (join_len0 _ _ (fun w hw => hn w (sl_mem hw)) h)
theorem blank_len : (Str.ofString " ").length = 1 := by decide
theorem join_sl {words : List Str} {a e : Nat} (ha : a < e) (he : e < words.length) : Str.join (Str.ofString " ") (sl words a (e + 1)) = Str.join (Str.ofString " ") (sl words a e) ++ Str.ofString " " ++ words[e] := by
  rw [sl_snoc words (by omega) he, join_snoc, if_neg (sl_len words ha (by omega))]
theorem sl_one {words : List Str} {e : Nat} (he : e < words.length) : sl words e (e + 1) = [words[e]] := by
  rw [sl_snoc words (Nat.le_refl _) he]
  simp [sl]
theorem lines_last {width : Int} {words want : List Str} {e : Nat} {start : Int} (h : LinesInv width words e want start) (hn : ∀ w ∈ words, w.length ≠ 0) (he : e + 1 = words.length) :
    LinesInv width words (e + 1) (want ++ [Str.join (Str.ofString " ") (sl words start.toNat (e + 1))]) ((e + 1 : Nat) : Int) := by
  obtain ⟨h0, h1, h2, h3⟩ := h
  refine ⟨by omega, by omega, fun hl => by omega, fun _ => ?_⟩
  have h2' := h2 (by omega)
  rw [he, List.take_length] at h2'
  rw [h2', he]
  unfold wout
  rw [if_neg (join_ne hn (by omega) (Nat.le_refl _))]
theorem lines_over {width : Int} {words want : List Str} {e : Nat} {start : Int} (h : LinesInv width words e want start) (hn : ∀ w ∈ words, w.length ≠ 0) (he : e + 1 < words.length)
    (hw : width < ((Str.join (Str.ofString " ") (sl words start.toNat (e + 2))).length : Int)) :
    LinesInv width words (e + 1) (want ++ [Str.join (Str.ofString " ") (sl words start.toNat (e + 1))]) ((e + 1 : Nat) : Int) := by
  obtain ⟨h0, h1, h2, h3⟩ := h
  refine ⟨by omega, by omega, fun hl => ?_, fun hl => by omega⟩
  have h2' := h2 (by omega)
  rw [join_sl (by omega) he, Str.length_append, Str.length_append, blank_len] at hw
  rw [List.take_add_one, List.getElem?_eq_getElem he]
  show wrapS width (words.take (e + 1) ++ [words[e + 1]]) = _
  rw [wrapS_snoc, h2']
  unfold wstep
  rw [if_neg (join_ne hn (by omega) (by omega)), if_neg (by dsimp only; omega)]
  have e1 : ((e + 1 : Nat) : Int).toNat = e + 1 := by omega
  rw [e1, sl_one he]
  rfl
theorem lines_fit {width : Int} {words want : List Str} {e : Nat} {start : Int} (h : LinesInv width words e want start) (hn : ∀ w ∈ words, w.length ≠ 0) (he : e + 1 < words.length)
    (hw : ((Str.join (Str.ofString " ") (sl words start.toNat (e + 2))).length : Int) ≤ width) :
    LinesInv width words (e + 1) want start := by
  obtain ⟨h0, h1, h2, h3⟩ := h
  refine ⟨by omega, by omega, fun hl => ?_, fun hl => by omega⟩
  have h2' := h2 (by omega)
  rw [join_sl (by omega) he, Str.length_append, Str.length_append, blank_len] at hw
  rw [List.take_add_one, List.getElem?_eq_getElem he]
  show wrapS width (words.take (e + 1) ++ [words[e + 1]]) = _
  rw [wrapS_snoc, h2']
  unfold wstep
  rw [if_neg (join_ne hn (by omega) (by omega)), if_pos (by dsimp only; omega), join_sl (by omega) he]
theorem lines_end {width : Int} {words want : List Str} {start : Int} (h : LinesInv width words words.length want start) : want = wout (wrapS width words) := h.2.2.2 rfl
end Mine

namespace Mine
open PySem PyProof.Rows PyProof.Rows.FinIter

def Bl (y : Str) : Prop := ∀ c ∈ y.cps.toList, c = 32
def NoSp (y : Str) : Prop := ∀ c ∈ y.cps.toList, 33 ≤ c ∧ c ≤ 126
theorem nosp {c : Nat} (h1 : 33 ≤ c) (h2 : c ≤ 126) : Unicode.isSpace c = false :=
  (by decide +kernel : ∀ c, c < 127 → 33 ≤ c → Unicode.isSpace c = false) c (by omega) h1
theorem app_list (a y : Str) : (a ++ y).cps.toList = a.cps.toList ++ y.cps.toList := by rw [Str.cps_append, Array.toList_append]
theorem fin_pair (ws : List Str) : KWd.fin (ws, Str.empty) = ws := rfl
theorem fold_bl : ∀ (l : List Nat), (∀ c ∈ l, c = 32) → l ≠ [] → ∀ st : KWd.St, l.foldl KWd.step st = (KWd.fin st, Str.empty)
  | [], _, h, _ => absurd rfl h
  | c :: l, hl, _, st => by
    have hc : c = 32 := hl c (List.mem_cons_self ..)
    subst hc
    rw [List.foldl_cons]
    have e : KWd.step st 32 = (KWd.fin st, Str.empty) := by
      unfold KWd.step KWd.fin
      rw [if_pos (by decide)]
      split
      · rename_i h0
        exact Prod.ext rfl (KWd.len0 h0)
      · rfl
    rw [e]
    by_cases hn : l = []
    · subst hn; rfl
    · rw [fold_bl l (fun d hd => hl d (List.mem_cons_of_mem _ hd)) hn]
      rfl
theorem scan_bl {a y : Str} (hy : Bl y) (hn : y.length ≠ 0) : KWd.scan (a ++ y) = (KWd.fin (KWd.scan a), Str.empty) := by
  have hn' : y.cps.toList ≠ [] := fun h => hn (by
    show y.cps.size = 0
    rw [← Array.length_toList, h]
    rfl)
  have e : KWd.scan (a ++ y) = y.cps.toList.foldl KWd.step (KWd.scan a) := by
    unfold KWd.scan
    rw [app_list, List.foldl_append]
  rw [e, fold_bl _ hy hn']
theorem fold_no : ∀ (l : List Nat), (∀ c ∈ l, 33 ≤ c ∧ c ≤ 126) → ∀ st : KWd.St, l.foldl KWd.step st = (st.1, st.2 ++ ⟨l.toArray⟩)
  | [], _, st => by
    show st = (st.1, st.2 ++ Str.empty)
    exact Prod.ext rfl (Str.ext' (by rw [Str.cps_append]; exact Array.append_empty.symm))
  | c :: l, hl, st => by
    have hc := hl c (List.mem_cons_self ..)
    have e : KWd.step st c = (st.1, st.2 ++ ⟨#[c]⟩) := if_neg (by rw [nosp hc.1 hc.2]; exact Bool.false_ne_true)
    rw [List.foldl_cons, e, fold_no l (fun d hd => hl d (List.mem_cons_of_mem _ hd))]
    refine Prod.ext rfl (Str.ext' (Array.toList_inj.mp ?_))
    simp [Str.cps_append]
theorem scan_no {a y : Str} (hy : NoSp y) : KWd.scan (a ++ y) = ((KWd.scan a).1, (KWd.scan a).2 ++ y) := by
  have e : KWd.scan (a ++ y) = y.cps.toList.foldl KWd.step (KWd.scan a) := by
    unfold KWd.scan
    rw [app_list, List.foldl_append]
  rw [e, fold_no _ hy]

/-- the text's words are `words`; its last word is still open -/
def Bld (text : Str) (words : List Str) : Prop := KWd.fin (KWd.scan text) = words ∧ ((KWd.scan text).2.length = 0 → words = [])
theorem bl_empty {y : Str} (h : y.length = 0) : Bl y := by
  rw [KWd.len0 h]
  exact fun _ h => (nomatch h)
theorem app_empty (a : Str) : a ++ Str.empty = a := Str.ext' (by rw [Str.cps_append]; exact Array.append_empty)
theorem empty_app (a : Str) : Str.empty ++ a = a := Str.ext' (by rw [Str.cps_append]; exact Array.empty_append)
theorem fin_bl {a y : Str} (hy : Bl y) : KWd.fin (KWd.scan (a ++ y)) = KWd.fin (KWd.scan a) := by
  by_cases hn : y.length = 0
  · rw [KWd.len0 hn, app_empty]
  · rw [scan_bl hy hn]
    rfl
theorem bld_start {y : Str} (hy : Bl y) : Bld y [] := by
  have h := fin_bl (a := Str.empty) hy
  rw [empty_app] at h
  exact ⟨h, fun _ => rfl⟩
theorem run_empty {a : Str} (h : KWd.fin (KWd.scan a) = []) : KWd.scan a = ([], Str.empty) := by
  unfold KWd.fin at h
  split at h
  · rename_i h0
    exact Prod.ext h (KWd.len0 h0)
  · exact absurd h (by simp)
theorem bld_first {text w : Str} (h : Bld text []) (hw : NoSp w) (hn : w.length ≠ 0) : Bld (text ++ w) [w] := by
  have e : KWd.scan (text ++ w) = ([], w) := by
    rw [scan_no hw, run_empty h.1, empty_app]
  refine ⟨?_, fun h0 => ?_⟩
  · rw [e]
    show (if w.length = 0 then [] else [] ++ [w]) = [w]
    rw [if_neg hn]
    rfl
  · rw [e] at h0
    exact absurd h0 hn
theorem bld_next {text y w : Str} {words : List Str} (h : Bld text words) (hy : Bl y) (hyn : y.length ≠ 0) (hw : NoSp w) (hn : w.length ≠ 0) : Bld (text ++ y ++ w) (words ++ [w]) := by
  have e : KWd.scan (text ++ y ++ w) = (words, w) := by
    rw [scan_no hw, scan_bl hy hyn, h.1, empty_app]
  refine ⟨?_, fun h0 => ?_⟩
  · rw [e]
    show (if w.length = 0 then words else words ++ [w]) = _
    rw [if_neg hn]
  · rw [e] at h0
    exact absurd h0 hn
theorem bld_end {text y : Str} {words : List Str} (h : Bld text words) (hy : Bl y) : KWd.fin (KWd.scan (text ++ y)) = words := by rw [fin_bl hy, h.1]
/-- texts glued by a blank, blanks ahead of each word -/
theorem bld_join : ∀ (l : List (Str × Str)), (∀ p ∈ l, Bl p.1 ∧ NoSp p.2 ∧ p.2.length ≠ 0) → Bld (Str.join (Str.ofString " ") (l.map fun p => p.1 ++ p.2)) (l.map (·.2)) := by
  refine snoc_ind ?_ ?_
  · intro _
    exact bld_start fun _ h => (nomatch h)
  · intro l p ih h
    have h1 := ih fun q hq => h q (List.mem_append.mpr (.inl hq))
    obtain ⟨p1, p2, p3⟩ := h p (by simp)
    rw [List.map_append, List.map_append]
    show Bld (Str.join _ (l.map _ ++ [p.1 ++ p.2])) (l.map (·.2) ++ [p.2])
    rw [join_snoc]
    by_cases hl : l = []
    · subst hl
      rw [if_pos List.map_nil]
      exact bld_first (bld_start p1) p2 p3
    · rw [if_neg (by simpa using hl), ← Str.append_assoc, Str.append_assoc _ (Str.ofString " ") p.1]
      refine bld_next h1 ?_ ?_ p2 p3
      · intro c hc
        rw [app_list] at hc
        rcases List.mem_append.mp hc with hc | hc
        · have e : (Str.ofString " ").cps.toList = [32] := by decide
          rw [e] at hc
          exact List.mem_singleton.mp hc
        · exact p1 c hc
      · rw [Str.length_append, blank_len]
        omega
end Mine

namespace Mine
open PySem PyProof.Rows PyProof.Rows.FinIter

/-- a block's lines with their marks -/
def deco (f l : Str) : List Str → List Str
  | [] => []
  | x :: r => (f ++ x) :: r.map (l ++ ·)
theorem deco_snoc (f l : Str) (ls : List Str) (x : Str) : deco f l (ls ++ [x]) = deco f l ls ++ [(if ls = [] then f else l) ++ x] := by
  cases ls with
  | nil => rfl
  | cons a r =>
    show (f ++ a) :: (r ++ [x]).map (l ++ ·) = (f ++ a) :: r.map (l ++ ·) ++ _
    rw [List.map_append, if_neg (by simp)]
    rfl
theorem deco_nil {f l : Str} {ls : List Str} : deco f l ls = [] ↔ ls = [] := by
  cases ls with
  | nil => exact ⟨fun _ => rfl, fun _ => rfl⟩
  | cons a r => exact ⟨fun h => (nomatch h), fun h => (nomatch h)⟩
theorem deco_plain (ls : List Str) : deco Str.empty Str.empty ls = ls := by
  cases ls with
  | nil => rfl
  | cons a r =>
    show (Str.empty ++ a) :: r.map (Str.empty ++ ·) = a :: r
    rw [empty_app]
    congr 1
    exact (List.map_congr_left (g := _root_.id) fun c _ => empty_app c).trans (List.map_id _)
/-- one turn of `_law_filled` -/
def fstep (f l : Str) (width : Int) (out : List Str) (w : Str) : List Str :=
  match out.getLast? with
  | none => [f ++ w]
  | some x => if (x.length : Int) + 1 + (w.length : Int) ≤ width then out.dropLast ++ [x ++ Str.ofString " " ++ w] else out ++ [l ++ w]
theorem wrap_ne (width : Int) : ∀ ws : List Str, (∀ w ∈ ws, w.length ≠ 0) → ws ≠ [] → (wrapS width ws).2.length ≠ 0 := by
  refine snoc_ind (fun _ h => absurd rfl h) ?_
  intro ws w _ h _
  rw [wrapS_snoc]
  have hw : w.length ≠ 0 := h w (by simp)
  unfold wstep
  split
  · exact hw
  · split
    · show (_ ++ w).length ≠ 0
      rw [Str.length_append]
      omega
    · exact hw
theorem fill_one {f l : Str} {width p : Int} (hf : (f.length : Int) = p) (hl : (l.length : Int) = p) {ws : List Str} {w : Str} (hn : ∀ x ∈ ws, x.length ≠ 0) (hw : w.length ≠ 0) :
    fstep f l width (deco f l (wout (wrapS (width - p) ws))) w = deco f l (wout (wrapS (width - p) (ws ++ [w]))) := by
  rw [wrapS_snoc]
  by_cases h0 : ws = []
  · subst h0
    show [f ++ w] = deco f l (wout ([], w))
    unfold wout
    rw [if_neg hw]
    rfl
  · have hl0 := wrap_ne (width - p) ws hn h0
    have e : wout (wrapS (width - p) ws) = (wrapS (width - p) ws).1 ++ [(wrapS (width - p) ws).2] := by unfold wout; rw [if_neg hl0]
    rw [e, deco_snoc]
    unfold fstep
    rw [List.getLast?_concat]
    have hlen : (((if (wrapS (width - p) ws).1 = [] then f else l) ++ (wrapS (width - p) ws).2).length : Int) = p + ((wrapS (width - p) ws).2.length : Int) := by
      rw [Str.length_append]
      split <;> omega
    simp only [hlen]
    have e3 : wstep (width - p) (wrapS (width - p) ws) w = if p + ((wrapS (width - p) ws).2.length : Int) + 1 + (w.length : Int) ≤ width then ((wrapS (width - p) ws).1, (wrapS (width - p) ws).2 ++ Str.ofString " " ++ w) else ((wrapS (width - p) ws).1 ++ [(wrapS (width - p) ws).2], w) := by
      unfold wstep
      rw [if_neg hl0]
      congr 1
      exact propext ⟨fun h => by omega, fun h => by omega⟩
    rw [e3]
    generalize wrapS (width - p) ws = st at hl0 ⊢
    split
    · have hne : ¬ (st.2 ++ Str.ofString " " ++ w).length = 0 := by rw [Str.length_append]; omega
      rw [List.dropLast_concat]
      unfold wout
      rw [if_neg hne, deco_snoc]
      simp only [Str.append_assoc]
    · unfold wout
      rw [if_neg hw]
      show _ = deco f l (st.1 ++ [st.2] ++ [w])
      rw [deco_snoc, deco_snoc, if_neg (show ¬ (st.1 ++ [st.2] = []) by simp)]

/-- scanning behind words that are closed -/
theorem fold_ahead : ∀ (l : List Nat) (ws : List Str) (st : KWd.St), l.foldl KWd.step (ws ++ st.1, st.2) = (ws ++ (l.foldl KWd.step st).1, (l.foldl KWd.step st).2)
  | [], _, _ => rfl
  | c :: l, ws, st => by
    rw [List.foldl_cons, List.foldl_cons, ← fold_ahead l ws]
    congr 1
    unfold KWd.step
    split
    · split
      · rfl
      · show (ws ++ st.1 ++ [st.2], _) = (ws ++ (st.1 ++ [st.2]), _)
        rw [List.append_assoc]
    · rfl
theorem fin_ahead {a : Str} {ws : List Str} (h : KWd.scan a = (ws, Str.empty)) (x : Str) : KWd.fin (KWd.scan (a ++ x)) = ws ++ KWd.fin (KWd.scan x) := by
  have e : KWd.scan (a ++ x) = (ws ++ (KWd.scan x).1, (KWd.scan x).2) := by
    have e1 : KWd.scan (a ++ x) = x.cps.toList.foldl KWd.step (KWd.scan a) := by
      unfold KWd.scan
      rw [app_list, List.foldl_append]
    rw [e1, h]
    have := fold_ahead x.cps.toList ws ([], Str.empty)
    rw [List.append_nil] at this
    exact this
  rw [e]
  unfold KWd.fin
  split
  · rfl
  · show ws ++ (KWd.scan x).1 ++ _ = _
    rw [List.append_assoc]

/-- title of a text behind a blank -/
theorem title_blank {y : Str} (hy : Asc y) : ∀ {w : Str}, Asc w → Txt.title (y ++ Str.ofString " " ++ w) = Txt.title y ++ Str.ofString " " ++ Txt.title w ∧ (w.length ≠ 0 → lastLetter (y ++ Str.ofString " " ++ w) = lastLetter w) ∧ (w.length = 0 → lastLetter (y ++ Str.ofString " " ++ w) = false) := by
  have eb : Str.ofString " " = ⟨#[32]⟩ := by decide
  have base : Txt.title (y ++ Str.ofString " ") = Txt.title y ++ Str.ofString " " := by
    rw [eb, title_snoc hy (by decide)]
    have e2 : (if lastLetter y = true then lowc 32 else upc 32) = 32 := by split <;> rfl
    rw [e2]
  have key : ∀ l : List Nat, (∀ c ∈ l, c < 128) → Txt.title (y ++ Str.ofString " " ++ ⟨l.toArray⟩) = Txt.title y ++ Str.ofString " " ++ Txt.title ⟨l.toArray⟩ ∧ lastLetter (y ++ Str.ofString " " ++ ⟨l.toArray⟩) = lastLetter ⟨l.toArray⟩ := by
    refine snoc_ind ?_ ?_
    · intro _
      refine ⟨?_, ?_⟩
      · show Txt.title (y ++ Str.ofString " " ++ Str.empty) = _ ++ Str.empty
        rw [app_empty, app_empty, base]
      · show lastLetter (y ++ Str.ofString " " ++ Str.empty) = false
        rw [app_empty, eb]
        unfold lastLetter
        rw [app_list]
        show ((y.cps.toList ++ [32]).getLast?).any letter = false
        rw [List.getLast?_concat]
        rfl
    · intro l c ih h
      obtain ⟨i1, i2⟩ := ih fun d hd => h d (List.mem_append.mpr (.inl hd))
      have hc : c < 128 := h c (by simp)
      have e : (⟨(l ++ [c]).toArray⟩ : Str) = ⟨l.toArray⟩ ++ ⟨#[c]⟩ := Str.ext' (by rw [Str.cps_append]; simp)
      have ha : Asc (⟨l.toArray⟩ : Str) := fun d hd => h d (List.mem_append.mpr (.inl (by simpa using hd)))
      have ha2 : Asc (y ++ Str.ofString " " ++ ⟨l.toArray⟩) := by
        intro d hd
        rw [app_list, app_list] at hd
        rcases List.mem_append.mp hd with hd | hd
        · rcases List.mem_append.mp hd with hd | hd
          · exact hy d hd
          · have e : (Str.ofString " ").cps.toList = [32] := by decide
            rw [e] at hd
            rw [List.mem_singleton.mp hd]
            decide
        · exact ha d hd
      refine ⟨?_, ?_⟩
      · rw [e, ← Str.append_assoc, title_snoc ha2 hc, title_snoc ha hc, i1, i2, Str.append_assoc]
      · rw [e, ← Str.append_assoc]
        unfold lastLetter
        rw [app_list, app_list _ ⟨#[c]⟩]
        show ((_ ++ [c]).getLast?).any letter = ((_ ++ [c]).getLast?).any letter
        rw [List.getLast?_concat, List.getLast?_concat]
  intro w hw
  have ew : w = ⟨w.cps.toList.toArray⟩ := Str.ext' (by simp)
  obtain ⟨k1, k2⟩ := key w.cps.toList hw
  rw [← ew] at k1 k2
  refine ⟨k1, fun _ => k2, fun h => ?_⟩
  rw [k2, KWd.len0 h]
  rfl
theorem asc_join : ∀ (ws : List Str), (∀ w ∈ ws, Asc w) → Asc (Str.join (Str.ofString " ") ws) := by
  refine snoc_ind (fun _ _ h => (nomatch h)) ?_
  intro ws w ih h
  rw [join_snoc]
  split
  · exact h w (by simp)
  · have i1 := ih fun d hd => h d (List.mem_append.mpr (.inl hd))
    intro d hd
    rw [app_list, app_list] at hd
    rcases List.mem_append.mp hd with hd | hd
    · rcases List.mem_append.mp hd with hd | hd
      · exact i1 d hd
      · have e : (Str.ofString " ").cps.toList = [32] := by decide
        rw [e] at hd
        rw [List.mem_singleton.mp hd]
        decide
    · exact h w (by simp) d hd
theorem title_join : ∀ (ws : List Str), (∀ w ∈ ws, Asc w) → Txt.title (Str.join (Str.ofString " ") ws) = Str.join (Str.ofString " ") (ws.map Txt.title) := by
  refine snoc_ind (fun _ => rfl) ?_
  intro ws w ih h
  have i1 := ih fun d hd => h d (List.mem_append.mpr (.inl hd))
  rw [List.map_append]
  show _ = Str.join _ (ws.map Txt.title ++ [Txt.title w])
  rw [join_snoc, join_snoc]
  by_cases h0 : ws = []
  · subst h0
    rfl
  · rw [if_neg h0, if_neg (by simpa using h0), (title_blank (asc_join ws fun d hd => h d (List.mem_append.mpr (.inl hd))) (h w (by simp))).1, i1]
theorem title_nosp : ∀ {w : Str}, NoSp w → NoSp (Txt.title w) := by
  have key : ∀ l : List Nat, (∀ c ∈ l, 33 ≤ c ∧ c ≤ 126) → NoSp (Txt.title ⟨l.toArray⟩) := by
    refine snoc_ind (fun _ _ h => (nomatch h)) ?_
    intro l c ih h
    have i1 := ih fun d hd => h d (List.mem_append.mpr (.inl hd))
    have hc := h c (by simp)
    have e : (⟨(l ++ [c]).toArray⟩ : Str) = ⟨l.toArray⟩ ++ ⟨#[c]⟩ := Str.ext' (by rw [Str.cps_append]; simp)
    have ha : Asc (⟨l.toArray⟩ : Str) := fun d hd => by
      have := h d (List.mem_append.mpr (.inl (by simpa using hd)))
      omega
    rw [e, title_snoc ha (by omega)]
    intro d hd
    rw [app_list] at hd
    rcases List.mem_append.mp hd with hd | hd
    · exact i1 d hd
    · have hd' : d = if lastLetter ⟨l.toArray⟩ = true then lowc c else upc c := List.mem_singleton.mp hd
      rw [hd']
      unfold lowc upc
      split <;> split <;> omega
  intro w hw
  have ew : w = ⟨w.cps.toList.toArray⟩ := Str.ext' (by simp)
  have := key w.cps.toList hw
  rw [← ew] at this
  exact this
end Mine

namespace Mine
open PySem PyProof.Rows PyProof.Rows.FinIter

theorem step_asc : ∀ (l : List Nat) (st : KWd.St), (∀ c ∈ l, c < 128) → (∀ w ∈ st.1, Asc w) → Asc st.2 → (∀ w ∈ (l.foldl KWd.step st).1, Asc w) ∧ Asc (l.foldl KWd.step st).2
  | [], _, _, h1, h2 => ⟨h1, h2⟩
  | c :: l, st, hl, h1, h2 => by
    rw [List.foldl_cons]
    apply step_asc l _ fun d hd => hl d (List.mem_cons_of_mem _ hd)
    · intro w hw
      unfold KWd.step at hw
      split at hw
      · split at hw
        · exact h1 w hw
        · simp only [List.mem_append, List.mem_singleton] at hw
          rcases hw with hw | rfl
          · exact h1 w hw
          · exact h2
      · exact h1 w hw
    · unfold KWd.step
      split
      · split
        · exact h2
        · exact fun _ h => (nomatch h)
      · exact asc_app h2 (hl c (List.mem_cons_self ..))
theorem scan_asc {x : Str} (h : Asc x) : (∀ w ∈ (KWd.scan x).1, Asc w) ∧ Asc (KWd.scan x).2 :=
  step_asc _ _ h (fun _ h => (nomatch h)) fun _ h => (nomatch h)
theorem fin_asc {x : Str} (h : Asc x) : ∀ w ∈ KWd.fin (KWd.scan x), Asc w := by
  intro w hw
  unfold KWd.fin at hw
  split at hw
  · exact (scan_asc h).1 w hw
  · simp only [List.mem_append, List.mem_singleton] at hw
    rcases hw with hw | rfl
    · exact (scan_asc h).1 w hw
    · exact (scan_asc h).2
theorem asc_add {x y : Str} (hx : Asc x) (hy : Asc y) : Asc (x ++ y) := by
  intro d hd
  rw [app_list] at hd
  exact (List.mem_append.mp hd).elim (hx d) (hy d)
theorem asc_blank : Asc (Str.ofString " ") := by
  have e : (Str.ofString " ").cps.toList = [32] := by decide
  intro d hd
  rw [e] at hd
  rw [List.mem_singleton.mp hd]
  decide
theorem asc_empty : Asc Str.empty := fun _ h => (nomatch h)
theorem asc_nosp {x : Str} (h : NoSp x) : Asc x := fun d hd => by
  have := h d hd
  omega
theorem asc_bl {x : Str} (h : Bl x) : Asc x := fun d hd => by
  rw [h d hd]
  decide
theorem wrap_asc (width : Int) : ∀ ws : List Str, (∀ w ∈ ws, Asc w) → (∀ w ∈ (wrapS width ws).1, Asc w) ∧ Asc (wrapS width ws).2 := by
  refine snoc_ind (fun _ => ⟨fun _ h => (nomatch h), fun _ h => (nomatch h)⟩) ?_
  intro ws w ih h
  obtain ⟨i1, i2⟩ := ih fun d hd => h d (List.mem_append.mpr (.inl hd))
  have hw : Asc w := h w (by simp)
  rw [wrapS_snoc]
  unfold wstep
  split
  · exact ⟨i1, hw⟩
  · split
    · exact ⟨i1, asc_add (asc_add i2 asc_blank) hw⟩
    · refine ⟨?_, hw⟩
      intro v hv
      rcases List.mem_append.mp hv with hv | hv
      · exact i1 v hv
      · rw [List.mem_singleton.mp hv]
        exact i2
theorem wout_asc {width : Int} {ws : List Str} (h : ∀ w ∈ ws, Asc w) : ∀ w ∈ wout (wrapS width ws), Asc w := by
  obtain ⟨i1, i2⟩ := wrap_asc width ws h
  intro v hv
  unfold wout at hv
  split at hv
  · exact i1 v hv
  · rcases List.mem_append.mp hv with hv | hv
    · exact i1 v hv
    · rw [List.mem_singleton.mp hv]
      exact i2
end Mine

namespace Mine
open PySem PyProof.Rows PyProof.Rows.FinIter

theorem rstrip_list (x : Str) : (Txt.rstrip x).cps.toList = (x.cps.toList.reverse.dropWhile Unicode.isSpace).reverse := by
  have key : (Builtin.Str.strSub x 0 (x.length - (x.cps.toList.reverse.takeWhile Unicode.isSpace).length)).cps.toList = (x.cps.toList.reverse.dropWhile Unicode.isSpace).reverse := by
    have e : x.cps.toList.length = x.length := by simp [Str.length]
    have h1 : x.cps.toList.reverse = x.cps.toList.reverse.takeWhile Unicode.isSpace ++ x.cps.toList.reverse.dropWhile Unicode.isSpace := List.takeWhile_append_dropWhile.symm
    have h2 := congrArg List.reverse h1
    rw [List.reverse_reverse, List.reverse_append] at h2
    have h3 : (x.cps.toList.reverse.dropWhile Unicode.isSpace).reverse.length = x.length - (x.cps.toList.reverse.takeWhile Unicode.isSpace).length := by
      have := congrArg List.length h2
      rw [e, List.length_append, List.length_reverse, List.length_reverse] at this
      rw [List.length_reverse]
      omega
    show (x.cps.extract 0 _).toList = _
    rw [Array.toList_extract, List.extract_eq_take_drop, List.drop_zero, Nat.sub_zero, ← h3]
    generalize (x.cps.toList.reverse.dropWhile Unicode.isSpace).reverse = a at h2 ⊢
    rw [h2, List.take_left]
  unfold Txt.rstrip Txt.stripBy
  split
  · rename_i h
    simp only [stripSame, stripLo, stripHi, Bool.false_eq_true, if_false, if_true, List.drop_zero, beq_self_eq_true, Bool.true_and, beq_iff_eq] at h
    rw [h] at key
    rw [← key]
    show _ = (x.cps.extract 0 x.length).toList
    simp [Str.length]
  · show (Builtin.Str.strSub x (stripLo Unicode.isSpace false x) (stripHi Unicode.isSpace true x (stripLo Unicode.isSpace false x))).cps.toList = _
    simp only [stripLo, stripHi, Bool.false_eq_true, if_false, if_true, List.drop_zero]
    exact key
theorem dw_nil : ∀ {l : List Nat}, (∀ c ∈ l, Unicode.isSpace c = true) → l.dropWhile Unicode.isSpace = []
  | [], _ => rfl
  | c :: r, h => by
    rw [List.dropWhile_cons_of_pos (h c (List.mem_cons_self ..))]
    exact dw_nil fun d hd => h d (List.mem_cons_of_mem _ hd)
/-- its last sign is there and is no blank -/
def Ends (x : Str) : Prop := ∃ c, x.cps.toList.getLast? = some c ∧ Unicode.isSpace c = false
theorem rstrip_bl {x y : Str} (hx : Ends x) (hy : Bl y) : Txt.rstrip (x ++ y) = x := by
  refine Str.ext' (Array.toList_inj.mp ?_)
  obtain ⟨c, hc, hs⟩ := hx
  rw [rstrip_list, app_list, List.reverse_append, List.dropWhile_append, dw_nil (by
    intro d hd
    rw [hy d (List.mem_reverse.mp hd)]
    decide)]
  have e : x.cps.toList.reverse.dropWhile Unicode.isSpace = x.cps.toList.reverse := by
    have hh : x.cps.toList.reverse.head? = some c := by rw [List.head?_reverse]; exact hc
    cases hr : x.cps.toList.reverse with
    | nil => rfl
    | cons d r =>
      rw [hr] at hh
      have : d = c := Option.some.inj hh
      subst this
      rw [List.dropWhile_cons_of_neg (by rw [hs]; decide)]
  simp only [List.isEmpty_nil, if_true]
  rw [e, List.reverse_reverse]
theorem bl_mul (n : Int) : Bl (Txt.mul (Str.ofString " ") n) := by
  intro c hc
  rw [show Str.ofString " " = ⟨#[32]⟩ by decide, mul_one_list] at hc
  exact List.eq_of_mem_replicate hc
theorem mul_len (n : Int) : (Txt.mul (Str.ofString " ") n).length = n.toNat := by
  show (Txt.mul (Str.ofString " ") n).cps.size = _
  rw [← Array.length_toList, show Str.ofString " " = ⟨#[32]⟩ by decide, mul_one_list, List.length_replicate]
theorem ends_app {x y : Str} (hy : Ends y) : Ends (x ++ y) := by
  obtain ⟨c, hc, hs⟩ := hy
  refine ⟨c, ?_, hs⟩
  rw [app_list, List.getLast?_append, hc]
  rfl
theorem ends_nosp {x : Str} (hx : NoSp x) (hn : x.length ≠ 0) : Ends x := by
  cases hl : x.cps.toList.getLast? with
  | none =>
    rw [List.getLast?_eq_none_iff] at hl
    exact absurd (show x.cps.size = 0 by rw [← Array.length_toList, hl]; rfl) hn
  | some c =>
    have := hx c (List.mem_of_getLast? hl)
    exact ⟨c, hl, nosp this.1 this.2⟩
theorem wrap_ends (width : Int) : ∀ ws : List Str, (∀ w ∈ ws, Ends w) → (∀ w ∈ (wrapS width ws).1, Ends w) ∧ ((wrapS width ws).2.length ≠ 0 → Ends (wrapS width ws).2) := by
  refine snoc_ind (fun _ => ⟨fun _ h => (nomatch h), fun h => absurd rfl h⟩) ?_
  intro ws w ih h
  obtain ⟨i1, i2⟩ := ih fun d hd => h d (List.mem_append.mpr (.inl hd))
  have hw : Ends w := h w (by simp)
  rw [wrapS_snoc]
  unfold wstep
  split
  · exact ⟨i1, fun _ => hw⟩
  · rename_i h0
    split
    · exact ⟨i1, fun _ => ends_app hw⟩
    · refine ⟨?_, fun _ => hw⟩
      intro v hv
      rcases List.mem_append.mp hv with hv | hv
      · exact i1 v hv
      · rw [List.mem_singleton.mp hv]
        exact i2 h0
theorem wout_ends {width : Int} {ws : List Str} (h : ∀ w ∈ ws, Ends w) : ∀ w ∈ wout (wrapS width ws), Ends w := by
  obtain ⟨i1, i2⟩ := wrap_ends width ws h
  intro v hv
  unfold wout at hv
  split at hv
  · exact i1 v hv
  · rename_i h0
    rcases List.mem_append.mp hv with hv | hv
    · exact i1 v hv
    · rw [List.mem_singleton.mp hv]
      exact i2 h0
end Mine

namespace Mine
open PySem PyProof.Rows PyProof.Rows.FinIter

def wt (st : KWd.St) : Nat := (st.1.map fun w => w.length + 1).sum + st.2.length
theorem step_wt (st : KWd.St) (c : Nat) : wt (KWd.step st c) ≤ wt st + 1 := by
  unfold KWd.step wt
  split
  · split
    · omega
    · rw [List.map_append, List.sum_append]
      show _ + (st.2.length + 1 + 0) + 0 ≤ _
      omega
  · show (st.1.map fun w => w.length + 1).sum + (st.2 ++ ⟨#[c]⟩).length ≤ _
    rw [Str.length_append]
    show _ + (st.2.length + 1) ≤ _
    omega
theorem fold_wt : ∀ (l : List Nat) (st : KWd.St), wt (l.foldl KWd.step st) ≤ wt st + l.length
  | [], _ => Nat.le_refl _
  | c :: l, st => by
    rw [List.foldl_cons, List.length_cons]
    have h1 := fold_wt l (KWd.step st c)
    have h2 := step_wt st c
    omega
theorem sum_succ : ∀ l : List Str, (l.map fun w => w.length + 1).sum = (l.map (·.length)).sum + l.length
  | [] => rfl
  | a :: r => by
    rw [List.map_cons, List.sum_cons, List.map_cons, List.sum_cons, List.length_cons, sum_succ r]
    omega
theorem fin_weight (x : Str) : ((KWd.fin (KWd.scan x)).map (·.length)).sum + (KWd.fin (KWd.scan x)).length ≤ x.length + 1 := by
  have h : wt (KWd.scan x) ≤ x.length := by
    have := fold_wt x.cps.toList ([], Str.empty)
    rw [Array.length_toList] at this
    have e : wt ([], Str.empty) = 0 := rfl
    rw [e, Nat.zero_add] at this
    exact this
  unfold wt at h
  rw [sum_succ] at h
  unfold KWd.fin
  split
  · omega
  · rw [List.map_append, List.sum_append, List.length_append]
    show _ + ((KWd.scan x).2.length + 0) + (_ + 1) ≤ _
    omega
theorem sum_bound {B : Nat} : ∀ l : List Str, (∀ w ∈ l, w.length ≤ B) → (l.map (·.length)).sum ≤ B * l.length
  | [], _ => Nat.le_refl _
  | a :: r, h => by
    have h1 := sum_bound r fun w hw => h w (.tail _ hw)
    have h2 := h a (.head _)
    rw [List.map_cons, List.sum_cons, List.length_cons, Nat.mul_succ]
    omega
end Mine

namespace Mine
open PySem PyProof.Rows PyProof.Rows.FinIter

theorem none_eq : Str.ofString "" = Str.empty := by decide
theorem nosp_add {x y : Str} (hx : NoSp x) (hy : NoSp y) : NoSp (x ++ y) := by
  intro d hd
  rw [app_list] at hd
  exact (List.mem_append.mp hd).elim (hx d) (hy d)
theorem nosp_join : ∀ (l : List Str), (∀ x ∈ l, NoSp x) → NoSp (Txt.join (Str.ofString "") l) := by
  intro l
  rw [tjoin]
  revert l
  refine snoc_ind (fun _ _ h => (nomatch h)) ?_
  intro l a ih h
  rw [join_snoc]
  split
  · exact h a (by simp)
  · rw [none_eq, app_empty]
    rw [none_eq] at ih
    exact nosp_add (ih fun x hx => h x (List.mem_append.mpr (.inl hx))) (h a (by simp))
theorem nosp_one {c : Nat} (h1 : 33 ≤ c) (h2 : c ≤ 126) : NoSp ⟨#[c]⟩ := by
  intro d hd
  rw [List.mem_singleton.mp hd]
  exact ⟨h1, h2⟩
theorem nosp_len {w : Str} : NoSp w → w.length = w.length := fun _ => rfl
/-- the words of a title of joined words -/
theorem title_words {ws : List Str} (h : ∀ w ∈ ws, NoSp w ∧ w.length ≠ 0) : KWd.fin (KWd.scan (Txt.title (Txt.join (Str.ofString " ") ws))) = ws.map Txt.title := by
  rw [tjoin, title_join ws fun w hw => asc_nosp (h w hw).1]
  have key := bld_join (ws.map fun w => (Str.empty, Txt.title w)) (by
    intro p hp
    obtain ⟨w, hw, rfl⟩ := List.mem_map.mp hp
    exact ⟨bl_empty rfl, title_nosp (h w hw).1, by rw [title_len (asc_nosp (h w hw).1)]; exact (h w hw).2⟩)
  rw [List.map_map, List.map_map] at key
  have e : ws.map ((fun p : Str × Str => p.1 ++ p.2) ∘ fun w => (Str.empty, Txt.title w)) = ws.map Txt.title := List.map_congr_left fun w _ => empty_app _
  rw [e] at key
  exact key.1
/-- the words of a text that was joined of blanks and words -/
theorem built_words {α : Type} (g : α → Str) (b : α → Int) {cs : List α} (h : ∀ c ∈ cs, NoSp (g c) ∧ (g c).length ≠ 0) (n : Int) :
    KWd.fin (KWd.scan (Txt.join (Str.ofString " ") (cs.map fun c => Txt.mul (Str.ofString " ") (b c) ++ g c) ++ Txt.mul (Str.ofString " ") n)) = cs.map g := by
  have key := bld_join (cs.map fun c => (Txt.mul (Str.ofString " ") (b c), g c)) (by
    intro p hp
    obtain ⟨c, hc, rfl⟩ := List.mem_map.mp hp
    exact ⟨bl_mul _, (h c hc).1, (h c hc).2⟩)
  rw [List.map_map, List.map_map] at key
  rw [tjoin]
  exact bld_end key (bl_mul n)
theorem deco_item (f l : Str) (ls : List Str) : (ls.take 1).map (f ++ ·) ++ (ls.drop 1).map (l ++ ·) = deco f l ls := by
  cases ls with
  | nil => rfl
  | cons a r => rfl
theorem deco_quote (f : Str) (ls : List Str) : ls.map (f ++ ·) = deco f f ls := by
  cases ls with
  | nil => rfl
  | cons a r => rfl
theorem note_words (x : Str) {a w : Str} (h : KWd.scan a = ([w], Str.empty)) : KWd.fin (KWd.scan (a ++ x)) = w :: KWd.fin (KWd.scan x) := fin_ahead h x
theorem note_scan : KWd.scan (Str.ofString "NOTE: ") = ([Str.ofString "NOTE:"], Str.empty) := by decide +kernel
theorem warn_scan : KWd.scan (Str.ofString "WARN: ") = ([Str.ofString "WARN:"], Str.empty) := by decide +kernel
end Mine

namespace Mine
open PySem PyProof.Rows PyProof.Rows.FinIter

theorem mul_list (n : Int) : (Txt.mul (Str.ofString " ") n).cps.toList = List.replicate n.toNat 32 := by
  rw [show Str.ofString " " = ⟨#[32]⟩ by decide, mul_one_list]
/-- a heading's line: centred, its right blanks gone -/
theorem heading_line {x : Str} {i : Int} (hx : Ends x) : Txt.rstrip (Txt.center x i) = Txt.mul (Str.ofString " ") (Int.fdiv (i - (x.length : Int) + Int.fmod i 2) 2) ++ x := by
  have f1 : Int.fmod i 2 = i % 2 := Int.fmod_eq_emod_of_nonneg _ (by decide)
  have f2 : ∀ z : Int, Int.fdiv z 2 = z / 2 := fun z => Int.fdiv_eq_ediv_of_nonneg _ (by decide)
  rw [f1, f2]
  unfold Txt.center
  split
  · rename_i h
    have e : Txt.mul (Str.ofString " ") ((i - (x.length : Int) + i % 2) / 2) = Str.empty := KWd.len0 (by rw [mul_len]; omega)
    rw [e, empty_app]
    have := rstrip_bl hx (bl_empty (y := Str.empty) rfl)
    rw [app_empty] at this
    exact this
  · rename_i h
    have hl : (i.toNat - x.length) / 2 + (if ((i.toNat - x.length) % 2 == 1 && i.toNat % 2 == 1) = true then 1 else 0) = ((i - (x.length : Int) + i % 2) / 2).toNat := by
      by_cases c : (i - (x.length : Int)) % 2 = 1 ∧ i % 2 = 1
      · rw [if_pos (by rw [Bool.and_eq_true, beq_iff_eq, beq_iff_eq]; omega)]
        omega
      · rw [if_neg (by rw [Bool.and_eq_true, beq_iff_eq, beq_iff_eq]; omega)]
        omega
    have e : centred x i.toNat 32 = (Txt.mul (Str.ofString " ") ((i - (x.length : Int) + i % 2) / 2) ++ x) ++ ⟨Array.replicate ((i.toNat - x.length) - ((i.toNat - x.length) / 2 + (if ((i.toNat - x.length) % 2 == 1 && i.toNat % 2 == 1) = true then 1 else 0))) 32⟩ := by
      refine Str.ext' (Array.toList_inj.mp ?_)
      rw [app_list, app_list, mul_list, ← hl]
      show (Array.replicate _ 32 ++ x.cps ++ Array.replicate _ 32).toList = _
      rw [Array.toList_append, Array.toList_append, Array.toList_replicate, Array.toList_replicate]
    rw [e]
    refine rstrip_bl (ends_app hx) ?_
    intro c hc
    rw [Array.toList_replicate] at hc
    exact List.eq_of_mem_replicate hc
end Mine

namespace Mine
open PySem PySem.W PySem.Calls PyProof.Rows PyProof.V PySem.Spec

theorem st_lay : ∀ ns : List Str, (∀ x ∈ ns, PyData.strOk x = true) → PyData.canLayAll0 (ns.map PyData.str) = true
  | [], _ => rfl
  | x :: r, h => by simp [PyData.canLayAll0, PyData.canLay0, h x (.head _), st_lay r fun y hy => h y (.tail _ hy)]
theorem st_depth : ∀ ns : List Str, PyData.depthAll (ns.map PyData.str) = 0
  | [] => rfl
  | _ :: r => by simp [PyData.depthAll, PyData.depth, st_depth r]
theorem st_shaped (ns : List Str) (h : ∀ x ∈ ns, PyData.strOk x = true) : SeqAt.shaped (.list (ns.map PyData.str)) = true := by
  simp [SeqAt.shaped, PyData.canLay0, PyData.depth, st_lay ns h, st_depth]
theorem st_same : ∀ ns : List Str, PySem.Spec.sameAll (ns.map PyData.str) (ns.map PyData.str) = true
  | [] => by simp [PySem.Spec.sameAll]
  | a :: r => by simp [PySem.Spec.sameAll, PySem.Spec.same, st_same r]
section
variable {prog : Program} {w : World} {A : Around} {E : Value → Shared → Prop} {s : Shared} {h₀ : Heap} {L l a b D : Addr} {m : Str → Option Value} {news : List (Addr × Obj)} {value slice : PySem.Expr} {vs xs ys : List Value} {ns ms : List Str} {vl vu : Value} {lo hi : Option Int} {x y : Int} {sep : Str} {t : Tok} {Q : Value → Shared → Prop}
/-- two lists of the same texts are not unequal -/
theorem st_ne (ha : s.heap.IsList a xs.toArray) (hb : s.heap.IsList b ys.toArray) (hi : StrsAre xs ns) (hj : StrsAre ys ms) (hok : ∀ x ∈ ns, PyData.strOk x = true) (hu : A.units + 64 < cLine) (e : ns = ms) (h : Q (.bool false) s) :
    wpAny (model prog w) A (compareOp .NotEq (.ref a) (.ref b)) Q E s := by
  subst e
  refine ne_dataH_same (reads_newData ha hi.carried) (reads_newData hb hj.carried) (st_shaped _ hok) (st_shaped _ hok) hu (SeqAt.noMix_of_shape (.list .str) rfl _ _ (list_map_has fun _ => rfl) (list_map_has fun _ => rfl)) ?_
  have e : PySem.Spec.same (.list (ns.map PyData.str)) (.list (ns.map PyData.str)) = true := by
    simp only [PySem.Spec.same]
    exact st_same ns
  rw [e]
  exact h
theorem st_neP {z : Str} {tz : Tok} (ha : s.heap.IsList a xs.toArray) (hb : s.heap.IsList b (ys.toArray.push (.str z tz))) (hi : StrsAre xs ns) (hj : StrsAre ys ms) (hok : ∀ x ∈ ns, PyData.strOk x = true) (hu : A.units + 64 < cLine) (e : ns = ms ++ [z]) (h : Q (.bool false) s) :
    wpAny (model prog w) A (compareOp .NotEq (.ref a) (.ref b)) Q E s := by
  rw [List.push_toArray] at hb
  exact st_ne ha hb hi (hj.append' (.cons z tz .nil)) hok hu e h
theorem st_push {us : List Value} {ws : List Str} {z : Str} {tz : Tok} (h : StrsAre us ws) : StrsAre (us.toArray.push (.str z tz)).toList (ws ++ [z]) := by
  simpa using h.append' (.cons z tz .nil)
theorem st_slice (F : Fr h₀ L s.heap m) (N : News h₀ L s.heap news) (hl : s.heap.IsList l vs.toArray) (pl : IsPart vl lo) (pu : IsPart vu hi) (hm : StrsAre (slicePick vs.toArray lo hi none).toList ms)
    (h : ∀ D ws h', Fr h₀ L h' m → News h₀ L h' ((D, listOf (List.toArray ws) 0) :: news) → (∀ p ∈ news, p.1 < D) → StrsAre ws ms → Q (.ref D) { s with heap := h' })
    (hs : subscripted slice false (.ref l) (.ref s.heap.objs.size) = operate [.ref s.heap.objs.size, .ref l] (getItem (.ref l) (.ref s.heap.objs.size))) (ht : ∀ r, letTemporaryGo value (.ref l) r = pure ()) (hz : vs.toArray.size ≤ sizeLine) :
    wpAny (model prog w) A (subscriptTail value slice (.ref l) (.ref s.heap.objs.size)) Q E { s with heap := s.heap.push { cls := .type "slice", data := .fields #[vl, vu, .none] } } := by
  refine kmk_slice F N hl pl pu (fun D h' F' N' l1 => h D (slicePick vs.toArray lo hi none).toList h' F' ?_ l1 hm) hs ht hz
  rw [Array.toArray_toList]
  exact N'
theorem st_run (hi' : StrsAre vs ns) (h : 0 ≤ x) (h2 : 0 ≤ y) : StrsAre (slicePick vs.toArray (some x) (some y) none).toList ((ns.drop x.toNat).take (y.toNat - x.toNat)) := by
  have e : sliceBounds (some x) (some y) none vs.toArray.size = (((min x.toNat vs.toArray.size : Nat) : Int), ((min y.toNat vs.toArray.size : Nat) : Int), 1) := by
    simp only [sliceBounds, Option.getD_none, show (1 : Int) > 0 by decide, if_true, if_neg (show ¬ (x < 0) by omega), if_neg (show ¬ (y < 0) by omega)]
    congr 1
    · omega
    · congr 1
      omega
  rw [kmk_pick_nat _ e]
  show StrsAre ((vs.drop (min x.toNat vs.toArray.size)).take (min y.toNat vs.toArray.size - min x.toNat vs.toArray.size)) _
  have hlen : vs.length = ns.length := hi'.length
  have e2 : (ns.drop x.toNat).take (y.toNat - x.toNat) = (ns.drop x.toNat).take (min y.toNat ns.length - min x.toNat ns.length) := by
    by_cases h3 : x.toNat ≤ ns.length
    · rw [Nat.min_eq_left h3]
      by_cases h4 : y.toNat ≤ ns.length
      · rw [Nat.min_eq_left h4]
      · rw [Nat.min_eq_right (by omega), List.take_of_length_le (by rw [List.length_drop]; omega), List.take_of_length_le (by rw [List.length_drop]; omega)]
    · rw [List.drop_of_length_le (by omega), List.take_nil, List.take_nil]
  rw [List.size_toArray, kmk_drop_min, hlen, e2]
  exact (hi'.drop' _).take' _
theorem st_upto (hi' : StrsAre vs ns) (h2 : 0 ≤ y) : StrsAre (slicePick vs.toArray none (some y) none).toList (ns.take y.toNat) := by
  have e : sliceBounds none (some y) none vs.toArray.size = (((0 : Nat) : Int), ((min y.toNat vs.toArray.size : Nat) : Int), 1) := by
    simp only [sliceBounds, Option.getD_none, show (1 : Int) > 0 by decide, if_true, if_neg (show ¬ (y < 0) by omega)]
    congr 1
    congr 1
    omega
  rw [kmk_pick_nat _ e]
  show StrsAre ((vs.drop 0).take (min y.toNat vs.toArray.size - 0)) _
  rw [List.drop_zero, Nat.sub_zero, List.size_toArray, kmk_take_min]
  exact hi'.take' _
theorem st_from (hi' : StrsAre vs ns) (h : 0 ≤ x) : StrsAre (slicePick vs.toArray (some x) none none).toList (ns.drop x.toNat) := by
  have e : sliceBounds (some x) none none vs.toArray.size = (((min x.toNat vs.toArray.size : Nat) : Int), ((vs.toArray.size : Nat) : Int), 1) := by
    simp only [sliceBounds, Option.getD_none, show (1 : Int) > 0 by decide, if_true, if_neg (show ¬ (x < 0) by omega)]
    congr 1
    omega
  rw [kmk_pick_nat _ e]
  show StrsAre ((vs.drop (min x.toNat vs.toArray.size)).take (vs.toArray.size - min x.toNat vs.toArray.size)) _
  rw [List.size_toArray, kmk_drop_min, List.take_of_length_le (by rw [List.length_drop]; omega)]
  exact hi'.drop' _
/-- join over a list of texts, the length told -/
theorem join_len_le (sep : Str) : ∀ l : List Str, (Txt.join sep l).length ≤ (l.map (·.length)).sum + l.length * sep.length := by
  intro l
  have e : Txt.join sep l = Str.join sep l := StrLaws.glued_eq_join sep l
  rw [e]
  clear e
  induction l with
  | nil => exact Nat.zero_le _
  | cons a r ih =>
    cases r with
    | nil =>
      show a.length ≤ _
      simp
    | cons b r =>
      show (a ++ sep ++ Str.join sep (b :: r)).length ≤ _
      rw [Str.length_append, Str.length_append, List.map_cons, List.sum_cons, List.length_cons, Nat.succ_mul]
      omega
theorem st_join (hl : s.heap.IsList D vs.toArray) (hi : StrsAre vs ns) (hok : (ns.map (·.length)).sum + ns.length * sep.length ≤ 16777216)
    (h : ∀ t' k, (Txt.join sep ns).length ≤ (ns.map (·.length)).sum + ns.length * sep.length → Q (.str (Txt.join sep ns) t') { s with toks := k }) : wpAny (model prog w) A (call (.builtin "str.join") [.str sep t, .ref D]) Q E s :=
  join_list hl hi hok fun t' k => h t' k (join_len_le _ _)
end
theorem none_ne {r : Str} (h : (r != Str.ofString "") = true) : r.length ≠ 0 := by
  intro h0
  rw [KWd.len0 h0] at h
  exact absurd h (by decide)
theorem none_is {r : Str} (h : (r != Str.ofString "") = false) : r.length = 0 := by
  have e : r = Str.ofString "" := by simpa using h
  rw [e]
  decide
theorem sign_is {c : Nat} (h : ((⟨#[c]⟩ : Str) != Str.ofString " ") = false) : c = 32 := by
  have e : (⟨#[c]⟩ : Str) = Str.ofString " " := by simpa using h
  have e2 : Str.ofString " " = ⟨#[32]⟩ := by decide
  rw [e2] at e
  have := congrArg (fun z : Str => z.cps.getD 0 0) e
  exact this
theorem fmod_rng (k : Int) {m : Int} (h : 0 < m) : 0 ≤ k.fmod m ∧ k.fmod m < m := by
  rw [Int.fmod_eq_emod_of_nonneg _ (Int.le_of_lt h)]
  exact ⟨Int.emod_nonneg _ (by omega), Int.emod_lt_of_pos _ h⟩
theorem ok_asc {x : Str} (h : Asc x) : PyData.strOk x = true := by
  unfold PyData.strOk
  rw [Array.all_eq_true']
  intro c hc
  have := h c (by simpa using hc)
  exact decide_eq_true (by omega)
theorem words_fin (x : Str) : Txt.words x = KWd.fin (KWd.scan x) := KWd.words_scan x
theorem ok_words {l : List (Str × Tok)} {x : Str} (e : l.map (·.1) = Txt.words x) (h : Asc x) : ∀ y ∈ l.map (·.1), PyData.strOk y = true := by
  intro y hy
  rw [e, words_fin] at hy
  exact ok_asc (fin_asc h y hy)
section
variable {prog : Program} {w : World} {A : Around} {E : Value → Shared → Prop} {s : Shared} {x y : Str} {t u : Tok} {Q : Value → Shared → Prop}
theorem ne_same (e : x = y) (h : Q (.bool false) s) : wpAny (model prog w) A (compareOp .NotEq (.str x t) (.str y u)) Q E s := by
  refine ne_str ?_
  subst e
  simpa using h
end
end Mine

namespace Mine
open PySem PySem.W PySem.Calls PyProof.Rows PyProof.V PySem.Spec
section
variable {prog : Program} {w : World} {A : Around} {h₀ : Heap} {L : Addr} {m : Str → Option Value} {env : Env} {elt : PySem.Expr} {x : Str} {scope : Scope} {cl : List (Str × Addr)} {s : Shared} {S : List (Addr × Obj) → Prop} {Fin : List Value → List (Addr × Obj) → Prop} {news : List (Addr × Obj)}
/-- a comprehension over a list of texts whose element is a text -/
theorem st_comp {vs : List Value} {ts : List Str} (g : Str → Str) (hi : StrsAre vs ts)
    (turn : ∀ k t I oI C oC D m₂ ys h tk (E' : Value → Shared → Prop), k ∈ ts → LCg.NsObj oC m₂ → m₂ x = some (.str k t) → Fr h₀ L h m → News h₀ L h ((I, oI) :: (C, oC) :: (D, LCg.lst ys) :: news) → LCg.Off3 I C D news → ((@Ne Nat I C) ∧ (@Ne Nat I D) ∧ (@Ne Nat C D)) → KPfMark →
      wpAny (model prog w) A (eval elt (compEnvC scope cl C env)) (LCg.CompEnd h₀ L m { s with heap := h, toks := tk } I oI C oC D (LCg.lst ys) S (fun y news' => KCtEl news (g k) y news')) E' { s with heap := h, toks := tk })
    (fin : ∀ ys, StrsAre ys (ts.map g) → Fin ys news) : LCg.CompRest prog w A h₀ L m env elt x scope cl s S (fun i v => vs.toArray[i]? = some v) Fin vs.toArray.size 0 [] news := by
  have hlen : vs.toArray.size = ts.length := by rw [List.size_toArray]; exact hi.length
  have key : ∀ (j i : Nat) (ys : List Value), i + j = vs.toArray.size → StrsAre ys ((ts.take i).map g) → LCg.CompRest prog w A h₀ L m env elt x scope cl s S (fun i v => vs.toArray[i]? = some v) Fin j i ys news := by
    intro j
    induction j with
    | zero =>
      intro i ys hi' hy
      have e : i = ts.length := by omega
      subst e
      rw [List.take_length] at hy
      exact LCg.CompRest.zero (fin ys hy)
    | succ j ih =>
      intro i ys hi' hy
      refine LCg.CompRest.succ ?_
      intro v I oI C oC D m₂ h tk E' hv hC hx F N off ne
      have hlt : i < ts.length := by omega
      obtain ⟨t, ht⟩ := hi.get i (ts[i]) (List.getElem?_eq_getElem hlt)
      have hv' : v = .str ts[i] t := by
        have hv2 : vs[i]? = some v := by simpa using hv
        rw [ht] at hv2
        exact (Option.some.inj hv2).symm
      rw [hv'] at hx
      refine wpAny_mono (turn ts[i] t I oI C oC D m₂ ys h tk E' (List.getElem_mem hlt) hC hx F N off ne True.intro) (fun y s₂ hq => ?_) fun _ _ e => e
      obtain ⟨h', tk', nw, e, F', N', off', hS, hn, t', hy'⟩ := hq
      rw [hn] at N' off' hS
      refine ⟨h', tk', news, e, F', N', off', hS, ?_⟩
      rw [hy']
      refine ih (i + 1) _ (by omega) ?_
      rw [List.take_add_one, List.getElem?_eq_getElem hlt, List.map_append]
      exact kct_snoc hy
  exact key _ 0 [] (by omega) (by simp only [List.take_zero, List.map_nil]; exact .nil)
end
end Mine

namespace Mine
open PySem PySem.W PySem.Calls PyProof.Rows PyProof.V PySem.Spec
def lastS (ns : List Str) : Str := ns.getLast?.getD Str.empty
theorem lastS_snoc (ns : List Str) (x : Str) : lastS (ns ++ [x]) = x := by
  unfold lastS
  rw [List.getLast?_concat]
  rfl
theorem snoc_of {ns : List Str} (h : ns.length ≠ 0) : ns = ns.dropLast ++ [lastS ns] := by
  have hne : ns ≠ [] := fun e => h (by rw [e]; rfl)
  have e := List.dropLast_concat_getLast hne
  have e2 : lastS ns = ns.getLast hne := by
    unfold lastS
    rw [List.getLast?_eq_getLast hne]
    rfl
  rw [e2]
  exact e.symm
theorem strs_last {vs : List Value} {ns : List Str} (hi : StrsAre vs ns) (h : ns.length ≠ 0) : ∃ t, vs[vs.length - 1]? = some (.str (lastS ns) t) := by
  have hl : vs.length = ns.length := hi.length
  refine hi.at (j := vs.length - 1) ?_
  have e := snoc_of h
  have e2 : vs.length - 1 = ns.dropLast.length := by rw [List.length_dropLast]; omega
  rw [e2]
  conv => lhs; rw [e]
  rw [List.getElem?_append_right (by simp)]
  simp
theorem strs_set {y : Str} {u : Tok} : ∀ {vs : List Value} {ns : List Str}, StrsAre vs ns → ∀ j : Nat, StrsAre (vs.set j (.str y u)) (ns.set j y)
  | _, _, .nil, _ => .nil
  | _, _, .cons _ _ h, 0 => .cons y u h
  | _, _, .cons z t h, j + 1 => .cons z t (strs_set h j)
theorem set_last {ns : List Str} {y : Str} (h : ns.length ≠ 0) : ns.set (ns.length - 1) y = ns.dropLast ++ [y] := by
  have e := snoc_of h
  have hl : ns.length - 1 = ns.dropLast.length := by rw [List.length_dropLast]
  rw [hl]
  conv => lhs; rw [e]
  rw [List.set_append_right _ _ (by simp)]
  simp
section
variable {prog : Program} {w : World} {A : Around} {E : Value → Shared → Prop} {s : Shared} {h₀ : Heap} {L D a b : Addr} {m : Str → Option Value} {news news' : List (Addr × Obj)} {value slice : PySem.Expr} {vs xs ys : List Value} {ns ms : List Str} {n : Nat} {y : Str} {t u : Tok}
theorem st_last {Q : Value → Shared → Prop} (hl : s.heap.IsList D vs.toArray) (hi : StrsAre vs ns) (hn : ns.length ≠ 0) (h : ∀ t, Q (.str (lastS ns) t) s) :
    wpAny (model prog w) A (getItem (.ref D) (.int (-1) u)) Q E s := by
  obtain ⟨t', e⟩ := strs_last hi hn
  have hlen : vs.length = ns.length := hi.length
  refine wpAny_getItem_list_neg hl (by decide) (by rw [List.size_toArray]; omega) (by decide) (x := .str (lastS ns) t') ?_ (h t')
  have e2 : ((-1 : Int) + (vs.toArray.size : Int)).toNat = vs.length - 1 := by rw [List.size_toArray]; omega
  rw [e2]
  simpa using e
theorem st_lastS {Q : Value → Shared → Prop} (hl : s.heap.IsList D vs.toArray) (hi : StrsAre vs ns) (hn : ns.length ≠ 0) (h : ∀ t, Q (.str (lastS ns) t) s)
    (hs : subscripted slice false (.ref D) (.int (-1) u) = operate [.ref D, .int (-1) u] (getItem (.ref D) (.int (-1) u))) :
    wpAny (model prog w) A (subscriptTail value slice (.ref D) (.int (-1) u)) Q E s := tail_any hl.typeIs slot_list_getitem.lookup (st_last hl hi hn h) hs
theorem st_setLast {Q : Unit → Shared → Prop} (F : Fr h₀ L s.heap m) (N : News h₀ L s.heap news) (U : Upd D (listOf vs.toArray n) (listOf (vs.set (vs.length - 1) (.str y u)).toArray n) news news') (hi : StrsAre vs ns) (hn : ns.length ≠ 0)
    (h : ∀ h', Fr h₀ L h' m → News h₀ L h' news' → StrsAre (vs.set (vs.length - 1) (.str y u)) (ns.dropLast ++ [y]) → Q () { s with heap := h' }) :
    wpAny (model prog w) A (setItem (.ref D) (.int (-1) t) (.str y u)) Q E s := by
  obtain ⟨pre, post, rfl, rfl, a, b⟩ := U.split
  have z := N (D, listOf vs.toArray n) (List.mem_append.mpr (.inr (.head _)))
  have hl : vs.length = ns.length := hi.length
  have e2 : ((-1 : Int) + (vs.toArray.size : Int)).toNat = vs.length - 1 := by rw [List.size_toArray]; omega
  refine ki_setBack z.1 (by decide) (by rw [List.size_toArray]; omega) (by decide) (h _ (F.change (Heap.SameBut.update ..) z.2.1 z.2.2) (ki_turn _ N a b ?_ ?_) ?_)
  · show vs.toArray.setIfInBounds _ (.str y u) = (vs.set (vs.length - 1) (.str y u)).toArray
    rw [e2]
    apply Array.toList_inj.mp
    simp
  · simp
  · have := strs_set (y := y) (u := u) hi (vs.length - 1)
    rw [hl] at this ⊢
    rw [set_last hn] at this
    exact this
/-- is the list of texts empty? -/
theorem st_none {Q : Value → Shared → Prop} (ha : s.heap.IsList a xs.toArray) (hb : s.heap.IsList b #[]) (hi : StrsAre xs ns) (hok : ∀ x ∈ ns, PyData.strOk x = true) (hu : A.units + 64 < cLine) (h : Q (.bool (decide (ns.length = 0))) s) :
    wpAny (model prog w) A (compareOp .Eq (.ref a) (.ref b)) Q E s := by
  have hb' : s.heap.IsList b ([] : List Value).toArray := hb
  refine eq_dataH_same (reads_newData ha hi.carried) (reads_newData hb' (StrsAre.nil).carried) (st_shaped _ hok) (st_shaped [] (fun _ h => (nomatch h))) hu (SeqAt.noMix_of_shape (.list .str) rfl _ _ (list_map_has fun _ => rfl) (list_map_has fun _ => rfl)) ?_
  have e : PySem.Spec.same (.list (ns.map PyData.str)) (.list (([] : List Str).map PyData.str)) = decide (ns.length = 0) := by
    cases ns with
    | nil => simp [PySem.Spec.same, PySem.Spec.sameAll]
    | cons x r => simp [PySem.Spec.same, PySem.Spec.sameAll]
  rw [e]
  exact h
theorem st_add {Q : Value → Shared → Prop} (F : Fr h₀ L s.heap m) (N : News h₀ L s.heap news) (ha : s.heap.IsList a xs.toArray) (hb : s.heap.IsList b ys.toArray) (hi : StrsAre xs ns) (hj : StrsAre ys ms)
    (h : ∀ D us h', Fr h₀ L h' m → News h₀ L h' ((D, listOf (List.toArray us) 0) :: news) → (∀ p ∈ news, p.1 < D) → StrsAre us (ns ++ ms) → Q (.ref D) { s with heap := h' })
    (hz : ns.length + ms.length ≤ sizeLine) : wpAny (model prog w) A (binaryOp .Add (.ref a) (.ref b)) Q E s :=
  add_lists (hsz := by rw [hi.length, hj.length]; exact hz) F N ha hb fun h' F' N' => h _ _ h' F' N' (fun p hp => Heap.lt_size (N p hp).1) (hi.append' hj)
end
section
variable {prog : Program} {w : World} {A : Around} {h₀ : Heap} {L : Addr} {m : Str → Option Value} {env : Env} {elt : PySem.Expr} {x : Str} {scope : Scope} {cl : List (Str × Addr)} {s : Shared} {S : List (Addr × Obj) → Prop} {Fin : List Value → List (Addr × Obj) → Prop} {news : List (Addr × Obj)}
/-- a comprehension over a list of ints whose element is a text -/
theorem st_compI {vs : List Value} {ks : List Int} (g : Int → Str) (hi : IntsAre vs ks)
    (turn : ∀ k t I oI C oC D m₂ ys h tk (E' : Value → Shared → Prop), k ∈ ks → LCg.NsObj oC m₂ → m₂ x = some (.int k t) → Fr h₀ L h m → News h₀ L h ((I, oI) :: (C, oC) :: (D, LCg.lst ys) :: news) → LCg.Off3 I C D news → ((@Ne Nat I C) ∧ (@Ne Nat I D) ∧ (@Ne Nat C D)) → KPfMark →
      wpAny (model prog w) A (eval elt (compEnvC scope cl C env)) (LCg.CompEnd h₀ L m { s with heap := h, toks := tk } I oI C oC D (LCg.lst ys) S (fun y news' => KCtEl news (g k) y news')) E' { s with heap := h, toks := tk })
    (fin : KPfDone (∀ ys ws, ws = ks.map g → StrsAre ys ws → Fin ys news)) : LCg.CompRest prog w A h₀ L m env elt x scope cl s S (fun i v => vs.toArray[i]? = some v) Fin vs.toArray.size 0 [] news :=
  kct_list g hi turn (fun ys hc _ => fin ys _ rfl (CarriedAll.strsOf hc))
/-- the same over a list of texts, each at most B long -/
theorem st_compS {vs : List Value} {ts : List Str} {B : Nat} (g : Str → Str) (hi : StrsAre vs ts) (hb : ∀ z ∈ ts, z.length ≤ B)
    (turn : ∀ k t I oI C oC D m₂ ys h tk (E' : Value → Shared → Prop), k ∈ ts → k.length ≤ B → LCg.NsObj oC m₂ → m₂ x = some (.str k t) → Fr h₀ L h m → News h₀ L h ((I, oI) :: (C, oC) :: (D, LCg.lst ys) :: news) → LCg.Off3 I C D news → ((@Ne Nat I C) ∧ (@Ne Nat I D) ∧ (@Ne Nat C D)) → KPfMark →
      wpAny (model prog w) A (eval elt (compEnvC scope cl C env)) (LCg.CompEnd h₀ L m { s with heap := h, toks := tk } I oI C oC D (LCg.lst ys) S (fun y news' => KCtEl news (g k) y news')) E' { s with heap := h, toks := tk })
    (fin : KPfDone (∀ ys ws, ws = ts.map g → StrsAre ys ws → Fin ys news)) : LCg.CompRest prog w A h₀ L m env elt x scope cl s S (fun i v => vs.toArray[i]? = some v) Fin vs.toArray.size 0 [] news :=
  st_comp g hi (fun k t I oI C oC D m₂ ys h tk E' hk => turn k t I oI C oC D m₂ ys h tk E' hk (hb k hk)) fun ys hy => fin ys _ rfl hy
end
theorem ct_end {h₀ h' : Heap} {L I C D : Addr} {m : Str → Option Value} {s₁ : Shared} {oI oC oD : Obj} {S : List (Addr × Obj) → Prop} {tk : Nat} {all news : List (Addr × Obj)} {r r' : Str} {t : Tok} (F : Fr h₀ L h' m) (N : News h₀ L h' all) (sub : ∀ p ∈ (I, oI) :: (C, oC) :: (D, oD) :: news, p ∈ all) (off : LCg.Off3 I C D news) (hS : S news) (e : r = r') :
    LCg.CompEnd h₀ L m s₁ I oI C oC D oD S (fun y news' => KCtEl news r y news') (.str r' t) { s₁ with heap := h', toks := tk } :=
  LCg.CompEnd.intro F N news sub off hS (kct_el e rfl rfl)
theorem sz_ints {vs : List Value} {ns : List Int} (hi : IntsAre vs ns) (h : ns.length ≤ 1000) : vs.toArray.size ≤ sizeLine := by
  have e : vs.length = ns.length := hi.length
  rw [sizeLine_eq, List.size_toArray]
  omega
theorem sz_strs {vs : List Value} {ns : List Str} (hi : StrsAre vs ns) (h : ns.length ≤ 1000) : vs.toArray.size ≤ sizeLine := by
  have e : vs.length = ns.length := hi.length
  rw [sizeLine_eq, List.size_toArray]
  omega
end Mine

namespace Mine
open PySem PySem.W PySem.Calls PyProof.Rows PyProof.V PySem.Spec PyProof.Rows.FinIter
theorem chr_lo {x : Int} : 0 ≤ 33 + x.fmod 94 := by
  have := fmod_rng x (m := 94) (by decide)
  omega
theorem chr_hi {x : Int} : 33 + x.fmod 94 ≤ 126 := by
  have := fmod_rng x (m := 94) (by decide)
  omega
abbrev word80 (c : Int) : Str := Txt.join (Str.ofString "") ((rangeKs 0 (1 + c.fmod 13 - 0).toNat).map fun i => ⟨#[(33 + (c + 5 * i).fmod 94).toNat]⟩)
theorem word80_ok (c : Int) : NoSp (word80 c) ∧ (word80 c).length ≠ 0 ∧ (word80 c).length ≤ 13 := by
  have hb := fmod_rng c (m := 13) (by decide)
  have hl : (word80 c).length = (1 + c.fmod 13 - 0).toNat := by
    unfold word80
    rw [KT.join_ones _ (fun a ha => by obtain ⟨j, _, rfl⟩ := List.mem_map.mp ha; rfl), List.length_map, rangeKs_length]
  refine ⟨nosp_join _ fun x hx => ?_, by omega, by omega⟩
  obtain ⟨j, _, rfl⟩ := List.mem_map.mp hx
  have h2 := fmod_rng (c + 5 * j) (m := 94) (by decide)
  exact nosp_one (by omega) (by omega)
/-- the texts among the data -/
def dStrs : List Dat → List Str
  | [] => []
  | .str x :: r => x :: dStrs r
  | _ :: r => dStrs r
theorem strs_map : ∀ l : List Str, dStrs (l.map Dat.str) = l
  | [] => rfl
  | x :: r => congrArg (x :: ·) (strs_map r)
theorem strs_snoc (x : Str) : ∀ l : List Dat, dStrs (l ++ [.str x]) = dStrs l ++ [x]
  | [] => rfl
  | .str y :: r => congrArg (y :: ·) (strs_snoc x r)
  | .none :: r => strs_snoc x r
  | .bool _ :: r => strs_snoc x r
  | .int _ :: r => strs_snoc x r
  | .bytes _ :: r => strs_snoc x r
  | .tuple _ :: r => strs_snoc x r
  | .list _ :: r => strs_snoc x r
theorem dat_strs {news : List (Addr × Obj)} : ∀ {vs : List Value} {ss : List Str}, StrsAre vs ss → DatAll news vs (ss.map Dat.str)
  | _, _, .nil => .nil
  | _, _, .cons y t r => .cons (.str y t) (dat_strs r)
theorem ex_int {h₀ h : Heap} {L : Addr} {m : Str → Option Value} {z : Str} {e : Int} {t : Tok} (_ : Fr h₀ L h m) (_ : m z = some (.int e t)) : ∃ W : Int, W = e := ⟨e, rfl⟩
theorem ex_str {h₀ h : Heap} {L : Addr} {m : Str → Option Value} {z e : Str} {t : Tok} (_ : Fr h₀ L h m) (_ : m z = some (.str e t)) : ∃ W : Str, W = e := ⟨e, rfl⟩
/-- what `_law_filled` folds -/
def fillS (f l : Str) (W : Int) (ws : List Str) : List Str := ws.foldl (fstep f l W) []
theorem fillS_snoc (f l : Str) (W : Int) (ws : List Str) (x : Str) : fillS f l W (ws ++ [x]) = fstep f l W (fillS f l W ws) x := by
  unfold fillS
  rw [List.foldl_append]
  rfl
theorem fill_eq {f l : Str} {W p : Int} (hf : (f.length : Int) = p) (hl : (l.length : Int) = p) : ∀ ws : List Str, (∀ x ∈ ws, x.length ≠ 0) → fillS f l W ws = deco f l (wout (wrapS (W - p) ws)) := by
  refine snoc_ind (fun _ => rfl) ?_
  intro ws w ih h
  have h1 : ∀ x ∈ ws, x.length ≠ 0 := fun d hd => h d (List.mem_append.mpr (.inl hd))
  rw [fillS_snoc, ih h1, fill_one hf hl h1 (h w (by simp))]
section
variable {out lines ws : List Str} {f l f' l' x line : Str} {pre : List Dat} {W W' : Int}
/-- a block's word: plain signs, not empty, short -/
def Wd (x : Str) : Prop := NoSp x ∧ x.length ≠ 0 ∧ x.length ≤ 13
theorem items80 (h : ∀ w ∈ ws, Wd w) : ∀ d ∈ ws.map Dat.str, ∃ x, d = Dat.str x ∧ Asc x ∧ x.length ≠ 0 ∧ x.length ≤ 13 := by
  intro d hd
  obtain ⟨x, hx, rfl⟩ := List.mem_map.mp hd
  have := h x hx
  exact ⟨x, rfl, asc_nosp this.1, this.2⟩
def Ok40 (z : Str) : Prop := Asc z ∧ z.length ≤ 40
def Mk2 (f : Str) : Prop := Asc f ∧ f.length ≤ 2
theorem asc_all {y : Str} (h : ∀ z ∈ out, Ok40 z) (hy : Ok40 y) : ∀ z ∈ out ++ [y], Ok40 z := by
  intro z hz
  rcases List.mem_append.mp hz with hz | hz
  · exact h z hz
  · rw [List.mem_singleton.mp hz]
    exact hy
theorem ok40_ok (h : ∀ z ∈ out, Ok40 z) : ∀ z ∈ out, PyData.strOk z = true := fun z hz => ok_asc (h z hz).1
theorem ok40_le (h : ∀ z ∈ out, Ok40 z) : ∀ z ∈ out, z.length ≤ 40 := fun z hz => (h z hz).2
theorem last40 (h : ∀ z ∈ out, Ok40 z) : (lastS out).length ≤ 40 := by
  by_cases h0 : out.length = 0
  · rw [List.eq_nil_of_length_eq_zero h0]
    decide
  · have e := snoc_of h0
    exact (h _ (by rw [e]; exact List.mem_append.mpr (.inr (by rw [lastS_snoc]; exact List.mem_singleton.mpr rfl)))).2
theorem f80_0 : ([] : List Str) = fillS f l W (dStrs []) ∧ (∀ z ∈ ([] : List Str), Ok40 z) ∧ ([] : List Str).length ≤ ([] : List Dat).length := ⟨rfl, fun _ h => (nomatch h), Nat.le_refl _⟩
theorem f80_a (h : out = fillS f l W (dStrs pre)) (ha : ∀ z ∈ out, Ok40 z) (hn : out.length ≤ pre.length) (hx : Asc x) (hx2 : x.length ≤ 13) (hf : f = f') (hfa : Mk2 f) (hc : out.length = 0) :
    out ++ [f' ++ x] = fillS f l W (dStrs (pre ++ [Dat.str x])) ∧ (∀ z ∈ out ++ [f' ++ x], Ok40 z) ∧ (out ++ [f' ++ x]).length ≤ (pre ++ [Dat.str x]).length := by
  subst hf
  have e : out = [] := List.eq_nil_of_length_eq_zero (hc)
  have h2 := hfa.2
  refine ⟨?_, asc_all ha ⟨asc_add hfa.1 hx, by rw [Str.length_append]; omega⟩, by rw [List.length_append, List.length_append]; simp only [List.length_cons, List.length_nil]; omega⟩
  rw [strs_snoc, fillS_snoc, ← h, e]
  rfl
theorem f80_b (h : out = fillS f l W (dStrs pre)) (ha : ∀ z ∈ out, Ok40 z) (hn : out.length ≤ pre.length) (hx : Asc x) (hW : W ≤ 40) (hc : ¬ out.length = 0) (hw : ((lastS out).length : Int) + 1 + (x.length : Int) ≤ W) :
    out.dropLast ++ [lastS out ++ Str.ofString " " ++ x] = fillS f l W (dStrs (pre ++ [Dat.str x])) ∧ (∀ z ∈ out.dropLast ++ [lastS out ++ Str.ofString " " ++ x], Ok40 z) ∧ (out.dropLast ++ [lastS out ++ Str.ofString " " ++ x]).length ≤ (pre ++ [Dat.str x]).length := by
  have e := snoc_of (hc)
  have hl : Ok40 (lastS out) := ha _ (by rw [e]; exact List.mem_append.mpr (.inr (by rw [lastS_snoc]; exact List.mem_singleton.mpr rfl)))
  refine ⟨?_, asc_all (fun z hz => ha z (List.dropLast_subset _ hz)) ⟨asc_add (asc_add hl.1 asc_blank) hx, by rw [Str.length_append, Str.length_append, blank_len]; omega⟩, by rw [List.length_append, List.length_append, List.length_dropLast]; simp only [List.length_cons, List.length_nil]; omega⟩
  rw [strs_snoc, fillS_snoc, ← h]
  have eg : out.getLast? = some (lastS out) := by
    conv => lhs; rw [e]
    rw [List.getLast?_concat]
  unfold fstep
  rw [eg]
  simp only
  rw [if_pos hw]
theorem f80_c (h : out = fillS f l W (dStrs pre)) (ha : ∀ z ∈ out, Ok40 z) (hn : out.length ≤ pre.length) (hx : Asc x) (hx2 : x.length ≤ 13) (hl' : l = l') (hla : Mk2 l) (hc : ¬ out.length = 0) (hw : W < ((lastS out).length : Int) + 1 + (x.length : Int)) :
    out ++ [l' ++ x] = fillS f l W (dStrs (pre ++ [Dat.str x])) ∧ (∀ z ∈ out ++ [l' ++ x], Ok40 z) ∧ (out ++ [l' ++ x]).length ≤ (pre ++ [Dat.str x]).length := by
  subst hl'
  have e := snoc_of (hc)
  have h2 := hla.2
  refine ⟨?_, asc_all ha ⟨asc_add hla.1 hx, by rw [Str.length_append]; omega⟩, by rw [List.length_append, List.length_append]; simp only [List.length_cons, List.length_nil]; omega⟩
  rw [strs_snoc, fillS_snoc, ← h]
  have eg : out.getLast? = some (lastS out) := by
    conv => lhs; rw [e]
    rw [List.getLast?_concat]
  unfold fstep
  rw [eg]
  simp only
  rw [if_neg (by omega)]
theorem pre_len {d : Dat} : (pre ++ [d]).length = pre.length + 1 := by simp
theorem empty_is {r : Str} (h : (r == Str.ofString "") = true) : r.length = 0 := by
  have e : r = Str.ofString "" := by simpa using h
  rw [e]
  decide
theorem empty_no {r : Str} (h : (r == Str.ofString "") = false) : r.length ≠ 0 := by
  intro h0
  rw [KWd.len0 h0] at h
  exact absurd h (by decide)
def Le40 (ls : List Str) : Prop := ∀ z ∈ ls, z.length ≤ 40
theorem le40_snoc (h : Le40 lines) (hl : line.length ≤ 40) : Le40 (lines ++ [line]) := by
  intro z hz
  rcases List.mem_append.mp hz with hz | hz
  · exact h z hz
  · rw [List.mem_singleton.mp hz]
    exact hl
theorem w80_0 : wrapS W (dStrs []) = ([], Str.ofString "") ∧ Le40 [] ∧ (Str.ofString "").length ≤ 40 ∧ ([] : List Str).length ≤ ([] : List Dat).length := by
  rw [none_eq]
  exact ⟨rfl, fun _ h => (nomatch h), by decide, by decide⟩
theorem w80_e (h : wrapS W (dStrs pre) = (lines, line)) (hb : Le40 lines) (hn : lines.length ≤ pre.length) (hx : x.length ≤ 13) (hc : (line == Str.ofString "") = true) :
    wrapS W (dStrs (pre ++ [Dat.str x])) = (lines, x) ∧ Le40 lines ∧ x.length ≤ 40 ∧ lines.length ≤ (pre ++ [Dat.str x]).length := by
  rw [strs_snoc, wrapS_snoc, h, pre_len]
  refine ⟨?_, hb, by omega, by omega⟩
  unfold wstep
  rw [if_pos (empty_is hc)]
theorem w80_f (h : wrapS W (dStrs pre) = (lines, line)) (hb : Le40 lines) (hn : lines.length ≤ pre.length) (hW : W ≤ 40) (hc : (line == Str.ofString "") = false) (hw : (line.length : Int) + 1 + (x.length : Int) ≤ W) :
    wrapS W (dStrs (pre ++ [Dat.str x])) = (lines, line ++ Str.ofString " " ++ x) ∧ Le40 lines ∧ (line ++ Str.ofString " " ++ x).length ≤ 40 ∧ lines.length ≤ (pre ++ [Dat.str x]).length := by
  rw [strs_snoc, wrapS_snoc, h, pre_len, Str.length_append, Str.length_append, blank_len]
  refine ⟨?_, hb, by omega, by omega⟩
  unfold wstep
  rw [if_neg (empty_no hc), if_pos hw]
theorem w80_g (h : wrapS W (dStrs pre) = (lines, line)) (hb : Le40 lines) (hl : line.length ≤ 40) (hn : lines.length ≤ pre.length) (hx : x.length ≤ 13) (hc : (line == Str.ofString "") = false) (hw : W < (line.length : Int) + 1 + (x.length : Int)) :
    wrapS W (dStrs (pre ++ [Dat.str x])) = (lines ++ [line], x) ∧ Le40 (lines ++ [line]) ∧ x.length ≤ 40 ∧ (lines ++ [line]).length ≤ (pre ++ [Dat.str x]).length := by
  rw [strs_snoc, wrapS_snoc, h, pre_len, List.length_append]
  refine ⟨?_, le40_snoc hb hl, by omega, by simp only [List.length_cons, List.length_nil]; omega⟩
  unfold wstep
  rw [if_neg (empty_no hc), if_neg (by dsimp only; omega)]
/-- the two ways out of `wrapped` -/
theorem way_a (h : wrapS W (dStrs (ws.map Dat.str)) = (lines, line)) (hc : (line != Str.ofString "") = true) : lines ++ [line] = wout (wrapS W ws) := by
  rw [strs_map] at h
  rw [h]
  unfold wout
  rw [if_neg (none_ne hc)]
theorem way_b (h : wrapS W (dStrs (ws.map Dat.str)) = (lines, line)) (hc : (line != Str.ofString "") = false) : lines = wout (wrapS W ws) := by
  rw [strs_map] at h
  rw [h]
  unfold wout
  rw [if_pos (none_is hc)]
theorem ret_a {vs : List Value} {t : Tok} {D : Addr} {n : Nat} {h₀ hp : Heap} {L : Addr} {news : List (Addr × Obj)} (_ : News h₀ L hp news) (h : wrapS W (dStrs (ws.map Dat.str)) = (lines, line)) (hS : StrsAre vs lines) (_ : (D, listOf (vs ++ [Value.str line t]).toArray n) ∈ news) (hb : Le40 lines) (hl : line.length ≤ 40) (hn : lines.length ≤ (ws.map Dat.str).length) (hN : ws.length ≤ 10) (hc : (line != Str.ofString "") = true) :
    ∃ R, R = wout (wrapS W ws) ∧ StrsAre (vs ++ [.str line t]) R ∧ Le40 R ∧ R.length ≤ 11 := by
  refine ⟨lines ++ [line], way_a h hc, hS.append' (.cons line t .nil), le40_snoc hb hl, ?_⟩
  rw [List.length_map] at hn
  rw [List.length_append]
  simp only [List.length_cons, List.length_nil]
  omega
theorem ret_b {vs : List Value} (h : wrapS W (dStrs (ws.map Dat.str)) = (lines, line)) (hS : StrsAre vs lines) (hb : Le40 lines) (hn : lines.length ≤ (ws.map Dat.str).length) (hN : ws.length ≤ 10) (hc : (line != Str.ofString "") = false) :
    ∃ R, R = wout (wrapS W ws) ∧ StrsAre vs R ∧ Le40 R ∧ R.length ≤ 11 := by
  refine ⟨lines, way_b h hc, hS, hb, ?_⟩
  rw [List.length_map] at hn
  omega
end
section
variable {cs : List Int} {ws vs : List Str} {text : Str} {n : Int}
theorem words80 (hw : ws = cs.map word80) : ∀ w ∈ ws, Wd w := by
  subst hw
  intro w hw
  obtain ⟨c, _, rfl⟩ := List.mem_map.mp hw
  exact word80_ok c
/-- the block's text and its words -/
theorem text80 (hw : ws = cs.map word80) (hv : vs = cs.map fun c => Txt.mul (Str.ofString " ") (c.fmod 3) ++ word80 c) : Txt.words (Txt.join (Str.ofString " ") vs ++ Txt.mul (Str.ofString " ") n) = ws := by
  subst hw hv
  rw [words_fin]
  exact built_words word80 (fun c => c.fmod 3) (fun c _ => ⟨(word80_ok c).1, (word80_ok c).2.1⟩) n
theorem title80 (h : ∀ w ∈ ws, Wd w) : Txt.words (Txt.title (Txt.join (Str.ofString " ") ws)) = ws.map Txt.title := by
  rw [words_fin]
  exact title_words fun w hw => ⟨(h w hw).1, (h w hw).2.1⟩
theorem titles80 (h : ∀ w ∈ ws, Wd w) : ∀ w ∈ ws.map Txt.title, Wd w := by
  intro w hw
  obtain ⟨x, hx, rfl⟩ := List.mem_map.mp hw
  have hx' := h x hx
  have e := title_len (asc_nosp hx'.1)
  exact ⟨title_nosp hx'.1, by rw [e]; exact hx'.2.1, by rw [e]; exact hx'.2.2⟩
theorem note80 {x : Str} (h : Txt.words x = ws) : Txt.words (Str.ofString "NOTE: " ++ x) = Str.ofString "NOTE:" :: ws := by
  rw [words_fin, note_words x note_scan, ← words_fin, h]
theorem warn80 {x : Str} (h : Txt.words x = ws) : Txt.words (Str.ofString "WARN: " ++ x) = Str.ofString "WARN:" :: ws := by
  rw [words_fin, note_words x warn_scan, ← words_fin, h]
theorem wd_note : Wd (Str.ofString "NOTE:") := ⟨by intro c hc; revert c; decide +kernel, by decide, by decide⟩
theorem wd_warn : Wd (Str.ofString "WARN:") := ⟨by intro c hc; revert c; decide +kernel, by decide, by decide⟩
theorem wd_cons {x : Str} (hx : Wd x) (h : ∀ w ∈ ws, Wd w) : ∀ w ∈ x :: ws, Wd w := by
  intro w hw
  rcases List.mem_cons.mp hw with rfl | hw
  · exact hx
  · exact h w hw
end

/-- a text and its words -/
def Tx (x : Str) (ws : List Str) : Prop := Txt.words x = ws ∧ x.length ≤ 300
/-- a text of the law's own, and its words -/
def Tx0 (x : Str) (ws : List Str) : Prop := Txt.words x = ws ∧ x.length ≤ 200
theorem tx_of {x : Str} {ws : List Str} (h : Tx0 x ws) : Tx x ws := ⟨h.1, Nat.le_trans h.2 (by decide)⟩
def Ws (ws : List Str) : Prop := (∀ w ∈ ws, Wd w) ∧ ws.length ≤ 10
section
variable {cs : List Int} {ws vs : List Str} {x : Str} {n : Int}
theorem le40_out {ls : List Str} (h : Le40 ls) : ∀ z ∈ ls, z.length ≤ 40 := h
theorem ws_le (h : Ws ws) : ∀ z ∈ ws, z.length ≤ 40 := fun z hz => by
  have := (h.1 z hz).2.2
  omega
theorem ws_len (h : Ws ws) : ws.length ≤ 1000 := Nat.le_trans h.2 (by decide)
theorem ws80 (hw : ws = cs.map word80) (hn : cs.length ≤ 6) : Ws ws := ⟨words80 hw, by rw [hw, List.length_map]; omega⟩
theorem ws_titles (h : Ws ws) : Ws (ws.map Txt.title) := ⟨titles80 h.1, by rw [List.length_map]; exact h.2⟩
theorem sum_ws (h : Ws ws) : (ws.map (·.length)).sum + ws.length * (Str.ofString " ").length ≤ 16777216 := by
  have h1 := sum_bound (B := 13) ws fun w hw => (h.1 w hw).2.2
  have h2 := h.2
  rw [blank_len]
  omega
theorem part_len (c : Int) : (Txt.mul (Str.ofString " ") (c.fmod 3) ++ word80 c).length ≤ 15 := by
  have h1 := fmod_rng c (m := 3) (by decide)
  have h2 := (word80_ok c).2.2
  rw [Str.length_append, mul_len]
  omega
theorem sum_parts (hv : vs = cs.map fun c => Txt.mul (Str.ofString " ") (c.fmod 3) ++ word80 c) (hn : cs.length ≤ 6) : (vs.map (·.length)).sum + vs.length * (Str.ofString " ").length ≤ 96 := by
  have h1 := sum_bound (B := 15) vs (by
    intro w hw
    rw [hv] at hw
    obtain ⟨c, _, rfl⟩ := List.mem_map.mp hw
    exact part_len c)
  have h2 : vs.length = cs.length := by rw [hv, List.length_map]
  rw [blank_len]
  omega
theorem sum_parts' (hv : vs = cs.map fun c => Txt.mul (Str.ofString " ") (c.fmod 3) ++ word80 c) (hn : cs.length ≤ 6) : (vs.map (·.length)).sum + vs.length * (Str.ofString " ").length ≤ 16777216 := Nat.le_trans (sum_parts hv hn) (by decide)
theorem tx_len (h : Tx x ws) : x.length + 2 ≤ sizeLine := by
  have := h.2
  rw [sizeLine_eq]
  omega
theorem title_ws_len (h : Ws ws) : (Txt.title (Txt.join (Str.ofString " ") ws)).length + 2 ≤ sizeLine := by
  have h0 := join_len_le (Str.ofString " ") ws
  have h1 := sum_bound (B := 13) ws fun w hw => (h.1 w hw).2.2
  have h2 := h.2
  have h3 : (Txt.title (Txt.join (Str.ofString " ") ws)).length = (Txt.join (Str.ofString " ") ws).length := title_len (by rw [tjoin]; exact asc_join ws fun w hw => asc_nosp (h.1 w hw).1)
  rw [blank_len] at h0
  rw [sizeLine_eq]
  omega
theorem join_ws_len (h : Ws ws) : (Txt.join (Str.ofString " ") ws).length ≤ 5592405 := by
  have h0 := join_len_le (Str.ofString " ") ws
  have h1 := sum_bound (B := 13) ws fun w hw => (h.1 w hw).2.2
  have h2 := h.2
  rw [blank_len] at h0
  omega
theorem sp_tx {l : List (Str × Tok)} (h : Tx x ws) (e : l.map (·.1) = Txt.words x) : l.map (·.1) = ws := e.trans h.1
theorem sp_title {l : List (Str × Tok)} (h : Ws ws) (e : l.map (·.1) = Txt.words (Txt.title (Txt.join (Str.ofString " ") ws))) : l.map (·.1) = ws.map Txt.title := e.trans (title80 h.1)
theorem ws_note (h : Ws ws) (hn : ws.length ≤ 6) : Ws (Str.ofString "NOTE:" :: ws) := ⟨wd_cons wd_note h.1, by rw [List.length_cons]; omega⟩
theorem ws_warn (h : Ws ws) (hn : ws.length ≤ 6) : Ws (Str.ofString "WARN:" :: ws) := ⟨wd_cons wd_warn h.1, by rw [List.length_cons]; omega⟩
theorem strs_to {us : List Value} {ss : List Str} (hs : StrsAre us ss) (e : ss = ws) : StrsAre us ws := e ▸ hs
end
section
variable {prog : Program} {w : World} {A : Around} {E : Value → Shared → Prop} {s : Shared} {cs : List Int} {ws vs : List Str} {x : Str} {n : Int} {t u : Tok} {Q : Value → Shared → Prop}
theorem add_text (hw : ws = cs.map word80) (hv : vs = cs.map fun c => Txt.mul (Str.ofString " ") (c.fmod 3) ++ word80 c) (hn : cs.length ≤ 6) (h : ∀ y t' k, Tx0 y ws → Tx y ws → Ws ws → ws.length ≤ 6 → Q (.str y t') { s with toks := k }) :
    wpAny (model prog w) A (binaryOp .Add (.str (Txt.join (Str.ofString " ") vs) t) (.str (Txt.mul (Str.ofString " ") (n.fmod 3)) u)) Q E s := by
  have h1 := fmod_rng n (m := 3) (by decide)
  have h0 := join_len_le (Str.ofString " ") vs
  have h2 := sum_parts hv hn
  have h3 := mul_len (n.fmod 3)
  have h4 : Tx0 (Txt.join (Str.ofString " ") vs ++ Txt.mul (Str.ofString " ") (n.fmod 3)) ws := ⟨text80 hw hv, by rw [Str.length_append]; omega⟩
  refine KOpn.add (by omega) fun t' k _ => h _ t' k h4 (tx_of h4) (ws80 hw hn) (by rw [hw, List.length_map]; exact hn)
theorem add_note (hx : Tx0 x ws) (h : ∀ y t' k, Tx y (Str.ofString "NOTE:" :: ws) → Q (.str y t') { s with toks := k }) :
    wpAny (model prog w) A (binaryOp .Add (.str (Str.ofString "NOTE" ++ Str.ofString ": ") t) (.str x u)) Q E s := by
  have h1 : (Str.ofString "NOTE: ").length = 6 := by decide
  rw [show Str.ofString "NOTE" ++ Str.ofString ": " = Str.ofString "NOTE: " by decide]
  have h0 := hx.2
  refine KOpn.add (by omega) fun t' k _ => h _ t' k ⟨note80 hx.1, by have := hx.2; rw [Str.length_append]; omega⟩
theorem add_warn (hx : Tx0 x ws) (h : ∀ y t' k, Tx y (Str.ofString "WARN:" :: ws) → Q (.str y t') { s with toks := k }) :
    wpAny (model prog w) A (binaryOp .Add (.str (Str.ofString "WARN" ++ Str.ofString ": ") t) (.str x u)) Q E s := by
  have h1 : (Str.ofString "WARN: ").length = 6 := by decide
  rw [show Str.ofString "WARN" ++ Str.ofString ": " = Str.ofString "WARN: " by decide]
  have h0 := hx.2
  refine KOpn.add (by omega) fun t' k _ => h _ t' k ⟨warn80 hx.1, by have := hx.2; rw [Str.length_append]; omega⟩
end

section
variable {ws R out : List Str} {W : Int}
theorem ne_ws (h : Ws ws) : ∀ x ∈ ws, x.length ≠ 0 := fun x hx => (h.1 x hx).2.1
theorem end_text (hW : Ws ws) (ho : out = fillS (Str.ofString "") (Str.ofString "") W ws) (hR : R = wout (wrapS W ws)) : R = out := by
  rw [ho, fill_eq (p := 0) (by decide) (by decide) ws (ne_ws hW), hR, Int.sub_zero, none_eq, deco_plain]
theorem end_item (hW : Ws ws) (ho : out = fillS (Str.ofString "* ") (Str.ofString "  ") W ws) (hR : R = wout (wrapS (W - 2) ws)) : (R.take 1).map (Str.ofString "* " ++ ·) ++ (R.drop 1).map (Str.ofString "  " ++ ·) = out := by
  rw [ho, fill_eq (p := 2) (by decide) (by decide) ws (ne_ws hW), hR, deco_item]
theorem end_quote (hW : Ws ws) (ho : out = fillS (Str.ofString "> ") (Str.ofString "> ") W ws) (hR : R = wout (wrapS (W - 2) ws)) : R.map (Str.ofString "> " ++ ·) = out := by
  rw [ho, fill_eq (p := 2) (by decide) (by decide) ws (ne_ws hW), hR, deco_quote]
theorem end_heading (hW : Ws ws) (ho : out = fillS (Str.ofString "") (Str.ofString "") W ws) (hR : R = wout (wrapS W ws)) : R.map (fun x => Txt.rstrip (Txt.center x W)) = out.map fun x => Txt.mul (Str.ofString " ") ((W - (x.length : Int) + W.fmod 2).fdiv 2) ++ x := by
  have e := end_text hW ho hR
  rw [← e]
  refine List.map_congr_left fun x hx => heading_line ?_
  rw [hR] at hx
  exact wout_ends (fun w hw => ends_nosp (hW.1 w hw).1 (hW.1 w hw).2.1) x hx
end
def cell80 (ns : List Int) (i : Int) : Int := if i < (ns.length : Int) then ns.getD i.toNat 0 else 0
abbrev kinds : List Str := [Str.ofString "break", Str.ofString "heading", Str.ofString "item", Str.ofString "quote", Str.ofString "note", Str.ofString "warn", Str.ofString "text"]
def Kd (x : Str) : Prop := x = Str.ofString "break" ∨ x = Str.ofString "heading" ∨ x = Str.ofString "item" ∨ x = Str.ofString "quote" ∨ x = Str.ofString "note" ∨ x = Str.ofString "warn" ∨ x = Str.ofString "text"
section
variable {prog : Program} {w : World} {A : Around} {E : Value → Shared → Prop} {s : Shared} {value slice : PySem.Expr} {l : Addr} {vs : List Value} {q : Int} {u : Tok} {Q : Value → Shared → Prop}
theorem kd_at {n : Nat} (h : n < 7) : Kd (kinds.getD n Str.empty) := by
  have : n = 0 ∨ n = 1 ∨ n = 2 ∨ n = 3 ∨ n = 4 ∨ n = 5 ∨ n = 6 := by omega
  unfold Kd
  rcases this with rfl | rfl | rfl | rfl | rfl | rfl | rfl
  · exact .inl rfl
  · exact .inr (.inl rfl)
  · exact .inr (.inr (.inl rfl))
  · exact .inr (.inr (.inr (.inl rfl)))
  · exact .inr (.inr (.inr (.inr (.inl rfl))))
  · exact .inr (.inr (.inr (.inr (.inr (.inl rfl)))))
  · exact .inr (.inr (.inr (.inr (.inr (.inr rfl)))))
theorem kind_at (ht : IsTup s.heap l vs.toArray) (hw : StrsAre vs kinds) (h : ∀ x t', Kd x → Q (.str x t') s)
    (hs : subscripted slice false (.ref l) (.int (q.fmod 7) u) = operate [.ref l, .int (q.fmod 7) u] (getItem (.ref l) (.int (q.fmod 7) u))) :
    wpAny (model prog w) A (subscriptTail value slice (.ref l) (.int (q.fmod 7) u)) Q E s := by
  have hb := fmod_rng q (m := 7) (by decide)
  exact KTb.item_tup ht hw hb.1 (by simpa using hb.2) (by omega) (fun t' hlt => h _ t' (kd_at (by simpa using hlt))) hs
end
section
variable {prog : Program} {w : World} {A : Around} {E : Value → Shared → Prop} {s : Shared} {n : Int} {t u : Tok} {Q : Value → Shared → Prop}
theorem m80_a {c : Int} : c.fmod 3 ≤ 1000 := by
  have := fmod_rng c (m := 3) (by decide)
  omega
theorem m80_b {c : Int} : -1000 ≤ c.fmod 3 := by
  have := fmod_rng c (m := 3) (by decide)
  omega
theorem mul80 (hn : n ≤ 1000) (hlo : -1000 ≤ n) (h : ∀ t' k, Q (.str (Txt.mul (Str.ofString " ") n) t') { s with toks := k }) : wpAny (model prog w) A (binaryOp .Mult (.str (Str.ofString " ") t) (.int n u)) Q E s :=
  KXi.mul (n := 1) blank_len (by decide) (by omega) (by omega) fun t' k _ _ => h t' k
end
section
variable {x y : Str} {c : Int}
theorem a80_w : (Txt.mul (Str.ofString " ") (c.fmod 3)).length + (word80 c).length ≤ 16777216 := by
  have h1 := fmod_rng c (m := 3) (by decide)
  have h2 := (word80_ok c).2.2
  rw [mul_len]
  omega
theorem a80_m (h : x.length ≤ 40) : (Txt.mul (Str.ofString " ") (((10 + c.fmod 31) - (x.length : Int) + (10 + c.fmod 31).fmod 2).fdiv 2)).length + x.length ≤ 16777216 := by
  have h1 := fmod_rng c (m := 31) (by decide)
  have h2 := fmod_rng (10 + c.fmod 31) (m := 2) (by decide)
  rw [mul_len, Int.fdiv_eq_ediv_of_nonneg _ (by decide)]
  omega
theorem a80_b (h : x.length ≤ 1000) : x.length + (Str.ofString " ").length ≤ 16777216 := by
  rw [blank_len]
  omega
theorem a80_c {f : Str} (h : f.length + x.length ≤ 1000) : f.length + x.length ≤ 16777216 := by omega
theorem a80_d (h : x.length ≤ 1000) (h2 : y.length ≤ 1000) : (x ++ Str.ofString " ").length + y.length ≤ 16777216 := by
  rw [Str.length_append, blank_len]
  omega
end
theorem kd_split {x : Str} {P : Str → Prop} (h : Kd x) (h1 : P (Str.ofString "break")) (h2 : P (Str.ofString "heading")) (h3 : P (Str.ofString "item")) (h4 : P (Str.ofString "quote")) (h5 : P (Str.ofString "note")) (h6 : P (Str.ofString "warn")) (h7 : P (Str.ofString "text")) : P x := by
  rcases h with h | h | h | h | h | h | h <;> subst h <;> assumption
theorem kd_ways {x : Str} {P : Prop} (h : Kd x) (h1 : x = Str.ofString "break" → P) (h2 : x = Str.ofString "heading" → P) (h3 : x = Str.ofString "item" → P) (h4 : x = Str.ofString "quote" → P) (h5 : x = Str.ofString "note" → P) (h6 : x = Str.ofString "warn" → P) (h7 : x = Str.ofString "text" → P) : P := by
  rcases h with h | h | h | h | h | h | h
  · exact h1 h
  · exact h2 h
  · exact h3 h
  · exact h4 h
  · exact h5 h
  · exact h6 h
  · exact h7 h
theorem w40 {W c : Int} (h : W = 10 + c.fmod 31) : W ≤ 40 := by
  have := fmod_rng c (m := 31) (by decide)
  omega
theorem w38 {W c : Int} (h : W = 10 + c.fmod 31 - 2) : W ≤ 40 := by
  have := fmod_rng c (m := 31) (by decide)
  omega
theorem mk2_0 {f : Str} (h : f = Str.ofString "") : Mk2 f := by
  subst h
  exact ⟨by intro c hc; revert c; decide +kernel, by decide⟩
theorem mk2_1 {f : Str} (h : f = Str.ofString "* ") : Mk2 f := by
  subst h
  exact ⟨by intro c hc; revert c; decide +kernel, by decide⟩
theorem mk2_2 {f : Str} (h : f = Str.ofString "  ") : Mk2 f := by
  subst h
  exact ⟨by intro c hc; revert c; decide +kernel, by decide⟩
theorem mk2_3 {f : Str} (h : f = Str.ofString "> ") : Mk2 f := by
  subst h
  exact ⟨by intro c hc; revert c; decide +kernel, by decide⟩
section
variable {ws ws2 out R : List Str} {f f' l0 x y : Str} {c W W2 q : Int}
theorem items80w (h : Ws ws) : ∀ d ∈ ws.map Dat.str, ∃ x, d = Dat.str x ∧ Asc x ∧ x.length ≠ 0 ∧ x.length ≤ 13 := items80 h.1
theorem ws_t (h : Ws ws) (e : ws2 = ws.map fun k => Txt.title k) : Ws ws2 := by
  subst e
  exact ws_titles h
theorem ws_n (h : Ws ws) (hn : ws.length ≤ 6) : Ws ([Str.ofString "NOTE:"] ++ ws) := ws_note h hn
theorem ws_m (h : Ws ws) (hn : ws.length ≤ 6) : Ws ([Str.ofString "WARN:"] ++ ws) := ws_warn h hn
theorem n_of (h : ¬ out.length = 0) : out.length ≠ 0 := h
theorem fit_last (h : ∀ z ∈ out, Ok40 z) : ¬ ((lastS out).length : Int) ≥ 2 ^ 63 := by
  have := last40 h
  omega
theorem a80_f (hf : f = f') (h2 : Mk2 f) (hx : x.length ≤ 13) : f'.length + x.length ≤ 16777216 := by
  subst hf
  have := h2.2
  omega
theorem a80_l (h : ∀ z ∈ out, Ok40 z) : (lastS out).length + (Str.ofString " ").length ≤ 16777216 := by
  have := last40 h
  rw [blank_len]
  omega
theorem a80_k (h : ∀ z ∈ out, Ok40 z) (hx : x.length ≤ 13) : (lastS out ++ Str.ofString " ").length + x.length ≤ 16777216 := by
  have := last40 h
  rw [Str.length_append, blank_len]
  omega
theorem a80_p1 (h : x.length ≤ 40) : (Str.ofString "* ").length + x.length ≤ 16777216 := by
  rw [show (Str.ofString "* ").length = 2 by decide]
  omega
theorem a80_p2 (h : x.length ≤ 40) : (Str.ofString "  ").length + x.length ≤ 16777216 := by
  rw [show (Str.ofString "  ").length = 2 by decide]
  omega
theorem a80_p3 (h : x.length ≤ 40) : (Str.ofString "> ").length + x.length ≤ 16777216 := by
  rw [show (Str.ofString "> ").length = 2 by decide]
  omega
theorem m80_c (h : x.length ≤ 40) : ((10 + c.fmod 31) - (x.length : Int) + (10 + c.fmod 31).fmod 2).fdiv 2 ≤ 1000 := by
  have h1 := fmod_rng c (m := 31) (by decide)
  have h2 := fmod_rng (10 + c.fmod 31) (m := 2) (by decide)
  rw [Int.fdiv_eq_ediv_of_nonneg _ (by decide)]
  omega
theorem m80_d (h : x.length ≤ 40) : -1000 ≤ ((10 + c.fmod 31) - (x.length : Int) + (10 + c.fmod 31).fmod 2).fdiv 2 := by
  have h1 := fmod_rng c (m := 31) (by decide)
  have h2 := fmod_rng (10 + c.fmod 31) (m := 2) (by decide)
  rw [Int.fdiv_eq_ediv_of_nonneg _ (by decide)]
  omega
theorem z80_a (h : Ws ws) : ([x] : List Str).length + ws.length ≤ 16777216 := by
  have := h.2
  simp only [List.length_cons, List.length_nil]
  omega
theorem z80_b {us vs : List Str} {g g' : Str → Str} (hR : R.length ≤ 11) (hu : us = (R.take 1).map g) (hv : vs = (R.drop 1).map g') : us.length + vs.length ≤ 16777216 := by
  rw [hu, hv, List.length_map, List.length_map, List.length_take, List.length_drop]
  omega
theorem cl80 (h : x.length ≤ 40) : (Txt.center x (10 + c.fmod 31)).length ≤ sizeLine := by
  have h1 := fmod_rng c (m := 31) (by decide)
  rw [sizeLine_eq]
  unfold Txt.center
  split
  · omega
  · show (Array.replicate _ 32 ++ x.cps ++ Array.replicate _ 32).size ≤ 16777216
    rw [Array.size_append, Array.size_append, Array.size_replicate, Array.size_replicate]
    show _ + x.length + _ ≤ _
    split <;> omega
end
section
variable {ws out R : List Str} {f l : Str} {W W2 q : Int}
theorem ok_out (h : ∀ z ∈ out, Ok40 z) (e : R = out) : ∀ z ∈ R, PyData.strOk z = true := by
  subst e
  exact ok40_ok h
theorem fin_text (hW : Ws ws) (ho : out = fillS f l W (dStrs (ws.map Dat.str))) (hf : f = Str.ofString "") (hl : l = Str.ofString "") (h1 : W = q) (hR : R = wout (wrapS W2 ws)) (h2 : W2 = q) : R = out := by
  subst hf hl h1 h2
  rw [strs_map] at ho
  exact end_text hW ho hR
theorem fin_note (hW : Ws ws) (hn : ws.length ≤ 6) (ho : out = fillS f l W (dStrs (([Str.ofString "NOTE:"] ++ ws).map Dat.str))) (hf : f = Str.ofString "") (hl : l = Str.ofString "") (h1 : W = q) (hR : R = wout (wrapS W2 (Str.ofString "NOTE:" :: ws))) (h2 : W2 = q) : R = out :=
  fin_text (ws_note hW hn) ho hf hl h1 hR h2
theorem fin_warn (hW : Ws ws) (hn : ws.length ≤ 6) (ho : out = fillS f l W (dStrs (([Str.ofString "WARN:"] ++ ws).map Dat.str))) (hf : f = Str.ofString "") (hl : l = Str.ofString "") (h1 : W = q) (hR : R = wout (wrapS W2 (Str.ofString "WARN:" :: ws))) (h2 : W2 = q) : R = out :=
  fin_text (ws_warn hW hn) ho hf hl h1 hR h2
theorem fin_item {us vs : List Str} (hW : Ws ws) (ho : out = fillS f l W (dStrs (ws.map Dat.str))) (hf : f = Str.ofString "* ") (hl : l = Str.ofString "  ") (h1 : W = q) (hR : R = wout (wrapS W2 ws)) (h2 : W2 = q - 2) (hu : us = (R.take 1).map fun k => Str.ofString "* " ++ k) (hv : vs = (R.drop 1).map fun k => Str.ofString "  " ++ k) : us ++ vs = out := by
  subst hf hl h1 h2 hu hv
  rw [strs_map] at ho
  exact end_item hW ho hR
theorem fin_quote {us : List Str} (hW : Ws ws) (ho : out = fillS f l W (dStrs (ws.map Dat.str))) (hf : f = Str.ofString "> ") (hl : l = Str.ofString "> ") (h1 : W = q) (hR : R = wout (wrapS W2 ws)) (h2 : W2 = q - 2) (hu : us = R.map fun k => Str.ofString "> " ++ k) : us = out := by
  subst hf hl h1 h2 hu
  rw [strs_map] at ho
  exact end_quote hW ho hR
theorem fin_heading {us vs tws : List Str} (hW : Ws ws) (ht : tws = ws.map fun k => Txt.title k) (ho : out = fillS f l W (dStrs (tws.map Dat.str))) (hf : f = Str.ofString "") (hl : l = Str.ofString "") (h1 : W = q) (hR : R = wout (wrapS W2 (ws.map Txt.title))) (h2 : W2 = q) (hu : us = R.map fun k => Txt.rstrip (Txt.center k q)) (hv : vs = out.map fun k => Txt.mul (Str.ofString " ") ((q - (k.length : Int) + q.fmod 2).fdiv 2) ++ k) : us = vs := by
  subst hf hl h1 h2 hu hv ht
  rw [strs_map] at ho
  exact end_heading (ws_titles hW) ho hR
theorem asc_mul (n : Int) : Asc (Txt.mul (Str.ofString " ") n) := asc_bl (bl_mul n)
theorem ok_head {us vs : List Str} (h : ∀ z ∈ out, Ok40 z) (hv : vs = out.map fun k => Txt.mul (Str.ofString " ") ((q - (k.length : Int) + q.fmod 2).fdiv 2) ++ k) (e : us = vs) : ∀ z ∈ us, PyData.strOk z = true := by
  subst e hv
  intro z hz
  obtain ⟨k, hk, rfl⟩ := List.mem_map.mp hz
  exact ok_asc (asc_add (asc_mul _) (h k hk).1)
end
section
variable {prog : Program} {w : World} {A : Around} {E : Value → Shared → Prop} {s : Shared} {a b : Addr} {xs ys : List Value} {ns ms R out vs ws : List Str} {q : Int} {Q : Value → Shared → Prop}
theorem st_neR (ha : s.heap.IsList a xs.toArray) (hb : s.heap.IsList b ys.toArray) (hi : StrsAre xs ns) (hj : StrsAre ys ms) (hok : ∀ x ∈ ms, PyData.strOk x = true) (hu : A.units + 64 < cLine) (e : ns = ms) (h : Q (.bool false) s) :
    wpAny (model prog w) A (compareOp .NotEq (.ref a) (.ref b)) Q E s := st_ne ha hb hi hj (by rw [e]; exact hok) hu e h
theorem ok_head2 (h : ∀ z ∈ out, Ok40 z) (hv : vs = out.map fun k => Txt.mul (Str.ofString " ") ((q - (k.length : Int) + q.fmod 2).fdiv 2) ++ k) : ∀ z ∈ vs, PyData.strOk z = true := ok_head h hv rfl
theorem le_take {n : Nat} (h : Le40 R) : ∀ z ∈ R.take n, z.length ≤ 40 := fun z hz => h z (List.mem_of_mem_take hz)
theorem le_drop {n : Nat} (h : Le40 R) : ∀ z ∈ R.drop n, z.length ≤ 40 := fun z hz => h z (List.mem_of_mem_drop hz)
theorem len_take {n : Nat} (h : R.length ≤ 11) : (R.take n).length ≤ 1000 := by
  rw [List.length_take]
  omega
theorem len_drop {n : Nat} (h : R.length ≤ 11) : (R.drop n).length ≤ 1000 := by
  rw [List.length_drop]
  omega
theorem len_out {α β : Type} {l : List α} {g : α → β} (h : out.length ≤ (l.map g).length) (hl : l.length ≤ 10) : out.length ≤ 1000 := by
  rw [List.length_map] at h
  omega
theorem n_ws (h : Ws ws) : ws.length ≤ 10 := h.2
end
theorem pad80 {c : Int} : PadOk (10 + c.fmod 31) = true := by
  have := fmod_rng c (m := 31) (by decide)
  exact padOk_of (by omega) (by omega)
end Mine
open PySem PySem.W PyProof.Rows
set_option Elab.async false
local macro_rules | `(tactic| walk_at "call builtin:chr") => `(tactic| (k_here; (with_reducible show wpAny _ _ (call (Value.builtin "chr") [Value.int (33 + Int.fmod _ 94) _]) _ _ _); k_dflt (refine chr_of_range (by exact Mine.chr_lo) (by first | exact Int.le_trans Mine.chr_hi (by decide) | exact Int.lt_of_le_of_lt Mine.chr_hi (by decide)) ?_)))
local macro_rules | `(tactic| walk_at "call type:range") => `(tactic| (k_here; (rename Fr _ _ _ _ => F'); (rename News _ _ _ _ => N'); first | (with_unfolding_all refine range1_rows F' N' ?_; intro _ _ _ _ _ _ _ _ _) | (with_unfolding_all refine range2_rows F' N' ?_; intro _ _ _ _ _ _ _ _ _)))
local macro_rules | `(tactic| walk_at "CompSrc") => `(tactic| (k_here; (try k_fmods); k_dflt (first | (refine LCg.CompSrc.range (by rfl) (by k_asm) (by k_asm) (by assumption) (by first | decide | exact small_one (by l_bnd) (by l_bnd) (by l_bnd) (by l_bnd)) (by first | exact rangeSize_nat _ _ | rfl) (by first | exact Nat.le_of_ble_eq_true rfl | (rw [PySem.sizeLine_eq]; omega) | size_fits) ?_; intro g'; (refine' kct_range _ (fun k' t' I' oI' C' oC' D' m' ys' h' tk' E' hlo' hhi' hC' hx' F' N' off' ne' => ?_) ?_); (all_goals (try (simp only [LCg.Off3, and_true] at off'))); (all_goals (try ((show KPfMark → _); intro hMark'))); kcf_last) | (refine LCg.CompSrc.ledger (by rfl) (by k_asm) (by k_asm) (by k_mem) (by exact Mine.sz_strs (by with_reducible assumption) (by with_reducible first | exact Mine.ws_len (by assumption) | exact Mine.len_take (by assumption) | exact Mine.len_drop (by assumption) | exact Mine.len_out (by assumption) (by assumption) | omega)) ?_; intro g'; (refine' Mine.st_compS (B := 40) _ (by with_reducible assumption) (by first | exact Mine.le40_out (by with_reducible assumption) | exact Mine.ok40_le (by with_reducible assumption) | exact Mine.ws_le (by with_reducible assumption) | exact Mine.le_take (by with_reducible assumption) | exact Mine.le_drop (by with_reducible assumption)) (fun k' t' I' oI' C' oC' D' m' ys' h' tk' E' hk' hb' hC' hx' F' N' off' ne' => ?_) ?_); (all_goals (try (simp only [LCg.Off3, and_true] at off'))); (all_goals (try ((show KPfMark → _); intro hMark'))); kcf_last) | (refine LCg.CompSrc.ledger (by rfl) (by k_asm) (by k_asm) (by k_mem) (by exact Mine.sz_ints (by with_reducible assumption) (by omega)) ?_; intro g'; (refine' Mine.st_compI _ (by with_reducible assumption) (fun k' t' I' oI' C' oC' D' m' ys' h' tk' E' hk' hC' hx' F' N' off' ne' => ?_) ?_); (all_goals (try (simp only [LCg.Off3, and_true] at off'))); (all_goals (try ((show KPfMark → _); intro hMark'))); kcf_last))))
local macro_rules | `(tactic| walk_at "CompEnd") => `(tactic| ((show LCg.CompEnd _ _ _ _ _ _ _ _ _ _ _ _ _ _); refine Mine.ct_end (by k_asm) (by k_asm) (by kcf_all) (by first | (with_reducible assumption) | (simp only [LCg.Off3, and_true]; done) | (simp only [LCg.Off3, and_true]; with_reducible assumption)) (by first | exact True.intro | exact Or.inr ⟨_, by k_mem, rfl, _, rfl⟩) ?_; with_reducible exact rfl))
local macro_rules | `(tactic| walk_at "KCtEl") => `(tactic| (refine kct_el ?kce (by with_unfolding_all rfl) (by with_unfolding_all rfl); (case kce => with_reducible exact rfl)))
local macro_rules | `(tactic| walk_at "eval ListComp") => `(tactic| (k_here; k_dflt (refine LCg.ListComp_U (F₀ := by k_asm) (by with_unfolding_all rfl) (by decide) (by rfl) (by decide) (by rfl) ?_)))
local macro_rules | `(tactic| walk_at "exec Assign cons ListComp") => `(tactic| (k_here; k_dflt (refine LCg.Assign_ListComp_U (F₀ := by k_asm) (by rfl) (by with_unfolding_all rfl) (by with_unfolding_all rfl) (by decide) (by rfl) (by decide) (by rfl) (by rfl) (by rfl) ?_)))
local macro_rules | `(tactic| walk_at "subscriptTail") => `(tactic| (k_here; (with_reducible show wpAny _ _ (subscriptTail _ _ (Value.ref _) (Value.int (Int.fmod _ 7) _)) _ _ _); k_dflt (refine' Mine.kind_at ?kt ?kw ?_ ?ks; (case kt => exact News.isTup (by k_asm) (by k_mem)); (case kw => repeat constructor); (case ks => with_unfolding_all rfl)); intro x' t' hK'))
local macro_rules | `(tactic| walk_at "exec If") => `(tactic| (k_here; (with_reducible rename Mine.Kd _ => hK'); k_dflt (refine Mine.kd_ways hK' ?_ ?_ ?_ ?_ ?_ ?_ ?_ <;> (clear hK'; intro hk'; subst hk'))))
local macro_rules | `(tactic| walk_at "binaryOp Mult str int") => `(tactic| (k_here; (with_reducible show wpAny _ _ (binaryOp Operator.Mult (Value.str (Str.ofString " ") _) (Value.int _ _)) _ _ _); k_dflt (first | (refine Mine.mul80 (by with_reducible exact Mine.m80_a) (by with_reducible exact Mine.m80_b) ?_) | (refine Mine.mul80 (by with_reducible exact Mine.m80_c (by assumption)) (by with_reducible exact Mine.m80_d (by assumption)) ?_) | (refine Mine.mul80 (by omega) (by omega) ?_)); intro _ _))
local macro_rules | `(tactic| walk_at "call builtin:str.join") => `(tactic| (k_here; (with_reducible show wpAny _ _ (call (Value.builtin "str.join") [Value.str (Str.ofString " ") _, Value.ref _]) _ _ _); k_dflt (refine' Mine.st_join ?kl ?ki ?kz ?_; (case kl => exact News.isList (by k_asm) (by k_mem)); (case ki => with_reducible assumption); (case kz => with_reducible first | exact Mine.sum_ws (by assumption) | exact Mine.sum_parts' (by assumption) (by omega))); intro _ _ _))
local macro_rules | `(tactic| walk_at "binaryOp Add str str") => `(tactic| (k_here; kopn_open; (with_reducible show wpAny _ _ (binaryOp Operator.Add (Value.str _ _) (Value.str _ _)) _ _ _); k_dflt (first | ((with_reducible show wpAny _ _ (binaryOp Operator.Add (Value.str (Txt.join _ _) _) (Value.str (Txt.mul _ _) _)) _ _ _); with_reducible refine Mine.add_text (by assumption) (by assumption) (by first | assumption | omega) ?_; intro _ _ _ _ _ _ _) | ((with_reducible show wpAny _ _ (binaryOp Operator.Add (Value.str (Str.ofString "NOTE" ++ Str.ofString ": ") _) (Value.str _ _)) _ _ _); with_reducible refine Mine.add_note (by assumption) ?_; intro _ _ _ _) | ((with_reducible show wpAny _ _ (binaryOp Operator.Add (Value.str (Str.ofString "WARN" ++ Str.ofString ": ") _) (Value.str _ _)) _ _ _); with_reducible refine Mine.add_warn (by assumption) ?_; intro _ _ _ _) | (refine KOpn.add ?kA ?_; (case kA => first | (with_reducible exact Mine.a80_w) | (with_reducible exact Mine.a80_m (by assumption)) | (with_reducible exact Mine.a80_f (by assumption) (by assumption) (by assumption)) | (with_reducible exact Mine.a80_l (by assumption)) | (with_reducible exact Mine.a80_k (by assumption) (by assumption)) | (with_reducible exact Mine.a80_p1 (by assumption)) | (with_reducible exact Mine.a80_p2 (by assumption)) | (with_reducible exact Mine.a80_p3 (by assumption)) | (with_reducible exact Mine.a80_b (by omega)) | (with_reducible exact Mine.a80_c (by omega)) | (with_reducible exact Mine.a80_d (by omega) (by omega))); intro _ _ _))))
local macro_rules | `(tactic| walk_at "binaryOp Add ref ref") => `(tactic| (k_here; (with_reducible show wpAny _ _ (binaryOp _ (Value.ref _) (Value.ref _)) _ _ _); k_dflt (refine' Mine.st_add ?F ?N ?a ?b ?i ?j ?_ ?z; (case F => k_asm); (case N => k_asm); (case a => exact News.isList (by k_asm) (by k_mem)); (case b => exact News.isList (by k_asm) (by k_mem)); (case i => first | with_reducible assumption | exact PyProof.Rows.StrsAre.cons _ _ PyProof.Rows.StrsAre.nil); (case j => with_reducible assumption); (case z => (rw [PySem.sizeLine_eq]; first | (with_reducible exact Mine.z80_a (by assumption)) | (with_reducible exact Mine.z80_b (by assumption) (by assumption) (by assumption))))); intro D' ws' h' F' N' l1 hI'; (try k_lt l1); (try k_sweep)))
local macro_rules | `(tactic| walk_at "subscriptTail") => `(tactic| (k_here; (with_reducible show wpAny _ _ (subscriptTail _ _ (Value.ref _) (Value.int (-1) _)) _ _ _); k_dflt (refine' Mine.st_lastS ?kl ?ki ?kn ?_ ?ks; (case kl => exact News.isList (by k_asm) (by k_mem)); (case ki => with_reducible assumption); (case kn => with_reducible exact Mine.n_of (by assumption)); (case ks => with_unfolding_all rfl)); intro _))
local macro_rules | `(tactic| walk_at "setItem ref int") => `(tactic| (k_here; (with_reducible show wpAny _ _ (setItem (Value.ref _) (Value.int _ _) (Value.str _ _)) _ _ _); k_dflt (refine' Mine.st_setLast ?k1 ?k2 ?k3 ?k4 ?k5 ?_; (case k1 => k_asm); (case k2 => k_asm); (case k3 => k_upd); (case k4 => with_reducible assumption); (case k5 => with_reducible exact Mine.n_of (by assumption)); k_whole); intro h' F' N' hi'; (try k_sweep)))
local macro_rules | `(tactic| walk_at "compareOp Eq ref ref") => `(tactic| (k_here; (with_reducible show wpAny _ _ (compareOp CmpOp.Eq (Value.ref _) (Value.ref _)) _ _ _); k_dflt (refine' Mine.st_none ?k1 ?k2 ?k3 ?k4 ?k5 ?_; (case k1 => exact News.isList (by k_asm) (by k_mem)); (case k2 => exact News.isList (by k_asm) (by k_mem)); (case k3 => with_reducible assumption); (case k4 => with_reducible exact Mine.ok40_ok (by assumption)); (case k5 => ke_room))))
local macro_rules | `(tactic| walk_at "call builtin:str.split") => `(tactic| (k_here; (with_reducible show wpAny _ _ (call (Value.builtin "str.split") [Value.str _ _]) _ _ _); k_dflt (refine KSpl.split0 (by k_asm) (by k_asm) ?_ (by with_reducible first | exact Mine.tx_len (by assumption) | exact Mine.title_ws_len (by assumption)); intro D' l' h' k' e' a' F' N' l1; (try k_lt l1); (first | (have hS1 := Mine.strs_to a' (Mine.sp_tx (by with_reducible assumption) e')) | (have hS1 := Mine.strs_to a' (Mine.sp_title (by with_reducible assumption) e'))))))
local macro_rules | `(tactic| walk_at "call builtin:str.title") => `(tactic| (k_here; (with_reducible show wpAny _ _ (call (Value.builtin "str.title") [Value.str (Txt.join _ _) _]) _ _ _); k_dflt (refine PyProof.Rows.SCL.title (by with_reducible exact Mine.join_ws_len (by assumption)) ?_); intro _))
local macro_rules | `(tactic| walk_at "call builtin:str.rstrip") => `(tactic| (k_here; (with_reducible show wpAny _ _ (call (Value.builtin "str.rstrip") [Value.str (Txt.center _ _) _]) _ _ _); k_dflt (refine KXw.rstrip rfl (by with_reducible exact Mine.cl80 (by assumption)) ?_); intro _ _))
local macro_rules | `(tactic| walk_at "subscriptTail Name Slice ref ref") => `(tactic| (k_here; (with_reducible show wpAny _ _ (subscriptTail _ (PySem.Expr.Slice _ _ none _) (Value.ref _) (Value.ref _)) _ _ _); k_dflt (refine' Mine.st_slice ?F ?N ?l ?p ?q ?m ?_ ?s ?t ?z; (case F => k_asm); (case N => k_asm); (case l => exact News.isList (by k_asm) (by k_mem)); (case p => kmk_part); (case q => kmk_part); (case m => first | exact Mine.st_upto (by with_reducible assumption) (by decide) | exact Mine.st_from (by with_reducible assumption) (by decide)); (case s => with_unfolding_all rfl); (case t => kmk_pure); (case z => exact Mine.sz_strs (by with_reducible assumption) (by omega))); intro D' ws' h' F' N' l1 hI'; (try simp only [Int.reduceToNat] at hI'); (try k_lt l1); (try k_sweep)))
local macro_rules | `(tactic| walk_at "exec Return some") => `(tactic| ((first | ((with_reducible rename (_ != Str.ofString "") = true => hq'); (rename News _ _ _ _ => nE'); (try simp only [List.push_toArray] at nE'); k_dflt (obtain ⟨R, hR1, hR2, hR3, hR4⟩ := Mine.ret_a nE' (by with_reducible assumption) (by with_reducible assumption) (by k_mem) (by with_reducible assumption) (by with_reducible assumption) (by with_reducible assumption) (by with_reducible assumption) hq'); clear hq') | ((with_reducible rename (_ != Str.ofString "") = false => hq'); k_dflt (obtain ⟨R, hR1, hR2, hR3, hR4⟩ := Mine.ret_b (by with_reducible assumption) (by with_reducible assumption) (by with_reducible assumption) (by with_reducible assumption) (by with_reducible assumption) hq'); clear hq')); walk_at "exec Return some"))
local macro_rules | `(tactic| walk_at "compareOp NotEq ref ref") => `(tactic| (k_here; (with_reducible show wpAny _ _ (compareOp CmpOp.NotEq (Value.ref _) (Value.ref _)) _ _ _); k_dflt (refine' Mine.st_neR ?k1 ?k2 ?k3 ?k4 ?k5 ?k6 ?k7 ?_; (case k1 => exact News.isList (by k_asm) (by k_mem)); (case k2 => exact News.isList (by k_asm) (by k_mem)); (case k3 => with_reducible assumption); (case k4 => with_reducible assumption); (case k5 => with_reducible first | exact Mine.ok40_ok (by assumption) | exact Mine.ok_head2 (by assumption) (by assumption)); (case k6 => ke_room); (case k7 => with_reducible first | exact Mine.fin_text (by assumption) (by assumption) (by assumption) (by assumption) (by assumption) (by assumption) (by assumption) | exact Mine.fin_note (by assumption) (by assumption) (by assumption) (by assumption) (by assumption) (by assumption) (by assumption) (by assumption) | exact Mine.fin_warn (by assumption) (by assumption) (by assumption) (by assumption) (by assumption) (by assumption) (by assumption) (by assumption) | exact Mine.fin_item (by assumption) (by assumption) (by assumption) (by assumption) (by assumption) (by assumption) (by assumption) (by assumption) (by assumption) | exact Mine.fin_quote (by assumption) (by assumption) (by assumption) (by assumption) (by assumption) (by assumption) (by assumption) (by assumption) | exact Mine.fin_heading (by assumption) (by assumption) (by assumption) (by assumption) (by assumption) (by assumption) (by assumption) (by assumption) (by assumption) (by assumption)))))
local macro_rules | `(tactic| walk_at "call builtin:len") => `(tactic| (k_here; (with_reducible show wpAny _ _ (call (Value.builtin "len") [Value.str (Mine.lastS _) _]) _ _ _); k_dflt (refine P.len_str (by with_reducible exact Mine.fit_last (by assumption)) ?_)))
local macro_rules | `(tactic| walk_at "call builtin:str.center") => `(tactic| (k_here; (with_reducible show wpAny _ _ (call (Value.builtin "str.center") [Value.str _ _, Value.int (10 + Int.fmod _ 31) _]) _ _ _); k_dflt (refine SC.center (by with_reducible exact Mine.pad80) ?_); intro _ _))
local macro_rules | `(tactic| kd_all) => `(tactic| first | (with_reducible assumption) | exact Mine.dat_strs (by with_reducible assumption) | (refine' PyProof.Rows.StrsAre.append' ?za ?zb; (case za => with_reducible assumption); (case zb => exact PyProof.Rows.StrsAre.cons _ _ PyProof.Rows.StrsAre.nil)))
set_option maxRecDepth 100000 in
set_option maxHeartbeats 16000000 in
theorem PySem.Challenge.cw_k7_0080_holds : PySem.Challenge.rw_k7_0080.Holds := by
  k_with "call ref" => k_call_by "_law_cell" Mine.cell80 (fun (_ : List Int) (i : Int) => 0 ≤ i)
  k_with "tree" => simp only [Mine.cell80]
  k_with "pyIter ref" => (k_of "w" => ((rename Fr _ _ _ _ => hF0); (obtain ⟨W, hWd⟩ := Mine.ex_int hF0 (z := Str.ofString "width") (by with_unfolding_all rfl)); (obtain ⟨f0, hf0⟩ := Mine.ex_str hF0 (z := Str.ofString "first") (by with_unfolding_all rfl)); (obtain ⟨l0, hl0⟩ := Mine.ex_str hF0 (z := Str.ofString "later") (by with_unfolding_all rfl)); (have hW40 := Mine.w40 hWd); (have hf2 : Mine.Mk2 f0 := by with_reducible first | exact Mine.mk2_0 hf0 | exact Mine.mk2_1 hf0 | exact Mine.mk2_2 hf0 | exact Mine.mk2_3 hf0); (have hl2 : Mine.Mk2 l0 := by with_reducible first | exact Mine.mk2_0 hl0 | exact Mine.mk2_1 hl0 | exact Mine.mk2_2 hl0 | exact Mine.mk2_3 hl0); (rename Mine.Ws _ => hWs0); (rename List.length _ ≤ 6 => hN60); (have hI0 := Mine.items80w hWs0); (have hN0 := Mine.n_ws hWs0); (have hI1 := Mine.items80w (Mine.ws_n hWs0 hN60)); (have hN1 := Mine.n_ws (Mine.ws_n hWs0 hN60)); (have hI2 := Mine.items80w (Mine.ws_m hWs0 hN60)); (have hN2 := Mine.n_ws (Mine.ws_m hWs0 hN60)); (try ((rename _ = List.map (fun k => Txt.title k) _ => hT0); (have hI3 := Mine.items80w (Mine.ws_t hWs0 hT0)); (have hN3 := Mine.n_ws (Mine.ws_t hWs0 hT0)))); k_dat (fun pre out => out = Mine.fillS f0 l0 W (Mine.dStrs pre) ∧ (∀ z ∈ out, Mine.Ok40 z) ∧ out.length ≤ pre.length) "out$"))
  k_with "pyIter ref" => (k_of "word" => ((rename Fr _ _ _ _ => hF0); (obtain ⟨W, hWd⟩ := Mine.ex_int hF0 (z := Str.ofString "width") (by with_unfolding_all rfl)); (have hW40 : W ≤ 40 := by first | exact Mine.w40 hWd | exact Mine.w38 hWd); (rename Mine.Ws _ => hWs0); (rename List.length _ ≤ 6 => hN60); (have hI0 := Mine.items80w hWs0); (have hN0 := Mine.n_ws hWs0); (have hI1 := Mine.items80w (Mine.ws_note hWs0 hN60)); (have hN1 := Mine.n_ws (Mine.ws_note hWs0 hN60)); (have hI2 := Mine.items80w (Mine.ws_warn hWs0 hN60)); (have hN2 := Mine.n_ws (Mine.ws_warn hWs0 hN60)); (have hI3 := Mine.items80w (Mine.ws_titles hWs0)); (have hN3 := Mine.n_ws (Mine.ws_titles hWs0)); k_dat (fun pre lines line => Mine.wrapS W (Mine.dStrs pre) = (lines, line) ∧ Mine.Le40 lines ∧ line.length ≤ 40 ∧ lines.length ≤ pre.length) "lines$" "line"))
  k_with "state" => with_reducible first
    | exact Mine.f80_0
    | exact Mine.f80_a (by assumption) (by assumption) (by assumption) (by assumption) (by assumption) (by assumption) (by assumption) (by assumption)
    | exact Mine.f80_b (by assumption) (by assumption) (by assumption) (by assumption) (by assumption) (by assumption) (by omega)
    | exact Mine.f80_c (by assumption) (by assumption) (by assumption) (by assumption) (by assumption) (by assumption) (by assumption) (by assumption) (by omega)
    | exact Mine.w80_0
    | exact Mine.w80_e (by assumption) (by assumption) (by assumption) (by assumption) (by assumption)
    | exact Mine.w80_f (by assumption) (by assumption) (by assumption) (by assumption) (by assumption) (by omega)
    | exact Mine.w80_g (by assumption) (by assumption) (by assumption) (by assumption) (by assumption) (by assumption) (by omega)
  k_with "exec For Name Call cons nil" => ((rename Fr _ _ _ _ => lF'); (with_unfolding_all refine' For_invVF lF' ?k1 ?k2 ?_; (case k1 => exact rfl); (case k2 => exact rfl); k_whole))
  k_with "exec For Name Name cons nil" => ((rename Fr _ _ _ _ => lF'); (with_unfolding_all refine' For_invVF lF' ?k1 ?k2 ?_; (case k1 => exact rfl); (case k2 => exact rfl); k_whole))
  open_k

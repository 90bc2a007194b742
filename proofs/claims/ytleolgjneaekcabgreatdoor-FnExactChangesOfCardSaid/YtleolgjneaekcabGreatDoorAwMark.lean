/-
  AW, part 32: marking: every place of a tree of the call's own rows is written, and looked at.
-/
import Derived.Test.YtleolgjneaekcabGreatDoorAwSort
namespace Go.AW
set_option linter.unusedVariables false
set_option linter.unusedSimpArgs false

/-- What an element's cells are: numbers, texts, truth values, slices of such elements. -/
inductive Sch where
  | int
  | str
  | bool
  | list (fs : List Sch)

def mapAcc (g : List AV → Int → List AV × Int) : List (List AV) → Int → List (List AV) × Int
  | [], k => ([], k)
  | e :: es, k => ((g e k).1 :: (mapAcc g es (g e k).2).1, (mapAcc g es (g e k).2).2)
def hdAcc (g : List AV → Int → Int) : List (List AV) → Int → Int
  | [], k => k
  | e :: es, k => if g e k < 0 then -1 else hdAcc g es (g e k)
def cntAcc (g : List AV → Nat) : List (List AV) → Nat
  | [] => 0
  | e :: es => g e + cntAcc g es
section
variable (mt : Int → ByteArray)
mutual
/-- A cell marked with k, and what k is then. -/
def mkCell : Sch → AV → Int → AV × Int
  | .int, _, k => (.val (.int .i64 k), k + 1)
  | .str, _, k => (.val (.string (mt k)), k + 1)
  | .bool, _, k => (.val (.bool (decide (k % 3 = 0))), k + 1)
  | .list fs, .list tk sz es, k => (.list tk sz (mapAcc (mkEl fs) es k).1, (mapAcc (mkEl fs) es k).2)
  | .list _, a, k => (a, k)
def mkEl : List Sch → List AV → Int → List AV × Int
  | s :: ss, c :: cs, k => ((mkCell s c k).1 :: (mkEl ss cs (mkCell s c k).2).1, (mkEl ss cs (mkCell s c k).2).2)
  | _, cs, k => (cs, k)
end
mutual
/-- Is a cell marked with k? -1: no. -/
def hdCell : Sch → AV → Int → Int
  | .int, .val (.int .i64 n), k => if n = k then k + 1 else -1
  | .str, .val (.string s), k => if s = mt k then k + 1 else -1
  | .bool, .val (.bool b), k => if b = decide (k % 3 = 0) then k + 1 else -1
  | .list fs, .list _ _ es, k => hdAcc (hdEl fs) es k
  | _, _, _ => -1
def hdEl : List Sch → List AV → Int → Int
  | s :: ss, c :: cs, k => if hdCell s c k < 0 then -1 else hdEl ss cs (hdCell s c k)
  | _, _, k => k
end
end
mutual
def cntCell : Sch → AV → Nat
  | .list fs, .list _ _ es => cntAcc (cntEl fs) es
  | .list _, _ => 0
  | _, _ => 1
def cntEl : List Sch → List AV → Nat
  | s :: ss, c :: cs => cntCell s c + cntEl ss cs
  | _, _ => 0
end
mutual
/-- The cells are of these kinds. -/
def shCell : Sch → AV → Prop
  | .int, a => ∃ n, a = .val (.int .i64 n)
  | .str, a => ∃ s, a = .val (.string s)
  | .bool, a => ∃ b, a = .val (.bool b)
  | .list fs, a => ∃ es, a = .list 0 fs.length es ∧ ∀ e ∈ es, shEl fs e
def shEl : List Sch → List AV → Prop
  | [], cs => cs = []
  | s :: ss, cs => ∃ c r, cs = c :: r ∧ shCell s c ∧ shEl ss r
end
theorem shEl_len : ∀ {fs : List Sch} {cs : List AV}, shEl fs cs → cs.length = fs.length
  | [], cs, h => by unfold shEl at h; rw [h]; rfl
  | s :: ss, cs, h => by
    unfold shEl at h
    obtain ⟨c, r, rfl, _, h2⟩ := h
    rw [List.length_cons, List.length_cons, shEl_len h2]

variable {mt : Int → ByteArray}
theorem mapAcc_snoc (g : List AV → Int → List AV × Int) : ∀ (xs : List (List AV)) (x : List AV) (k : Int), mapAcc g (xs ++ [x]) k = ((mapAcc g xs k).1 ++ [(g x (mapAcc g xs k).2).1], (g x (mapAcc g xs k).2).2)
  | [], x, k => rfl
  | y :: xs, x, k => by
    rw [List.cons_append, mapAcc, mapAcc_snoc g xs x]; rfl
theorem mapAcc_len (g : List AV → Int → List AV × Int) : ∀ (xs : List (List AV)) (k : Int), (mapAcc g xs k).1.length = xs.length
  | [], k => rfl
  | y :: xs, k => by rw [mapAcc, List.length_cons, mapAcc_len g xs]; rfl
theorem mapAcc_cnt {g : List AV → Int → List AV × Int} {c : List AV → Nat} {xs : List (List AV)} (hg : ∀ x ∈ xs, ∀ k, (g x k).2 = k + c x) (k : Int) : (mapAcc g xs k).2 = k + cntAcc c xs := by
  induction xs generalizing k with
  | nil => simp [mapAcc, cntAcc]
  | cons y xs ih =>
    rw [mapAcc, cntAcc]
    simp only
    rw [ih (fun x hx => hg x (by simp [hx])), hg y (by simp)]
    omega
theorem hdAcc_mk {g : List AV → Int → List AV × Int} {d : List AV → Int → Int} {c : List AV → Nat} {xs : List (List AV)} (hg : ∀ x ∈ xs, ∀ k, (g x k).2 = k + c x) (hd : ∀ x ∈ xs, ∀ k, 0 ≤ k → d (g x k).1 k = (g x k).2) (k : Int) (hk : 0 ≤ k) : hdAcc d (mapAcc g xs k).1 k = (mapAcc g xs k).2 := by
  induction xs generalizing k with
  | nil => rfl
  | cons y xs ih =>
    rw [mapAcc]
    simp only [hdAcc]
    rw [hd y (by simp) k hk, hg y (by simp), if_neg (by omega)]
    exact ih (fun x hx => hg x (by simp [hx])) (fun x hx => hd x (by simp [hx])) _ (by omega)
mutual
theorem mkCell_cnt : ∀ (s : Sch) (a : AV) (k : Int), (mkCell mt s a k).2 = k + cntCell s a
  | .int, a, k => by simp [mkCell, cntCell]
  | .str, a, k => by simp [mkCell, cntCell]
  | .bool, a, k => by simp [mkCell, cntCell]
  | .list fs, .list tk sz es, k => by
    simp only [mkCell, cntCell]
    exact mapAcc_cnt (fun x _ k => mkEl_cnt fs x k) k
  | .list fs, .val v, k => by simp [mkCell, cntCell]
  | .list fs, .iptr cs, k => by simp [mkCell, cntCell]
  | .list fs, .ptr _ _ _ _, k => by simp [mkCell, cntCell]
  | .list fs, .own _ _, k => by simp [mkCell, cntCell]
  | .list fs, .sub _ _ _ _, k => by simp [mkCell, cntCell]
  | .list fs, .mp _, k => by simp [mkCell, cntCell]
  | .list fs, .agg _, k => by simp [mkCell, cntCell]
  | .list fs, .tup _, k => by simp [mkCell, cntCell]
  | .list fs, .fn _ _ _, k => by simp [mkCell, cntCell]
  | .list fs, .undef, k => by simp [mkCell, cntCell]
theorem mkEl_cnt : ∀ (fs : List Sch) (cs : List AV) (k : Int), (mkEl mt fs cs k).2 = k + cntEl fs cs
  | [], cs, k => by simp [mkEl, cntEl]
  | s :: ss, [], k => by simp [mkEl, cntEl]
  | s :: ss, c :: cs, k => by
    simp only [mkEl, cntEl]
    rw [mkEl_cnt ss cs, mkCell_cnt s c]; omega
end
mutual
theorem hdCell_mk : ∀ (s : Sch) (a : AV) (k : Int), shCell s a → 0 ≤ k → hdCell mt s (mkCell mt s a k).1 k = (mkCell mt s a k).2
  | .int, a, k, _, hk => by simp [mkCell, hdCell]
  | .str, a, k, _, hk => by simp [mkCell, hdCell]
  | .bool, a, k, _, hk => by simp [mkCell, hdCell]
  | .list fs, a, k, h, hk => by
    unfold shCell at h
    obtain ⟨es, rfl, h⟩ := h
    simp only [mkCell, hdCell]
    exact hdAcc_mk (fun x _ k => mkEl_cnt fs x k) (fun x hx k hk => hdEl_mk fs x k (h x hx) hk) k hk
theorem hdEl_mk : ∀ (fs : List Sch) (cs : List AV) (k : Int), shEl fs cs → 0 ≤ k → hdEl mt fs (mkEl mt fs cs k).1 k = (mkEl mt fs cs k).2
  | [], cs, k, _, hk => by simp [mkEl, hdEl]
  | s :: ss, cs, k, h, hk => by
    unfold shEl at h
    obtain ⟨c, r, rfl, h1, h2⟩ := h
    simp only [mkEl, hdEl]
    rw [hdCell_mk s c k h1 hk, mkCell_cnt, if_neg (by omega)]
    exact hdEl_mk ss r _ h2 (by omega)
end
mutual
theorem mkCell_sh : ∀ (s : Sch) (a : AV) (k : Int), shCell s a → shCell s (mkCell mt s a k).1
  | .int, a, k, _ => by simp [mkCell, shCell]
  | .str, a, k, _ => by simp [mkCell, shCell]
  | .bool, a, k, _ => by simp [mkCell, shCell]
  | .list fs, a, k, h => by
    unfold shCell at h
    obtain ⟨es, rfl, h⟩ := h
    simp only [mkCell, shCell]
    exact ⟨_, rfl, mapAcc_all (fun x hx k => mkEl_sh fs x k (h x hx)) k⟩
theorem mkEl_sh : ∀ (fs : List Sch) (cs : List AV) (k : Int), shEl fs cs → shEl fs (mkEl mt fs cs k).1
  | [], cs, k, h => by unfold shEl at h; simp [mkEl, shEl, h]
  | s :: ss, cs, k, h => by
    unfold shEl at h
    obtain ⟨c, r, rfl, h1, h2⟩ := h
    simp only [mkEl]
    unfold shEl
    exact ⟨_, _, rfl, mkCell_sh s c k h1, mkEl_sh ss r _ h2⟩
theorem mapAcc_all {g : List AV → Int → List AV × Int} {p : List AV → Prop} : ∀ {xs : List (List AV)}, (∀ x ∈ xs, ∀ k, p (g x k).1) → ∀ k : Int, ∀ e ∈ (mapAcc g xs k).1, p e
  | [], _, k, e, he => by simp [mapAcc] at he
  | x :: xs, h, k, e, he => by
    simp only [mapAcc, List.mem_cons] at he
    rcases he with q | q
    · subst q; exact h x (by simp) k
    · exact mapAcc_all (fun y hy => h y (by simp [hy])) _ e q
end
mutual
theorem cntCell_mk : ∀ (s : Sch) (a : AV) (k : Int), shCell s a → cntCell s (mkCell mt s a k).1 = cntCell s a
  | .int, a, k, _ => by simp [mkCell, cntCell]
  | .str, a, k, _ => by simp [mkCell, cntCell]
  | .bool, a, k, _ => by simp [mkCell, cntCell]
  | .list fs, a, k, h => by
    unfold shCell at h
    obtain ⟨es, rfl, h⟩ := h
    simp only [mkCell, cntCell]
    exact cntAcc_mkG (fun x hx k => cntEl_mk fs x k (h x hx)) k
theorem cntEl_mk : ∀ (fs : List Sch) (cs : List AV) (k : Int), shEl fs cs → cntEl fs (mkEl mt fs cs k).1 = cntEl fs cs
  | [], cs, k, h => by simp [mkEl, cntEl]
  | s :: ss, cs, k, h => by
    unfold shEl at h
    obtain ⟨c, r, rfl, h1, h2⟩ := h
    simp only [mkEl, cntEl]
    rw [cntCell_mk s c k h1, cntEl_mk ss r _ h2]
theorem cntAcc_mkG {g : List AV → Int → List AV × Int} {c : List AV → Nat} : ∀ {xs : List (List AV)}, (∀ x ∈ xs, ∀ k, c (g x k).1 = c x) → ∀ k : Int, cntAcc c (mapAcc g xs k).1 = cntAcc c xs
  | [], _, k => rfl
  | x :: xs, h, k => by
    simp only [mapAcc, cntAcc]
    rw [h x (by simp), cntAcc_mkG (fun y hy => h y (by simp [hy]))]
end
theorem cntAcc_mk {fs : List Sch} {xs : List (List AV)} {k : Int} (h : ∀ x ∈ xs, shEl fs x) : cntAcc (cntEl fs) (mapAcc (mkEl mt fs) xs k).1 = cntAcc (cntEl fs) xs := cntAcc_mkG (mt := mt) (fun x hx k => cntEl_mk (mt := mt) fs x k (h x hx)) k
end Go.AW

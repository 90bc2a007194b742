/-
  AW, part 31: texts that are being built: functions that own one builder (strings.Builder) and no other row.
-/
import Derived.Test.YtclhpcfpchpbnaaGreatDoorAwC
import Derived.Lib.OthersKept
namespace Go.AW
set_option linter.unusedVariables false
set_option linter.unusedSimpArgs false
open Go.RowKit (Below)

/-- The builder: its place and its bytes. -/
abbrev Bd := Option (Nat × List UInt8)
def bdIs (T e : TypeId) (B : Nat) (w : World) : Bd → Prop
  | none => True
  | some (b, bs) => Lib.IsBuilderF T e B b (Lib.byteCells bs) w
structure BdAt (P : Program) (T e : TypeId) (S : Sit) (B : Nat) (σ : Bd) (w : World) : Prop where
  rows : S.rows = []
  imm : ∀ k c, S.imm k = some c → k < B ∧ ∃ E fr, w.heap[k]? = some (.cells c E fr)
  size : B ≤ w.heap.size
  glob : Glob P S
  bd : bdIs T e B w σ
section
variable {P : Program} {T e : TypeId} {S : Sit} {B : Nat} {σ : Bd} {w w' : World}
theorem BdAt.models (d : BdAt P T e S B σ w) : Models S [] w := ⟨fun b c h => (d.imm b c h).2, by simp [d.rows], by simp [d.rows], by simp [d.rows]⟩
theorem Below.less {B' : Nat} (h : Below B w w') (hb : B' ≤ B) : Below B' w w' := ⟨h.os, h.tape, h.output, h.size, fun k hk => h.block k (by omega)⟩
theorem BdAt.turn {σ' : Bd} (d : BdAt P T e S B σ w) (b : Below B w w') (h : bdIs T e B w' σ') : BdAt P T e S B σ' w' :=
  ⟨d.rows, fun k c q => ⟨(d.imm k c q).1, by rw [b.block k (d.imm k c q).1]; exact (d.imm k c q).2⟩, Nat.le_trans d.size b.size, d.glob, h⟩
theorem atF_keep {b : Nat} {p : Value} {bs : List Value} (h : Lib.BuilderAtF T e B b p bs w) (k : Below w.heap.size w w') : Lib.BuilderAtF T e B b p bs w' := by
  have hlt := h.lt
  obtain ⟨hB, v, hb, ⟨h1, h2⟩, hne⟩ := h
  refine ⟨hB, v, by rw [k.block b hlt]; exact hb, ⟨h1, ?_⟩, hne⟩
  rcases h2 with h2 | ⟨g, cap, cur, fz, e1, e2, e3, rest⟩
  · exact .inl h2
  · have : g < w.heap.size := (Array.getElem?_eq_some_iff.1 e3).1
    exact .inr ⟨g, cap, cur, fz, e1, e2, by rw [k.block g this]; exact e3, rest⟩
theorem bdIs_keep : ∀ {σ : Bd}, bdIs T e B w σ → Below w.heap.size w w' → bdIs T e B w' σ
  | none, _, _ => trivial
  | some (b, bs), h, k => h.elim (fun x => .inl (atF_keep x k)) (fun x => .inr (atF_keep x k))
theorem BdAt.keep (d : BdAt P T e S B σ w) (k : Below w.heap.size w w') : BdAt P T e S B σ w' := d.turn (Below.less k d.size) (bdIs_keep d.bd k)
end

/-- A contract of a function that is given a builder, or none. -/
def callB (P : Program) (T e : TypeId) (f : FuncId) (args : List AV) (σ : Bd) (K : AV → Bd → Prop) : Prop :=
  ∀ (S : Sit) (B : Nat) (w : World) (vals : Array Value), BdAt P T e S B σ w → RepL S args vals.toList →
    Calls P f vals w fun en w' => ∃ v av σ', en = .returned v ∧ Below B w w' ∧ BdAt P T e S B σ' w' ∧ Rep S av v ∧ K av σ'
theorem PureCall.b {P : Program} {T e : TypeId} {f : FuncId} {args : List AV} {σ : Bd} {r : AV} (hs : r.solid = true) (hc : PureCall P f args [] r) {K : AV → Bd → Prop} (hk : K r σ) : callB P T e f args σ K := by
  intro S B w vals d hr
  refine (hc (fun q _ => q = r) rfl S w vals d.models d.glob hr).mono ?_
  rintro en w' ⟨v, av, S', h', rfl, st, hm', rv, rfl⟩
  have bel : Below w.heap.size w w' := ⟨st.os, st.tape, st.output, st.size, fun k hk => st.block k hk (by rintro ⟨l, i, q, _⟩; simp [d.rows] at q)⟩
  exact ⟨v, _, σ, rfl, Below.less bel d.size, d.keep bel, solid_any hs rv, hk⟩

def zBld : Value := .agg #[.pointer none, .slice none 0 0]
def bopWp (P : Program) (T e : TypeId) (t : Nat → AV) (σ : Bd) (K : AV → Bd → Prop) : LOp → Prop
  | .alloc E z => E = T ∧ z = zBld ∧ σ = none ∧ ∀ b, K (.val (.pointer (some ⟨b, 0, none⟩))) (some (b, []))
  | .call f args => callB P T e f (args.map (aeval t)) σ K
  | op => match opEval t [] op with
    | some v => K v σ
    | none => False
def bops (P : Program) (T e : TypeId) : List LI → (Nat → AV) → Bd → ((Nat → AV) → Bd → Prop) → Prop
  | [], t, σ, K => K t σ
  | i :: rest, t, σ, K =>
    match wants t i.guard with
    | some true => bopWp P T e t σ (fun v σ' => bops P T e rest (put t i.dst v) σ' K) i.op
    | some false => bops P T e rest (put t i.dst (.val Go.undef)) σ K
    | none => False
/-! A region that draws its order, and leaves the builder's bytes. -/
def bqWp (P : Program) (T e : TypeId) (σ : Bd) (t : Nat → AV) (K : AV → Prop) : LOp → Prop
  | .call f args => ∃ r, callB P T e f (args.map (aeval t)) σ (fun v σ' => v = r ∧ σ' = σ) ∧ K r
  | op => match opEval t [] op with
    | some v => K v
    | none => False
def bawpD (P : Program) (T e : TypeId) (σ : Bd) : List LI → (Nat → AV) → ((Nat → AV) → Prop) → Prop
  | [], t, K => K t
  | i :: rest, t, K =>
    match wants t i.guard with
    | some true => bqWp P T e σ t (fun v => bawpD P T e σ rest (put t i.dst v) K) i.op
    | some false => bawpD P T e σ rest (put t i.dst (.val Go.undef)) K
    | none => False
abbrev BPost := LE → (Nat → AV) → Bd → Prop
def bwp (P : Program) (T e : TypeId) : LC → BPost → (Nat → AV) → Bd → Prop
  | .skip, Q, t, σ => Q .normal t σ
  | .ops l, Q, t, σ => bops P T e l t σ (Q .normal)
  | .dops l, Q, t, σ => bawpD P T e σ l t (fun t' => Q .normal t' σ)
  | .gops _ _, _, _, _ => False
  | .seq a b, Q, t, σ => bwp P T e a (fun en t σ => match en with | .normal => bwp P T e b Q t σ | en => Q en t σ) t σ
  | .cond c a b, Q, t, σ =>
    match aeval t c with
    | .val (.bool q) => (q = true → bwp P T e a Q t σ) ∧ (q = false → bwp P T e b Q t σ)
    | _ => False
  | .block id b, Q, t, σ => bwp P T e b (fun en t σ => match en with | .exit k => if k = id then Q .normal t σ else Q (.exit k) t σ | en => Q en t σ) t σ
  | .loop b, Q, t, σ => ∃ (I : Nat → (Nat → AV) → Bd → Prop) (n : Nat), I n t σ ∧ ∀ n t σ, I n t σ → bwp P T e b (fun en t' σ' => match en with | .normal => ∃ m, m < n ∧ I m t' σ' | en => Q en t' σ') t σ
  | .exit id, Q, t, σ => Q (.exit id) t σ
  | .ret, Q, t, σ => Q .ret t σ
  | .ghost _, _, _, _ => False

section
variable {P : Program} {T e : TypeId} {N : Nat} {pf : Bool}
end
section
variable {P : Program} {T e : TypeId} {N : Nat} {ops : Array Oper} {l : List LI} {t : Nat → AV} {vs : Nat → AV} {S : Sit} {B : Nat} {σ : Bd} {w0 : World} {Q : Exit → Act → World → Prop}
end
section
variable {P : Program} {T e : TypeId} {N : Nat} {pf : Bool}
def BPostOf (P : Program) (T e : TypeId) (N : Nat) (S : Sit) (B : Nat) (w : World) (Q : BPost) (en : Exit) (a' : Act) (w' : World) : Prop :=
  ∃ t' σ', Below B w w' ∧ BdAt P T e S B σ' w' ∧ Rel S N t' a' ∧
    match en with
    | .normal => Q .normal t' σ'
    | .exit id => Q (.exit id) t' σ'
    | .ret => Q .ret t' σ'
    | _ => False
theorem BPostOf.step {S : Sit} {B : Nat} {w w1 : World} {Q : BPost} {en : Exit} {a : Act} {w' : World} (b : Below B w w1) (h : BPostOf P T e N S B w1 Q en a w') : BPostOf P T e N S B w Q en a w' := by
  obtain ⟨t', σ', h1, h2, h3, h4⟩ := h
  exact ⟨t', σ', b.trans h1, h2, h3, h4⟩
end

def bPost (res : List LRes) (K : AV → Bd → Prop) (en : LE) (t : Nat → AV) (σ : Bd) : Prop :=
  match en with
  | .exit _ => False
  | _ => ∃ avs, res.mapM (resAV t []) = some avs ∧ K (retOf avs) σ
/-! Running it, as AwRun runs the other. -/
inductive BFr where
  | seq (b : LC)
  | blk (id : Nat)
  | loop (I : Nat → (Nat → AV) → Bd → Prop) (n : Nat)
def bxK (P : Program) (T e : TypeId) (Q : BPost) : List BFr → LE → (Nat → AV) → Bd → Prop
  | [], en, t, σ => Q en t σ
  | .seq b :: k, en, t, σ => match en with | .normal => bwp P T e b (bxK P T e Q k) t σ | en => bxK P T e Q k en t σ
  | .blk id :: k, en, t, σ => match en with | .exit j => if j = id then bxK P T e Q k .normal t σ else bxK P T e Q k (.exit j) t σ | en => bxK P T e Q k en t σ
  | .loop I n :: k, en, t, σ => match en with | .normal => ∃ m, m < n ∧ I m t σ | en => bxK P T e Q k en t σ
structure BExK (P : Program) (T e : TypeId) (Q : BPost) (k : List BFr) (en : LE) (t : Nat → AV) (σ : Bd) : Prop where
  out : bxK P T e Q k en t σ
structure BEx (P : Program) (T e : TypeId) (Q : BPost) (c : LC) (k : List BFr) (t : Nat → AV) (σ : Bd) : Prop where
  out : bwp P T e c (bxK P T e Q k) t σ
structure BExO (P : Program) (T e : TypeId) (Q : BPost) (l : List LI) (k : List BFr) (t : Nat → AV) (σ : Bd) : Prop where
  out : bops P T e l t σ (bxK P T e Q k .normal)
structure BAf (P : Program) (T e : TypeId) (Q : BPost) (d : Option Nat) (l : List LI) (k : List BFr) (t : Nat → AV) (v : AV) (σ : Bd) : Prop where
  out : bops P T e l (put t d v) σ (bxK P T e Q k .normal)
structure BExD (P : Program) (T e : TypeId) (Q : BPost) (l : List LI) (k : List BFr) (t : Nat → AV) (σ : Bd) : Prop where
  out : bawpD P T e σ l t (fun t' => bxK P T e Q k .normal t' σ)
structure BAfD (P : Program) (T e : TypeId) (Q : BPost) (d : Option Nat) (l : List LI) (k : List BFr) (t : Nat → AV) (σ : Bd) (v : AV) : Prop where
  out : bawpD P T e σ l (put t d v) (fun t' => bxK P T e Q k .normal t' σ)
theorem BAfD_fun (P : Program) (T e : TypeId) (Q : BPost) (d : Option Nat) (l : List LI) (k : List BFr) (t : Nat → AV) (σ : Bd) : BAfD P T e Q d l k t σ = fun v => bawpD P T e σ l (put t d v) (fun t' => bxK P T e Q k .normal t' σ) :=
  funext fun _ => propext ⟨fun q => q.out, fun q => ⟨q⟩⟩
structure BExG (P : Program) (T e : TypeId) (Q : BPost) (w : Option Bool) (d : Option Nat) (op : LOp) (l : List LI) (k : List BFr) (t : Nat → AV) (σ : Bd) : Prop where
  out : match w with
    | some true => bopWp P T e t σ (BAf P T e Q d l k t) op
    | some false => bops P T e l (put t d (.val Go.undef)) σ (bxK P T e Q k .normal)
    | none => False
structure BExC (P : Program) (T e : TypeId) (Q : BPost) (v : AV) (a b : LC) (k : List BFr) (t : Nat → AV) (σ : Bd) : Prop where
  out : match v with | .val (.bool q) => (q = true → BEx P T e Q a k t σ) ∧ (q = false → BEx P T e Q b k t σ) | _ => False
theorem BAf_fun (P : Program) (T e : TypeId) (Q : BPost) (d : Option Nat) (l : List LI) (k : List BFr) (t : Nat → AV) : BAf P T e Q d l k t = fun v σ => bops P T e l (put t d v) σ (bxK P T e Q k .normal) :=
  funext fun _ => funext fun _ => propext ⟨fun q => q.out, fun q => ⟨q⟩⟩
section
variable {P : Program} {T e : TypeId} {Q : BPost} {k : List BFr} {t : Nat → AV} {σ : Bd}
theorem BEx_skip : BEx P T e Q .skip k t σ = BExK P T e Q k .normal t σ := propext ⟨fun q => ⟨q.out⟩, fun q => ⟨q.out⟩⟩
theorem BEx_seq (a b : LC) : BEx P T e Q (.seq a b) k t σ = BEx P T e Q a (.seq b :: k) t σ := propext ⟨fun q => ⟨q.out⟩, fun q => ⟨q.out⟩⟩
theorem BEx_ops (l : List LI) : BEx P T e Q (.ops l) k t σ = BExO P T e Q l k t σ := propext ⟨fun q => ⟨q.out⟩, fun q => ⟨q.out⟩⟩
theorem BEx_dops (l : List LI) : BEx P T e Q (.dops l) k t σ = BExD P T e Q l k t σ := propext ⟨fun q => ⟨q.out⟩, fun q => ⟨q.out⟩⟩
theorem BExD_nil : BExD P T e Q [] k t σ = BExK P T e Q k .normal t σ := propext ⟨fun q => ⟨q.out⟩, fun q => ⟨q.out⟩⟩
theorem BExD_cons (d : Option Nat) (op : LOp) (l : List LI) : BExD P T e Q (⟨d, none, op⟩ :: l) k t σ = bqWp P T e σ t (BAfD P T e Q d l k t σ) op := by
  rw [BAfD_fun]; exact propext ⟨fun q => q.out, fun q => ⟨q⟩⟩
theorem BAfD_eq (d : Option Nat) (l : List LI) (v : AV) : BAfD P T e Q d l k t σ v = BExD P T e Q l k (put t d v) σ := propext ⟨fun q => ⟨q.out⟩, fun q => ⟨q.out⟩⟩
theorem BEx_def (c : LC) : BEx P T e Q c k t σ = bwp P T e c (bxK P T e Q k) t σ := propext ⟨fun q => q.out, fun q => ⟨q⟩⟩
theorem BEx_cond (c : Operand) (a b : LC) : BEx P T e Q (.cond c a b) k t σ = BExC P T e Q (aeval t c) a b k t σ := by
  refine propext ⟨fun q => ⟨?_⟩, fun q => ⟨?_⟩⟩
  · simp only [BEx_def]; exact q.out
  · have := q.out; simp only [BEx_def] at this; exact this
theorem BEx_block (id : Nat) (b : LC) : BEx P T e Q (.block id b) k t σ = BEx P T e Q b (.blk id :: k) t σ := propext ⟨fun q => ⟨q.out⟩, fun q => ⟨q.out⟩⟩
theorem BEx_exit (id : Nat) : BEx P T e Q (.exit id) k t σ = BExK P T e Q k (.exit id) t σ := propext ⟨fun q => ⟨q.out⟩, fun q => ⟨q.out⟩⟩
theorem BEx_ret : BEx P T e Q .ret k t σ = BExK P T e Q k .ret t σ := propext ⟨fun q => ⟨q.out⟩, fun q => ⟨q.out⟩⟩
theorem BExO_nil : BExO P T e Q [] k t σ = BExK P T e Q k .normal t σ := propext ⟨fun q => ⟨q.out⟩, fun q => ⟨q.out⟩⟩
theorem BExO_cons (d : Option Nat) (op : LOp) (l : List LI) : BExO P T e Q (⟨d, none, op⟩ :: l) k t σ = bopWp P T e t σ (BAf P T e Q d l k t) op := by
  rw [BAf_fun]; exact propext ⟨fun q => q.out, fun q => ⟨q⟩⟩
theorem BExO_guard (d : Option Nat) (s : Nat) (want : Bool) (op : LOp) (l : List LI) : BExO P T e Q (⟨d, some (s, want), op⟩ :: l) k t σ = BExG P T e Q (wants t (some (s, want))) d op l k t σ := by
  refine propext ⟨fun q => ⟨?_⟩, fun q => ⟨?_⟩⟩
  · have := q.out; rw [BAf_fun]; exact this
  · have := q.out; rw [BAf_fun] at this; exact this
theorem BExG_true (d : Option Nat) (op : LOp) (l : List LI) : BExG P T e Q (some true) d op l k t σ = bopWp P T e t σ (BAf P T e Q d l k t) op := propext ⟨fun q => q.out, fun q => ⟨q⟩⟩
theorem BExG_false (d : Option Nat) (op : LOp) (l : List LI) : BExG P T e Q (some false) d op l k t σ = BExO P T e Q l k (put t d (.val Go.undef)) σ := propext ⟨fun q => ⟨q.out⟩, fun q => ⟨q.out⟩⟩
theorem BAf_eq (d : Option Nat) (l : List LI) (v : AV) : BAf P T e Q d l k t v σ = BExO P T e Q l k (put t d v) σ := propext ⟨fun q => ⟨q.out⟩, fun q => ⟨q.out⟩⟩
theorem BExK_nil (en : LE) : BExK P T e Q [] en t σ = Q en t σ := propext ⟨fun q => q.out, fun q => ⟨q⟩⟩
theorem BExK_seq_normal (b : LC) : BExK P T e Q (.seq b :: k) .normal t σ = BEx P T e Q b k t σ := propext ⟨fun q => ⟨q.out⟩, fun q => ⟨q.out⟩⟩
theorem BExK_seq_ret (b : LC) : BExK P T e Q (.seq b :: k) .ret t σ = BExK P T e Q k .ret t σ := propext ⟨fun q => ⟨q.out⟩, fun q => ⟨q.out⟩⟩
theorem BExK_seq_exit (b : LC) (i : Nat) : BExK P T e Q (.seq b :: k) (.exit i) t σ = BExK P T e Q k (.exit i) t σ := propext ⟨fun q => ⟨q.out⟩, fun q => ⟨q.out⟩⟩
theorem BExK_blk_normal (i : Nat) : BExK P T e Q (.blk i :: k) .normal t σ = BExK P T e Q k .normal t σ := propext ⟨fun q => ⟨q.out⟩, fun q => ⟨q.out⟩⟩
theorem BExK_blk_ret (i : Nat) : BExK P T e Q (.blk i :: k) .ret t σ = BExK P T e Q k .ret t σ := propext ⟨fun q => ⟨q.out⟩, fun q => ⟨q.out⟩⟩
theorem BExK_blk_exit (i j : Nat) : BExK P T e Q (.blk i :: k) (.exit j) t σ = if j = i then BExK P T e Q k .normal t σ else BExK P T e Q k (.exit j) t σ := by
  refine propext ⟨fun q => ?_, fun q => ⟨?_⟩⟩
  · have := q.out
    simp only [bxK] at this
    split
    · rename_i e; rw [if_pos e] at this; exact ⟨this⟩
    · rename_i e; rw [if_neg e] at this; exact ⟨this⟩
  · simp only [bxK]
    split
    · rename_i e; rw [if_pos e] at q; exact q.out
    · rename_i e; rw [if_neg e] at q; exact q.out
theorem BExK_loop_ret (I : Nat → (Nat → AV) → Bd → Prop) (n : Nat) : BExK P T e Q (.loop I n :: k) .ret t σ = BExK P T e Q k .ret t σ := propext ⟨fun q => ⟨q.out⟩, fun q => ⟨q.out⟩⟩
theorem BExK_loop_exit (I : Nat → (Nat → AV) → Bd → Prop) (n j : Nat) : BExK P T e Q (.loop I n :: k) (.exit j) t σ = BExK P T e Q k (.exit j) t σ := propext ⟨fun q => ⟨q.out⟩, fun q => ⟨q.out⟩⟩
theorem BExK_loop_normal (I : Nat → (Nat → AV) → Bd → Prop) (n : Nat) : BExK P T e Q (.loop I n :: k) .normal t σ = ∃ m, m < n ∧ I m t σ := propext ⟨fun q => q.out, fun q => ⟨q⟩⟩
theorem BExC_true (a b : LC) : BExC P T e Q (.val (.bool true)) a b k t σ = BEx P T e Q a k t σ :=
  propext ⟨fun q => q.out.1 rfl, fun q => ⟨⟨fun _ => q, fun e => (by cases e)⟩⟩⟩
theorem BExC_false (a b : LC) : BExC P T e Q (.val (.bool false)) a b k t σ = BEx P T e Q b k t σ :=
  propext ⟨fun q => q.out.2 rfl, fun q => ⟨⟨fun e => (by cases e), fun _ => q⟩⟩⟩
theorem bpost_ret0 (K : AV → Bd → Prop) : bPost [] K .ret t σ = K (.tup []) σ := by
  simp [bPost, retOf]
theorem bpost_end0 (K : AV → Bd → Prop) : bPost [] K .normal t σ = K (.tup []) σ := by
  simp [bPost, retOf]
theorem bpost_ret1 (s : Nat) (K : AV → Bd → Prop) : bPost [.tmp s] K .ret t σ = K (t s) σ := by
  simp [bPost, resAV, retOf]
theorem bpost_ret3 (s u v : Nat) (K : AV → Bd → Prop) : bPost [.tmp s, .tmp u, .tmp v] K .ret t σ = K (.tup [t s, t u, t v]) σ := by
  simp [bPost, resAV, retOf]
end
attribute [go_sem] BEx_skip BEx_seq BEx_ops BEx_cond BEx_block BEx_exit BEx_ret BExO_nil BExO_cons BExO_guard BExG_true BExG_false BAf_eq BExK_nil BExK_seq_normal BExK_seq_ret BExK_seq_exit BExK_blk_normal BExK_blk_ret BExK_blk_exit
attribute [go_sem] BExK_loop_ret BExK_loop_exit BExK_loop_normal BExC_true BExC_false bpost_ret0 bpost_end0 bpost_ret1 bpost_ret3 bopWp BEx_dops BExD_nil BExD_cons BAfD_eq bqWp

end Go.AW

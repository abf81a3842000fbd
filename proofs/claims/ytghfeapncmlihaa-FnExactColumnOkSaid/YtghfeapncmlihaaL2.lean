/- Lemmas on the Lean functions of the printed program, without Go and memory: L2. -/
import Derived.Test.YtghfeapncmlihaaL1
import Derived.Test.YtghfeapncmlihaaOp
namespace Go.Proofs.Ytghfeapncmlihaa.A
open Go.RowKit Go.Proofs.YtghfeapncmlihaaW.PrintWords Go.Proofs.YtghfeapncmlihaaW.PrintLast Go.Proofs.YtghfeapncmlihaaW.PrintMore
set_option linter.unusedVariables false
set_option linter.unusedSimpArgs false

/-- A box that can belong to a gap. -/
def opB (b : S71) : Bool := decide (b.f2 = 0) && !b.f3
def sumB (l : List S71) : Int := (l.map (fun b => b.f1)).foldr (· + ·) 0
theorem sumB_nil : sumB [] = 0 := rfl
theorem sumB_cons (b : S71) (l : List S71) : sumB (b :: l) = b.f1 + sumB l := rfl
theorem sumB_app (a b : List S71) : sumB (a ++ b) = sumB a + sumB b := by
  induction a with
  | nil => simp [sumB_nil]
  | cons x a ih => rw [List.cons_append, sumB_cons, sumB_cons, ih]; omega
/-- Boxes one above the other, from lo to hi. -/
def tile : Int → List S71 → Int → Prop
  | lo, [], hi => lo = hi
  | lo, b :: bs, hi => b.f0 = lo ∧ 1 ≤ b.f1 ∧ tile (lo + b.f1) bs hi
theorem tile_sum : ∀ (bs : List S71) (lo hi : Int), tile lo bs hi → lo + sumB bs = hi ∧ lo + bs.length ≤ hi
  | [], lo, hi, h => by simp only [tile] at h; subst h; simp [sumB_nil]
  | b :: bs, lo, hi, h => by
    obtain ⟨_, h1, h2⟩ := h
    have := tile_sum bs _ _ h2
    rw [sumB_cons, List.length_cons]
    omega
theorem tile_app : ∀ (a b : List S71) (lo hi : Int), tile lo (a ++ b) hi ↔ tile lo a (lo + sumB a) ∧ tile (lo + sumB a) b hi
  | [], b, lo, hi => by simp [tile, sumB_nil]
  | x :: a, b, lo, hi => by
    simp only [List.cons_append, tile, sumB_cons]
    rw [tile_app a b, show lo + (x.f1 + sumB a) = lo + x.f1 + sumB a by omega]
    constructor
    · rintro ⟨h1, h2, h3, h4⟩; exact ⟨⟨h1, h2, h3⟩, h4⟩
    · rintro ⟨⟨h1, h2, h3⟩, h4⟩; exact ⟨h1, h2, h3, h4⟩
theorem tile_mem : ∀ (bs : List S71) (lo hi : Int), tile lo bs hi → ∀ b ∈ bs, lo ≤ b.f0 ∧ 1 ≤ b.f1 ∧ b.f0 + b.f1 ≤ hi
  | [], _, _, _, b, hb => absurd hb (by simp)
  | x :: bs, lo, hi, h, b, hb => by
    obtain ⟨h0, h1, h2⟩ := h
    have h3 := tile_sum bs _ _ h2
    rcases List.mem_cons.mp hb with rfl | hb
    · omega
    · have := tile_mem bs _ _ h2 b hb
      omega
/-- What ends a run: no box, a closed one, or one on a fixed wall. -/
def Cut (fx : List Int) : List S71 → Prop
  | [] => True
  | b :: _ => opB b = false ∨ b.f0 ∈ fx
/-- The gap of a run. -/
def gapR : List S71 → S54
  | [] => ⟨0, 0, 0⟩
  | b :: bs => ⟨0, b.f0, sumB (b :: bs)⟩
def emR (cur : List S71) : List S54 := if cur = [] then [] else [gapR cur]
/-- The gaps of boxes, a run begun. -/
def gapsW (fx : List Int) : List S71 → List S71 → List S54
  | cur, [] => emR cur
  | cur, b :: bs => if opB b = true then (if cur ≠ [] ∧ b.f0 ∉ fx then gapsW fx (cur ++ [b]) bs else emR cur ++ gapsW fx [b] bs) else emR cur ++ gapsW fx [] bs
def gapsB (fx : List Int) (bx : List S71) : List S54 := gapsW fx [] bx
/-- The runs of boxes: what is ahead, the run, what is behind. -/
def emD (pre cur bs : List S71) : List (List S71 × List S71 × List S71) := if cur = [] then [] else [(pre, cur, bs)]
def decs (fx : List Int) : List S71 → List S71 → List S71 → List (List S71 × List S71 × List S71)
  | pre, cur, [] => emD pre cur []
  | pre, cur, b :: bs => if opB b = true then (if cur ≠ [] ∧ b.f0 ∉ fx then decs fx pre (cur ++ [b]) bs else emD pre cur (b :: bs) ++ decs fx (pre ++ cur) [b] bs) else emD pre cur (b :: bs) ++ decs fx (pre ++ cur ++ [b]) [] bs
theorem emD_gap (pre cur bs : List S71) : (emD pre cur bs).map (fun d => gapR d.2.1) = emR cur := by
  unfold emD emR; split <;> rfl
theorem decs_gaps (fx : List Int) : ∀ (bs pre cur : List S71), (decs fx pre cur bs).map (fun d => gapR d.2.1) = gapsW fx cur bs
  | [], pre, cur => emD_gap pre cur []
  | b :: bs, pre, cur => by
    simp only [decs, gapsW]
    split
    · split
      · exact decs_gaps fx bs _ _
      · rw [List.map_append, emD_gap, decs_gaps fx bs]
    · rw [List.map_append, emD_gap, decs_gaps fx bs]
theorem gapsW_cut (fx : List Int) (B cur : List S71) (h : Cut fx B) : gapsW fx cur B = emR cur ++ gapsW fx [] B := by
  cases B with
  | nil => simp [gapsW, emR]
  | cons b B =>
    have e : emR [] = [] := rfl
    simp only [gapsW]
    by_cases hb : opB b = true
    · have hf : b.f0 ∈ fx := by
        rcases h with h | h
        · rw [hb] at h; cases h
        · exact h
      rw [if_pos hb, if_pos hb, if_neg (fun c => c.2 hf), if_neg (fun c => c.2 hf), e, List.nil_append]
    · rw [if_neg hb, if_neg hb, e, List.nil_append]
theorem gapsW_app (fx : List Int) (B : List S71) (h : Cut fx B) : ∀ (A cur : List S71), gapsW fx cur (A ++ B) = gapsW fx cur A ++ gapsW fx [] B
  | [], cur => gapsW_cut fx B cur h
  | a :: A, cur => by
    simp only [List.cons_append, gapsW]
    split
    · split
      · exact gapsW_app fx B h A _
      · rw [gapsW_app fx B h A, List.append_assoc]
    · rw [gapsW_app fx B h A, List.append_assoc]
/-- What is behind a closed box, or behind none, is for itself. -/
def Shut (fx : List Int) (A : List S71) : Prop := ∀ Z, gapsW fx [] (A ++ Z) = gapsW fx [] A ++ gapsW fx [] Z
def ShutAt (fx : List Int) (A : List S71) (lo : Int) : Prop := ∀ z Z, z.f0 = lo → gapsW fx [] (A ++ z :: Z) = gapsW fx [] A ++ gapsW fx [] (z :: Z)
theorem shut_nil (fx : List Int) : Shut fx [] := fun Z => by simp [gapsW, emR]
theorem shut_snoc (fx : List Int) (A : List S71) (b : S71) (hb : opB b = false) : Shut fx (A ++ [b]) := by
  intro Z
  have hc : ∀ Z, Cut fx (b :: Z) := fun Z => Or.inl hb
  have hb' : ¬ opB b = true := by rw [hb]; simp
  rw [List.append_assoc, show [b] ++ Z = b :: Z from rfl, gapsW_app fx (b :: Z) (hc Z), gapsW_app fx [b] (hc []), List.append_assoc]
  simp only [gapsW]
  rw [if_neg hb', if_neg hb']
  simp [emR]
theorem Shut.at {fx : List Int} {A : List S71} (h : Shut fx A) (lo : Int) : ShutAt fx A lo := fun z Z _ => h (z :: Z)
theorem shutAt_fixed (fx : List Int) (A : List S71) (lo : Int) (h : lo ∈ fx) : ShutAt fx A lo := fun z Z e => gapsW_app fx (z :: Z) (Or.inr (by rw [e]; exact h)) A []
def loR (R : List S71) : Int := (R.headD z71).f0
/-- A run and its place. -/
structure RunAt (fx : List Int) (bx A R B : List S71) : Prop where
  all : A ++ R ++ B = bx
  ne : R ≠ []
  opn : ∀ b ∈ R, opB b = true
  free : ∀ b ∈ R.tail, b.f0 ∉ fx
  pre : ShutAt fx A (loR R)
  post : Cut fx B
theorem loR_app {R : List S71} (h : R ≠ []) (S : List S71) : loR (R ++ S) = loR R := by
  cases R with
  | nil => exact absurd rfl h
  | cons x R => rfl
theorem decs_runs (fx : List Int) : ∀ (bs pre cur : List S71), (cur = [] → Shut fx pre) → (cur ≠ [] → ShutAt fx pre (loR cur) ∧ (∀ b ∈ cur, opB b = true) ∧ ∀ b ∈ cur.tail, b.f0 ∉ fx) →
    ∀ d ∈ decs fx pre cur bs, RunAt fx (pre ++ cur ++ bs) d.1 d.2.1 d.2.2 := by
  intro bs
  induction bs with
  | nil =>
    intro pre cur h0 h1 d hd
    simp only [decs, emD] at hd
    split at hd
    · simp at hd
    · next hc =>
      simp only [List.mem_singleton] at hd
      subst hd
      exact ⟨rfl, hc, (h1 hc).2.1, (h1 hc).2.2, (h1 hc).1, trivial⟩
  | cons b bs ih =>
    intro pre cur h0 h1 d hd
    simp only [decs] at hd
    have em : ∀ (hC : Cut fx (b :: bs)), d ∈ emD pre cur (b :: bs) → RunAt fx (pre ++ cur ++ b :: bs) d.1 d.2.1 d.2.2 := by
      intro hC he
      simp only [emD] at he
      split at he
      · simp at he
      · next hc =>
        simp only [List.mem_singleton] at he
        subst he
        exact ⟨rfl, hc, (h1 hc).2.1, (h1 hc).2.2, (h1 hc).1, hC⟩
    by_cases hb : opB b = true
    · rw [if_pos hb] at hd
      by_cases hc : cur ≠ [] ∧ b.f0 ∉ fx
      · rw [if_pos hc] at hd
        obtain ⟨g1, g2, g3⟩ := h1 hc.1
        have := ih pre (cur ++ [b]) (fun e => by simp at e) (fun _ => ⟨by rw [loR_app hc.1]; exact g1, fun x hx => by
          rcases List.mem_append.mp hx with hx | hx
          · exact g2 x hx
          · rw [List.mem_singleton.mp hx]; exact hb, fun x hx => by
          rw [List.tail_append_of_ne_nil hc.1] at hx
          rcases List.mem_append.mp hx with hx | hx
          · exact g3 x hx
          · rw [List.mem_singleton.mp hx]; exact hc.2⟩) d hd
        simpa using this
      · rw [if_neg hc] at hd
        rcases List.mem_append.mp hd with hd | hd
        · by_cases hcur : cur = []
          · subst hcur; simp [emD] at hd
          · exact em (Or.inr (Classical.byContradiction fun e => hc ⟨hcur, e⟩)) hd
        · have := ih (pre ++ cur) [b] (fun e => by simp at e) (fun _ => ⟨by
            by_cases hcur : cur = []
            · subst hcur; rw [List.append_nil]; exact (h0 rfl).at _
            · exact shutAt_fixed fx _ _ (Classical.byContradiction fun e => hc ⟨hcur, e⟩), fun x hx => by rw [List.mem_singleton.mp hx]; exact hb, fun x hx => by simp at hx⟩) d hd
          simpa using this
    · rw [if_neg hb] at hd
      have hb' : opB b = false := by simpa using hb
      rcases List.mem_append.mp hd with hd | hd
      · exact em (Or.inl hb') hd
      · have := ih (pre ++ cur ++ [b]) [] (fun _ => shut_snoc fx _ b hb') (fun e => absurd rfl e) d hd
        simpa using this
theorem decs_top (fx : List Int) (bx : List S71) : ∀ d ∈ decs fx [] [] bx, RunAt fx bx d.1 d.2.1 d.2.2 := by
  have := decs_runs fx bx [] [] (fun _ => shut_nil fx) (fun e => absurd rfl e)
  simpa using this
/-- A run alone is one gap. -/
theorem gapsW_run (fx : List Int) : ∀ (R cur : List S71), cur ≠ [] → (∀ b ∈ R, opB b = true) → (∀ b ∈ R, b.f0 ∉ fx) → gapsW fx cur R = [gapR (cur ++ R)]
  | [], cur, hc, _, _ => by simp only [gapsW, emR]; rw [if_neg hc, List.append_nil]
  | b :: R, cur, hc, h1, h2 => by
    simp only [gapsW]
    rw [if_pos (h1 b (by simp)), if_pos ⟨hc, h2 b (by simp)⟩, gapsW_run fx R (cur ++ [b]) (by simp) (fun x hx => h1 x (by simp [hx])) (fun x hx => h2 x (by simp [hx]))]
    simp
theorem run_gap {fx : List Int} {bx A R B : List S71} (h : RunAt fx bx A R B) : gapsB fx R = [gapR R] := by
  have h1 := h.ne
  have h2 := h.opn
  have h3 := h.free
  cases R with
  | nil => exact absurd rfl h1
  | cons r R =>
    unfold gapsB
    simp only [gapsW]
    rw [if_pos (h2 r (by simp)), if_neg (fun c => c.1 rfl), gapsW_run fx R [r] (by simp) (fun x hx => h2 x (by simp [hx])) (fun x hx => h3 x hx)]
    rfl
/-- The gaps with other boxes in a run's place. -/
theorem run_put {fx : List Int} {bx A R B : List S71} (h : RunAt fx bx A R B) (N : List S71) (hN : N ≠ []) (hs : loR N = loR R ∨ Cut fx N) : gapsB fx (A ++ N ++ B) = gapsB fx A ++ gapsB fx N ++ gapsB fx B := by
  unfold gapsB
  cases N with
  | nil => exact absurd rfl hN
  | cons n N =>
    have h1 : gapsW fx [] (A ++ (n :: N)) = gapsW fx [] A ++ gapsW fx [] (n :: N) := by
      rcases hs with hs | hs
      · exact h.pre n N hs
      · exact gapsW_app fx (n :: N) hs A []
    rw [gapsW_app fx B h.post, h1]
theorem run_gaps {fx : List Int} {bx A R B : List S71} (h : RunAt fx bx A R B) : gapsB fx bx = gapsB fx A ++ [gapR R] ++ gapsB fx B := by
  rw [← h.all, run_put h R h.ne (Or.inl rfl), run_gap h]
/-- The gaps are one above the other. -/
theorem gapsW_asc (fx : List Int) : ∀ (bs cur : List S71) (lo hi : Int), tile lo bs hi → (cur ≠ [] → loR cur < lo) → (gapsW fx cur bs).Pairwise (fun a b => a.f1 < b.f1) ∧ ∀ g ∈ gapsW fx cur bs, (cur = [] → lo ≤ g.f1) ∧ (cur ≠ [] → loR cur ≤ g.f1)
  | [], cur, lo, hi, _, hc => by
    simp only [gapsW, emR]
    split
    · next e => exact ⟨List.Pairwise.nil, fun g hg => absurd hg (by simp)⟩
    · next e =>
      refine ⟨by simp, fun g hg => ⟨fun c => absurd c e, fun _ => ?_⟩⟩
      rw [List.mem_singleton.mp hg]
      cases cur with
      | nil => exact absurd rfl e
      | cons x cur => exact Int.le_refl _
  | b :: bs, cur, lo, hi, ht, hc => by
    obtain ⟨e0, e1, e2⟩ := ht
    simp only [gapsW]
    have em : ∀ (L : List S54), L.Pairwise (fun a b => a.f1 < b.f1) → (∀ g ∈ L, lo ≤ g.f1) → (emR cur ++ L).Pairwise (fun a b => a.f1 < b.f1) ∧ ∀ g ∈ emR cur ++ L, (cur = [] → lo ≤ g.f1) ∧ (cur ≠ [] → loR cur ≤ g.f1) := by
      intro L h1 h2
      unfold emR
      by_cases e : cur = []
      · rw [if_pos e, List.nil_append]
        exact ⟨h1, fun g hg => ⟨fun _ => h2 g hg, fun c => absurd e c⟩⟩
      · have hl := hc e
        have hg0 : (gapR cur).f1 = loR cur := by cases cur with | nil => exact absurd rfl e | cons x cur => rfl
        rw [if_neg e]
        refine ⟨List.pairwise_append.mpr ⟨by simp, h1, fun a ha b hb => ?_⟩, fun g hg => ⟨fun c => absurd c e, fun _ => ?_⟩⟩
        · rw [List.mem_singleton.mp ha, hg0]; have := h2 b hb; omega
        · rcases List.mem_append.mp hg with hg | hg
          · rw [List.mem_singleton.mp hg, hg0]; exact Int.le_refl _
          · have := h2 g hg; omega
    split
    · split
      · next h =>
        have ih := gapsW_asc fx bs (cur ++ [b]) _ hi e2 (fun _ => by rw [loR_app h.1]; have := hc h.1; omega)
        refine ⟨ih.1, fun g hg => ⟨fun c => absurd c h.1, fun _ => ?_⟩⟩
        have := (ih.2 g hg).2 (by simp)
        rwa [loR_app h.1] at this
      · have ih := gapsW_asc fx bs [b] _ hi e2 (fun _ => by show b.f0 < _; omega)
        exact em _ ih.1 (fun g hg => by have := (ih.2 g hg).2 (by simp); show lo ≤ g.f1; have h2 : loR [b] = b.f0 := rfl; omega)
    · have ih := gapsW_asc fx bs [] _ hi e2 (fun e => absurd rfl e)
      exact em _ ih.1 (fun g hg => by have := (ih.2 g hg).1 rfl; omega)
/-- What fills a gap: other boxes for those that begin in it. -/
def fillB (lo sz : Int) (N bx : List S71) : List S71 := bx.flatMap (fun b => (if b.f0 = lo then N else []) ++ (if b.f0 < lo ∨ lo + sz ≤ b.f0 then [b] else []))
theorem fillB_out (lo sz : Int) (N : List S71) : ∀ (l : List S71), (∀ b ∈ l, b.f0 ≠ lo ∧ (b.f0 < lo ∨ lo + sz ≤ b.f0)) → fillB lo sz N l = l
  | [], _ => rfl
  | b :: l, h => by
    have h1 := h b (by simp)
    have ih := fillB_out lo sz N l (fun x hx => h x (by simp [hx]))
    unfold fillB at ih ⊢
    rw [List.flatMap_cons, ih, if_neg h1.1, if_pos h1.2]
    rfl
theorem fillB_in (lo sz : Int) (N : List S71) : ∀ (l : List S71), (∀ b ∈ l, lo < b.f0 ∧ b.f0 < lo + sz) → fillB lo sz N l = []
  | [], _ => rfl
  | b :: l, h => by
    have h1 := h b (by simp)
    have ih := fillB_in lo sz N l (fun x hx => h x (by simp [hx]))
    unfold fillB at ih ⊢
    rw [List.flatMap_cons, ih, if_neg (by omega), if_neg (by omega)]
    rfl
theorem fillB_run {A R B : List S71} {lo hi : Int} (h : tile lo (A ++ R ++ B) hi) (hR : R ≠ []) (N : List S71) : fillB (loR R) (sumB R) N (A ++ R ++ B) = A ++ N ++ B := by
  rw [tile_app, tile_app] at h
  obtain ⟨⟨hA, hM⟩, hB⟩ := h
  rw [sumB_app] at hB
  cases R with
  | nil => exact absurd rfl hR
  | cons r R =>
    have er : loR (r :: R) = r.f0 := rfl
    obtain ⟨m0, m1, m2⟩ := hM
    have s := tile_sum _ _ _ m2
    unfold fillB
    rw [List.flatMap_append, List.flatMap_append]
    have a1 := fillB_out (loR (r :: R)) (sumB (r :: R)) N A (fun b hb => by have := tile_mem _ _ _ hA b hb; rw [er]; omega)
    have a2 := fillB_out (loR (r :: R)) (sumB (r :: R)) N B (fun b hb => by have := tile_mem _ _ _ hB b hb; rw [er, sumB_cons] at *; omega)
    have a3 := fillB_in (loR (r :: R)) (sumB (r :: R)) N R (fun b hb => by have := tile_mem _ _ _ m2 b hb; rw [er, sumB_cons]; omega)
    unfold fillB at a1 a2 a3
    rw [a1, a2, List.flatMap_cons, a3, if_pos er.symm, if_neg (by rw [er, sumB_cons]; have := tile_sum _ _ _ m2; omega)]
    simp

/-- Parcels of boxes: in the range, none twice, none of those in ps. -/
def parcs (ps : List Int) : List S71 → Prop
  | [] => True
  | b :: bs => (0 ≤ b.f2 ∧ b.f2 ≤ 999) ∧ ¬ (0 < b.f2 ∧ b.f2 ∈ ps) ∧ parcs (b.f2 :: ps) bs
theorem boxS_iff : ∀ (bs : List S71) (low : Int) (ps : List Int) (e : Int), 0 ≤ low → low ≤ 24 → (boxS bs low ps = some e ↔ tile low bs e ∧ e ≤ 24 ∧ parcs ps bs)
  | [], low, ps, e, h0, h => by
    simp only [boxS, tile, parcs, Option.some.injEq]
    constructor
    · rintro rfl; exact ⟨rfl, h, trivial⟩
    · rintro ⟨h, _⟩; exact h
  | b :: bs, low, ps, e, hn, h => by
    simp only [boxS, tile, parcs]
    constructor
    · intro hs
      split at hs
      · next hc =>
        obtain ⟨h1, h2, h3⟩ := (boxS_iff bs _ _ e (by omega) hc.2.2.2.2).mp hs
        exact ⟨⟨hc.1, hc.2.1.1, h1⟩, h2, hc.2.2.1, hc.2.2.2.1, h3⟩
      · cases hs
    · rintro ⟨⟨h0, h1, h2⟩, h3, h4, h5, h6⟩
      have hs := tile_sum _ _ _ h2
      rw [if_pos ⟨h0, ⟨h1, by omega⟩, h4, h5, by omega⟩]
      exact (boxS_iff bs _ _ e (by omega) (by omega)).mpr ⟨h2, h3, h6⟩
/-- A right column. -/
structure ColV (h : Int) (fx : List Int) (bx : List S71) : Prop where
  hi : 1 ≤ h ∧ h ≤ 24
  til : tile 0 bx h
  par : parcs [] bx
  fix : fixP h none fx = true
  low : ∀ f ∈ fx, ∃ b ∈ bx, b.f0 = f
theorem colP_iff (h : Int) (fx : List Int) (bx : List S71) : colP h fx bx = true ↔ ColV h fx bx := by
  rw [← colS_eq]
  constructor
  · intro e
    simp only [Bool.and_eq_true, decide_eq_true_eq] at e
    obtain ⟨e1, e2, e3, e4⟩ := e
    cases hS : boxS bx 0 [] with
    | none => rw [hS] at e2; simp [boxesS] at e2
    | some x =>
      rw [hS] at e2
      simp only [boxesS, Bool.and_eq_true, decide_eq_true_eq] at e2
      obtain ⟨_, rfl⟩ := e2
      obtain ⟨t1, t2, t3⟩ := (boxS_iff bx 0 [] x (by omega) (by omega)).mp hS
      refine ⟨e1, t1, t3, e3, fun f hf => ?_⟩
      have := List.all_eq_true.mp e4 f hf
      simp only [decide_eq_true_eq, List.mem_map] at this
      exact this
  · intro v
    have hS := (boxS_iff bx 0 [] h (by omega) (by omega)).mpr ⟨v.til, v.hi.2, v.par⟩
    have hne : bx ≠ [] := by
      intro e
      have := v.til
      rw [e] at this
      simp only [tile] at this
      have := v.hi
      omega
    simp only [Bool.and_eq_true, decide_eq_true_eq]
    refine ⟨v.hi, ?_, v.fix, ?_⟩
    · rw [hS]; simp [boxesS, hne]
    · exact List.all_eq_true.mpr (fun f hf => by simp only [decide_eq_true_eq, List.mem_map]; exact v.low f hf)
theorem ColV.len {h : Int} {fx : List Int} {bx : List S71} (v : ColV h fx bx) : bx.length ≤ 24 := by
  have := tile_sum _ _ _ v.til
  have := v.hi
  omega
theorem ColV.mem {h : Int} {fx : List Int} {bx : List S71} (v : ColV h fx bx) {b : S71} (hb : b ∈ bx) : 0 ≤ b.f0 ∧ 1 ≤ b.f1 ∧ b.f0 + b.f1 ≤ 24 := by
  have := tile_mem _ _ _ v.til b hb
  have := v.hi
  omega
theorem parcs_iff : ∀ (bs : List S71) (ps : List Int), parcs ps bs ↔ (∀ b ∈ bs, 0 ≤ b.f2 ∧ b.f2 ≤ 999) ∧ (∀ b ∈ bs, 0 < b.f2 → b.f2 ∉ ps) ∧ bs.Pairwise (fun a b => 0 < b.f2 → a.f2 ≠ b.f2)
  | [], ps => by simp [parcs]
  | b :: bs, ps => by
    simp only [parcs]
    rw [parcs_iff bs]
    constructor
    · rintro ⟨h1, h2, h3, h4, h5⟩
      refine ⟨fun x hx => ?_, fun x hx h0 => ?_, List.pairwise_cons.mpr ⟨fun x hx h0 e => h4 x hx h0 (by rw [← e]; simp), h5⟩⟩
      · rcases List.mem_cons.mp hx with rfl | hx
        · exact h1
        · exact h3 x hx
      · rcases List.mem_cons.mp hx with rfl | hx
        · exact fun hm => h2 ⟨h0, hm⟩
        · exact fun hm => h4 x hx h0 (by simp [hm])
    · rintro ⟨h1, h2, h3⟩
      obtain ⟨h4, h5⟩ := List.pairwise_cons.mp h3
      refine ⟨h1 b (by simp), fun h => h2 b (by simp) h.1 h.2, fun x hx => h1 x (by simp [hx]), fun x hx h0 hm => ?_, h5⟩
      rcases List.mem_cons.mp hm with e | hm
      · exact h4 x hx h0 e.symm
      · exact h2 x (by simp [hx]) h0 hm

/-- The first gap with the least size that is enough. -/
def leastW (size : Int) : Option S54 → List S54 → Option S54
  | best, [] => best
  | best, g :: l => if size ≤ g.f2 ∧ (∀ b ∈ best, g.f2 < b.f2) then leastW size (some g) l else leastW size best l
def leastP (size : Int) (l : List S54) : Option S54 := if size < 1 then none else leastW size none l
/-- What the search tells, beginning with one at hand. -/
theorem leastW_some (size : Int) : ∀ (l : List S54) (b : S54), size ≤ b.f2 → 
    (leastW size (some b) l = some b ∧ ∀ x ∈ l, x.f2 < size ∨ b.f2 ≤ x.f2) ∨ ∃ l1 g l2, l = l1 ++ g :: l2 ∧ leastW size (some b) l = some g ∧ size ≤ g.f2 ∧ g.f2 < b.f2 ∧ (∀ x ∈ l1, x.f2 < size ∨ g.f2 < x.f2) ∧ ∀ x ∈ l2, x.f2 < size ∨ g.f2 ≤ x.f2
  | [], b, hb => Or.inl ⟨rfl, by simp⟩
  | y :: l, b, hb => by
    simp only [leastW, Option.mem_def, Option.some.injEq, forall_eq']
    by_cases c : size ≤ y.f2 ∧ y.f2 < b.f2
    · rw [if_pos c]
      right
      rcases leastW_some size l y c.1 with ⟨h1, h2⟩ | ⟨l1, g, l2, h0, h1, h2, h3, h4, h5⟩
      · exact ⟨[], y, l, rfl, h1, c.1, c.2, by simp, h2⟩
      · exact ⟨y :: l1, g, l2, by rw [h0]; rfl, h1, h2, by omega, fun x hx => by
          rcases List.mem_cons.mp hx with rfl | hx
          · exact Or.inr h3
          · exact h4 x hx, h5⟩
    · rw [if_neg c]
      rcases leastW_some size l b hb with ⟨h1, h2⟩ | ⟨l1, g, l2, h0, h1, h2, h3, h4, h5⟩
      · left
        exact ⟨h1, fun x hx => by
          rcases List.mem_cons.mp hx with rfl | hx
          · omega
          · exact h2 x hx⟩
      · right
        exact ⟨y :: l1, g, l2, by rw [h0]; rfl, h1, h2, h3, fun x hx => by
          rcases List.mem_cons.mp hx with rfl | hx
          · omega
          · exact h4 x hx, h5⟩
theorem leastW_none (size : Int) : ∀ (l : List S54),
    (leastW size none l = none ∧ ∀ x ∈ l, x.f2 < size) ∨ ∃ l1 g l2, l = l1 ++ g :: l2 ∧ leastW size none l = some g ∧ size ≤ g.f2 ∧ (∀ x ∈ l1, x.f2 < size ∨ g.f2 < x.f2) ∧ ∀ x ∈ l2, x.f2 < size ∨ g.f2 ≤ x.f2
  | [] => Or.inl ⟨rfl, by simp⟩
  | y :: l => by
    simp only [leastW]
    by_cases c : size ≤ y.f2
    · rw [if_pos ⟨c, fun b hb => by cases hb⟩]
      right
      rcases leastW_some size l y c with ⟨h1, h2⟩ | ⟨l1, g, l2, h0, h1, h2, h3, h4, h5⟩
      · exact ⟨[], y, l, rfl, h1, c, by simp, h2⟩
      · exact ⟨y :: l1, g, l2, by rw [h0]; rfl, h1, h2, fun x hx => by
          rcases List.mem_cons.mp hx with rfl | hx
          · exact Or.inr h3
          · exact h4 x hx, h5⟩
    · rw [if_neg (fun h => c h.1)]
      rcases leastW_none size l with ⟨h1, h2⟩ | ⟨l1, g, l2, h0, h1, h2, h4, h5⟩
      · left
        exact ⟨h1, fun x hx => by
          rcases List.mem_cons.mp hx with rfl | hx
          · omega
          · exact h2 x hx⟩
      · right
        exact ⟨y :: l1, g, l2, by rw [h0]; rfl, h1, h2, fun x hx => by
          rcases List.mem_cons.mp hx with rfl | hx
          · omega
          · exact h4 x hx, h5⟩
theorem leastP_mem {size : Int} {l : List S54} {g : S54} (h : leastP size l = some g) : g ∈ l ∧ size ≤ g.f2 ∧ 1 ≤ size ∧ ∀ x ∈ l, size ≤ x.f2 → g.f2 ≤ x.f2 := by
  unfold leastP at h
  split at h
  · cases h
  · rcases leastW_none size l with ⟨h1, h2⟩ | ⟨l1, y, l2, h0, h1, h2, h4, h5⟩
    · rw [h1] at h; cases h
    · rw [h1] at h
      obtain rfl := Option.some.inj h
      refine ⟨by rw [h0]; simp, h2, by omega, fun x hx hs => ?_⟩
      rw [h0] at hx
      rcases List.mem_append.mp hx with hx | hx
      · have := h4 x hx; omega
      · rcases List.mem_cons.mp hx with rfl | hx
        · exact Int.le_refl _
        · have := h5 x hx; omega
theorem leastP_none {size : Int} {l : List S54} (h : leastP size l = none) (hs : 1 ≤ size) : ∀ x ∈ l, x.f2 < size := by
  unfold leastP at h
  rw [if_neg (by omega)] at h
  rcases leastW_none size l with ⟨h1, h2⟩ | ⟨l1, y, l2, h0, h1, h2, h4, h5⟩
  · exact h2
  · rw [h1] at h; cases h


end Go.Proofs.Ytghfeapncmlihaa.A

/- What the proof of the law Pairs stands on, part 3: words, each Go function's Lean function, and that the Go code comes to its answers; no condition. (Packed by wip/myprint/pack.py out of what the kit's printer wrote, its words among it, partly by our patches of it, and out of texts of this session.) -/
import Derived.Eval
import Derived.Test.YthmcpmnhdbeahaaGreatProg
import Derived.Test.YthmcpmnhdbeahaaGreatChecked
import Derived.KernelRfl
import Derived.ChangeSlices
import Derived.ChangeSame
import Derived.Deep.Matrix
import Derived.Lib.SmallJoins
import Derived.Test.YthmcpmnhdbeahaaGreatKPairs2
set_option linter.unusedVariables false
set_option linter.unusedSimpArgs false
namespace Go.Proofs.YthmcpmnhdbeahaaGreat.D
open Go Go.RowKit
structure Stp where
 dst : Option Tmp
 v : AV
 add : List (Nat × Ob)
 del : List Nat
 need : List Nat
 lo : Nat
 hi : Nat
def Stp.tch (s : Stp) : List Nat := keys s.add ++ s.del
def Stp.fr (s : Stp) (f : List (Nat × AV)) : List (Nat × AV) := match s.dst with
 | some d => pt d s.v f
 | none => f
def Stp.st (s : Stp) (σ : St) : St := ⟨s.fr σ.fr, pts s.add (rms s.del σ.ob), s.hi⟩
def LooksAt (P : Program) (B : Nat → Prop) (ρ : Rz) (Z : Nat → Prop) (w : World) (ts : List Tmp) (fr : List (Nat × AV)) (a : Act) : Prop :=
 ∀ t ∈ ts, ∀ av, lk t fr = some av → AR P B ρ Z w av (a.eval (.tmp t))
def After (P : Program) (B : Nat → Prop) (ρ : Rz) (Z : Nat → Prop) (w : World) (L : List (Nat × Ob)) (s : Stp) (v : Value) (w' : World) : Prop :=
 ∃ ρ' Z', Mem P B ρ' Z' (look (pts s.add (rms s.del L))) w' ∧ Trn ρ Z (look L) w ρ' Z' (look (pts s.add (rms s.del L))) w' ∧ AR P B ρ' Z' w' s.v v ∧ ∀ T, ρ T = none → ¬ (s.lo ≤ T ∧ T < s.hi) → ρ' T = none
structure Runs (P : Program) (B : Nat → Prop) (n : Nat) (all : Array Oper) (o : Oper) (σ : St) (s : Stp) : Prop where
 nd : nodup (keys s.add) = true
 dst : s.dst = o.dst
 lo : s.lo = σ.nx
 le : s.lo ≤ s.hi
 room : ∀ d, o.dst = some d → d < n
 run : ∀ (ρ : Rz) (Z : Nat → Prop) (w : World) (a : Act) (L : List (Nat × Ob)), Mem P B ρ Z (look L) w → (∀ T ∈ s.need ++ s.tch, lk T L = lk T σ.ob) → LooksAt P B ρ Z w (o.looksAt all) σ.fr a →
  (∀ T, s.lo ≤ T → T < s.hi → ρ T = none) → ∀ (K : Act → World → Prop) (Q : Exit → Act → World → Prop), (∀ v w', After P B ρ Z w L s v w' → K (a.put o.dst v) w') →
  if Region.wanted o (yielded all a.tmps) = true then o.wp P a w K Q else K (a.put o.dst undef) w
def DecOk (dec : List (Nat × Bool)) (fr : List (Nat × AV)) : Prop := ∀ g b, lk g dec = some b → ∃ n p d, lk g fr = some (.lf (.cnd n p d)) ∧ bval n p d = b
section
variable {P : Program} {B Z Z' : Nat → Prop} {ρ : Rz} {w : World} {E : Env}
theorem opD_opPg {nx : Nat} {dec : List (Nat × Bool)} {fr : List (Nat × AV)} (hd : DecOk dec fr) {o : Oper} {β : Type} {ob : List (Nat × Ob)} {KK : Eff → List Nat → Option β} {nd : List Nat} :
  (opD E nx dec (ev fr) o).run ob KK nd = (opPg E nx (ev fr) o).run ob KK nd := by
 unfold opD
 split
 ·
  rename_i t x y ho
  split
  ·
   rename_i b hb
   obtain ⟨n, p, d, h1, h2⟩ := hd t b hb
   unfold opPg
   rw [ho]
   have h3 : ev fr (.tmp t) = some (.lf (.cnd n p d)) := h1
   simp only [pPick, h3, Pg.run]
   subst h2
   unfold bval
   by_cases hp : p
   ·
    rw [if_pos hp, decide_eq_true hp]; cases n <;> rfl
   ·
    rw [if_neg hp, decide_eq_false hp]; cases n <;> rfl
  ·
   rfl
 ·
  rfl
theorem looks_op {all : Array Oper} {o : Oper} {t : Tmp} (h : Operand.tmp t ∈ o.op.operands) : t ∈ o.looksAt all := by
 unfold Oper.looksAt
 refine List.mem_append_left _ ?_
 rw [List.mem_filterMap]
 exact ⟨_, by simpa using h, rfl⟩
theorem ev_AR {all : Array Oper} {o : Oper} {fr : List (Nat × AV)} {a : Act} (hl : LooksAt P B ρ Z w (o.looksAt all) fr a) {x : Operand} (hx : x ∈ o.op.operands) {av : AV} (h : ev fr x = some av) : AR P B ρ Z w av (a.eval x) := by
 cases x with
 | tmp t => exact hl t (looks_op hx) av h
 | const v => exact constAV_AR h
 | global g => cases h
 | func f => cases h; exact ⟨[], rfl, rfl⟩
structure Goes (P : Program) (B : Nat → Prop) (n : Nat) (all : Array Oper) (o : Oper) (σ : St) (s : Stp) : Prop where
 nd : nodup (keys s.add) = true
 dst : s.dst = o.dst
 lo : s.lo = σ.nx
 le : s.lo ≤ s.hi
 room : ∀ d, o.dst = some d → d < n
 run : ∀ (ρ : Rz) (Z : Nat → Prop) (w : World) (a : Act) (L : List (Nat × Ob)), Mem P B ρ Z (look L) w → (∀ T ∈ s.need ++ s.tch, lk T L = lk T σ.ob) → LooksAt P B ρ Z w (o.looksAt all) σ.fr a →
  (∀ T, s.lo ≤ T → T < s.hi → ρ T = none) → Exec P o a w (After P B ρ Z w L s)
theorem nodup_frz {ob : List (Nat × Ob)} {dst : Option Tmp} {e e' : Eff} {nd : List Nat} (hn : nodup (keys e.add) = true) (h : frzE E ob dst e = some (e', nd)) : nodup (keys e'.add) = true ∧ ∀ T ∈ keys e.add, T ∈ keys e'.add ∨ T ∈ nd := by
 unfold frzE at h
 split at h
 ·
  cases h; exact ⟨hn, fun T hT => .inl hT⟩
 ·
  cases hc : E.frz.contains _ with
  | false => rw [hc] at h; cases h; exact ⟨hn, fun T hT => .inl hT⟩
  | true =>
   rw [hc] at h
   simp only [cond_true] at h
   cases hc2 : E.rows.contains _ with
   | true =>
    rw [hc2] at h
    simp only [cond_true] at h
    unfold shE at h
    split at h
    rotate_left
    ·
     cases h
    rename_i T hv
    split at h
    rotate_left
    ·
     cases h
    obtain ⟨rfl, rfl⟩ := Prod.mk.inj (Option.some.inj h)
    refine ⟨?_, fun U hU => ?_⟩
    ·
     simp only [keys, nodup, Bool.and_eq_true, Bool.not_eq_true', List.contains_eq_mem, decide_eq_false_iff_not]
     refine ⟨fun hh => ?_, nodup_rms [T] hn⟩
     rw [mem_keys, lk_rms, if_pos (List.mem_singleton.2 rfl)] at hh
     cases hh
    ·
     by_cases q : U = T
     ·
      exact .inr (List.mem_singleton.2 q)
     ·
      refine .inl (List.mem_cons_of_mem _ ?_)
      rw [mem_keys] at hU ⊢
      rw [lk_rms, if_neg (by simpa using q)]; exact hU
   | false =>
   rw [hc2] at h
   simp only [cond_false] at h
   split at h
   ·
    rename_i v' Ts hf
    obtain ⟨rfl, rfl⟩ := Prod.mk.inj (Option.some.inj h)
    refine ⟨nodup_rms Ts hn, fun T hT => ?_⟩
    by_cases hTs : T ∈ Ts
    ·
     exact .inr hTs
    ·
     refine .inl ?_
     rw [mem_keys] at hT ⊢
     rw [lk_rms, if_neg hTs]; exact hT
   ·
    cases h
theorem goOp_sound (hE : EnvOk P E) {n : Nat} (hn : E.n = n) {all : Array Oper} {σ : St} {dec : List (Nat × Bool)} (hd : DecOk dec σ.fr) {o : Oper} {β : Type} {k : St → Trc → Option β} {r : β} (h : goOp E σ dec o k = some r) :
  ∃ s, k (s.st σ) (s.need, s.tch) = some r ∧ Goes P B n all o σ s := by
 classical
 unfold goOp at h
 obtain ⟨e, nd, h1, _, h3⟩ := run_local _ _ h
 split at h1
 ·
  rename_i e' nd' hf
  cases hc : newOk σ e (nd ++ nd') e.add.length && dstOk E o.dst with
  | false => rw [hc] at h1; cases h1
  | true =>
   rw [hc] at h1
   simp only [cond_true] at h1
   rw [Bool.and_eq_true] at hc
   obtain ⟨hc, hdst⟩ := hc
   unfold newOk at hc
   rw [Bool.and_eq_true, List.all_eq_true] at hc
   obtain ⟨hnd, hfr⟩ := hc
   obtain ⟨k1, k2⟩ := nodup_frz hnd hf
   refine ⟨⟨o.dst, e'.v, e'.add, e'.del, nd ++ nd', σ.nx, σ.nx + e.add.length⟩, h1, k1, rfl, rfl, Nat.le_add_right _ _, fun d hd' => ?_, fun ρ Z w a L hm hL hl hfree => ?_⟩
   ·
    rw [hd'] at hdst
    rw [← hn]
    exact Nat.blt_eq.mp hdst
   ·
    simp only [Stp.tch] at hL hfree
    have hL1 : ∀ T ∈ nd, lk T L = lk T σ.ob := fun T hT => hL T (by simp [hT])
    have hrun := h3 L (fun e nd => some (e, nd)) hL1
    rw [opD_opPg hd, opPg_congr (f' := fun x => if x ∈ o.op.operands then ev σ.fr x else none) fun x hx => by simp [hx]] at hrun
    obtain ⟨e1, nd1, h4, h5⟩ := opPg_sound (KK := fun e nd => some (e, nd)) hE hm (f := fun x => if x ∈ o.op.operands then ev σ.fr x else none) (a := a) (fun x av hx => by
     by_cases hxo : x ∈ o.op.operands
     ·
      rw [if_pos hxo] at hx
      exact ev_AR hl hxo hx
     ·
      rw [if_neg hxo] at hx; cases hx) hrun
    obtain ⟨rfl, rfl⟩ := Prod.mk.inj (Option.some.inj h4)
    intro K Q hK
    refine h5 (fun T h6 h7 => hfree T h6 h7) K Q fun v w' hdone => hK v w' ?_
    obtain ⟨ρ', Z', g1, g2, g3, g4⟩ := done_frz hnd hf (fun T hT => hL T (by simp [hT])) hdone
    refine ⟨ρ', Z', g1, g2, g3, fun T g5 g6 => g4 T g5 fun g7 => ?_⟩
    have := hfr T g7
    simp only [Bool.or_eq_true, Bool.and_eq_true, List.contains_eq_mem, decide_eq_true_eq, Nat.ble_eq, Nat.blt_eq] at this
    rcases this with ⟨g8, g9⟩ | g8
    ·
     rw [← hL T (by simp only [List.mem_append] at g8 ⊢; exact .inl g8)] at g9
     cases hT : lk T L with
     | none => rw [hT] at g9; cases g9
     | some o' =>
      obtain ⟨z, hz, _⟩ := hm.obj T o' hT
      rw [g5] at hz; cases hz
    ·
     exact g6 g8
 ·
  cases h1
theorem looks_guard {all : Array Oper} {o : Oper} {j : Nat} {want : Bool} (hg : o.guard = some (j, want)) {g : Tmp} (h : gtmp all.toList j = some g) : g ∈ o.looksAt all := by
 unfold Oper.looksAt
 refine List.mem_append_right _ ?_
 rw [hg]
 unfold gtmp at h
 rw [Array.getElem?_toList] at h
 cases ho : all[j]? with
 | none => rw [ho] at h; cases h
 | some o' => rw [ho] at h; simp [ho]; exact h
def ofBool : Value → Option Bool
 | .bool b => some b
 | _ => none
theorem yielded_of {all : Array Oper} {a : Act} {j : Nat} {g : Tmp} (h : gtmp all.toList j = some g) {v : Value} (hv : a.eval (.tmp g) = v) : yielded all a.tmps j = ofBool v := by
 unfold gtmp at h
 rw [Array.getElem?_toList] at h
 cases ho : all[j]? with
 | none => rw [ho] at h; cases h
 | some o' =>
  rw [ho] at h
  have h : o'.dst = some g := h
  unfold yielded
  rw [ho]
  simp only [Option.bind_some, h]
  subst hv
  simp only [Act.eval, Array.getD_eq_getD_getElem?]
  cases hg : a.tmps[g]? with
  | none => rfl
  | some v' => cases v' <;> rfl
theorem runs_skip {n : Nat} {all : Array Oper} {σ : St} {o : Oper} (hroom : ∀ d, o.dst = some d → d < n) (hw : ∀ (ρ : Rz) (Z : Nat → Prop) (w : World) (a : Act), LooksAt P B ρ Z w (o.looksAt all) σ.fr a → Region.wanted o (yielded all a.tmps) = false) :
  Runs P B n all o σ ⟨o.dst, .lf .undef, [], [], [], σ.nx, σ.nx⟩ := by
 refine ⟨rfl, rfl, rfl, Nat.le_refl _, hroom, fun ρ Z w a L hm hL hl hfree K Q hK => ?_⟩
 rw [hw ρ Z w a hl]
 exact hK undef w ⟨ρ, Z, hm, Trn.refl _ _ _ _, rfl, fun _ h _ => h⟩
theorem runs_go {n : Nat} {all : Array Oper} {σ : St} {o : Oper} {s : Stp} (h : Goes P B n all o σ s) (hw : ∀ (ρ : Rz) (Z : Nat → Prop) (w : World) (a : Act), LooksAt P B ρ Z w (o.looksAt all) σ.fr a → Region.wanted o (yielded all a.tmps) = true) :
  Runs P B n all o σ s := by
 refine ⟨h.nd, h.dst, h.lo, h.le, h.room, fun ρ Z w a L hm hL hl hfree K Q hK => ?_⟩
 rw [hw ρ Z w a hl, if_pos rfl]
 exact h.run ρ Z w a L hm hL hl hfree K Q hK
theorem room_of {n : Nat} (hn : E.n = n) {dst : Option Tmp} (h : dstOk E dst = true) : ∀ d, dst = some d → d < n := fun d hd => by
 rw [hd] at h
 rw [← hn]
 exact Nat.blt_eq.mp h
def Chain (P : Program) (B : Nat → Prop) (n : Nat) (all : Array Oper) : List Oper → St → List Stp → St → Prop
 | [], σ, [], σ' => σ' = σ
 | o :: r, σ, s :: q, σ' => Runs P B n all o σ s ∧ Chain P B n all r (s.st σ) q σ'
 | _, _, _, _ => False
theorem decOk_rm {dec : List (Nat × Bool)} {fr : List (Nat × AV)} (h : DecOk dec fr) {s : Stp} {dst : Option Tmp} (hd : s.dst = dst) : DecOk (rmD dst dec) (s.fr fr) := by
 subst hd
 unfold rmD Stp.fr
 cases hs : s.dst with
 | none => exact h
 | some d =>
  intro g b hg
  simp only [lk_rm] at hg
  split at hg
  ·
   cases hg
  ·
   rename_i hne
   obtain ⟨n, p, dd, h1, h2⟩ := h g b hg
   exact ⟨n, p, dd, by simp only [lk_pt, if_neg hne]; exact h1, h2⟩
theorem decOk_cons {dec : List (Nat × Bool)} {fr : List (Nat × AV)} (h : DecOk dec fr) {g : Nat} {n : Bool} {p : Prop} {d : Decidable p} {b : Bool} (hg : lk g fr = some (.lf (.cnd n p d))) (hb : bval n p d = b) : DecOk ((g, b) :: dec) fr := by
 intro g' b' h'
 by_cases he : g' = g
 ·
  subst he
  simp [lk] at h'
  exact ⟨n, p, d, hg, hb.trans h'⟩
 ·
  simp [lk, beq_ne he] at h'
  exact h g' b' h'
theorem wanted_of {all : Array Oper} {o : Oper} {j : Nat} {want : Bool} (hg : o.guard = some (j, want)) {g : Tmp} (ht : gtmp all.toList j = some g) {fr : List (Nat × AV)} {n : Bool} {p : Prop} {d : Decidable p} (hf : lk g fr = some (.lf (.cnd n p d))) {a : Act} (hl : LooksAt P B ρ Z w (o.looksAt all) fr a) :
  Region.wanted o (yielded all a.tmps) = (bval n p d == want) := by
 have h1 : a.eval (.tmp g) = .bool (bval n p d) := hl g (looks_guard hg ht) _ hf
 unfold Region.wanted
 rw [hg]
 simp only [yielded_of ht h1]
 cases bval n p d <;> cases want <;> rfl
theorem wanted_undef {all : Array Oper} {o : Oper} {j : Nat} {want : Bool} (hg : o.guard = some (j, want)) {g : Tmp} (ht : gtmp all.toList j = some g) {fr : List (Nat × AV)} (hf : lk g fr = some (.lf .undef)) {a : Act} (hl : LooksAt P B ρ Z w (o.looksAt all) fr a) :
  Region.wanted o (yielded all a.tmps) = false := by
 have h1 : a.eval (.tmp g) = undef := hl g (looks_guard hg ht) _ hf
 unfold Region.wanted
 rw [hg]
 simp only [yielded_of ht h1]
 cases want <;> rfl
theorem denOps_chain (hE : EnvOk P E) {n : Nat} (hn : E.n = n) {all : Array Oper} {β : Type} {K : St → List Trc → Option β} {r : β} : ∀ (ops : List Oper) (σ : St) (dec : List (Nat × Bool)) (tr : List Trc), DecOk dec σ.fr → denOps E all.toList K ops σ dec tr = some r →
  ∃ ss σ', K σ' (tr.reverse ++ ss.map fun s => (s.need, s.tch)) = some r ∧ Chain P B n all ops σ ss σ'
 | [], σ, dec, tr, hd, h => ⟨[], σ, by simpa [denOps] using h, rfl⟩
 | o :: q, σ, dec, tr, hd, h => by
  have go : ∀ (dec : List (Nat × Bool)), DecOk dec σ.fr → (∀ (ρ : Rz) (Z : Nat → Prop) (w : World) (a : Act), LooksAt P B ρ Z w (o.looksAt all) σ.fr a → Region.wanted o (yielded all a.tmps) = true) →
    goOp E σ dec o (fun s t => denOps E all.toList K q s (rmD o.dst dec) (t :: tr)) = some r → ∃ ss σ', K σ' (tr.reverse ++ ss.map fun s => (s.need, s.tch)) = some r ∧ Chain P B n all (o :: q) σ ss σ' := fun dec hd hw h => by
   obtain ⟨s, h1, h2⟩ := goOp_sound (B := B) (all := all) hE hn hd h
   obtain ⟨ss, σ', h3, h4⟩ := denOps_chain hE hn q _ _ _ (decOk_rm hd h2.dst) h1
   exact ⟨s :: ss, σ', by simpa using h3, runs_go h2 hw, h4⟩
  have sk : ∀ (dec : List (Nat × Bool)), DecOk dec σ.fr → (∀ (ρ : Rz) (Z : Nat → Prop) (w : World) (a : Act), LooksAt P B ρ Z w (o.looksAt all) σ.fr a → Region.wanted o (yielded all a.tmps) = false) →
    skOp E o (denOps E all.toList K q (σ.skip o.dst) (rmD o.dst dec) (([], []) :: tr)) = some r → ∃ ss σ', K σ' (tr.reverse ++ ss.map fun s => (s.need, s.tch)) = some r ∧ Chain P B n all (o :: q) σ ss σ' := fun dec hd hw h => by
   unfold skOp at h
   cases hdst : dstOk E o.dst with
   | false => rw [hdst] at h; cases h
   | true =>
    rw [hdst] at h
    simp only [cond_true] at h
    have hs : (⟨o.dst, .lf .undef, [], [], [], σ.nx, σ.nx⟩ : Stp).st σ = σ.skip o.dst := rfl
    rw [← hs] at h
    obtain ⟨ss, σ', h3, h4⟩ := denOps_chain hE hn q _ _ _ (decOk_rm (s := ⟨o.dst, .lf .undef, [], [], [], σ.nx, σ.nx⟩) hd rfl) h
    exact ⟨_ :: ss, σ', by simpa [Stp.tch, keys] using h3, runs_skip (room_of hn hdst) hw, h4⟩
  unfold denOps at h
  cases hg : o.guard with
  | none =>
   simp only [hg] at h
   exact go dec hd (fun ρ Z w a hl => by unfold Region.wanted; rw [hg]) h
  | some jw =>
   obtain ⟨j, want⟩ := jw
   simp only [hg] at h
   cases ht : gtmp all.toList j with
   | none => rw [ht] at h; cases h
   | some g =>
    simp only [ht] at h
    have two : ∀ (dec : List (Nat × Bool)), DecOk dec σ.fr → ∀ n' p d, lk g σ.fr = some (.lf (.cnd n' p d)) → ∀ b, bval n' p d = b →
      (bif b == want then goOp E σ dec o (fun s t => denOps E all.toList K q s (rmD o.dst dec) (t :: tr)) else skOp E o (denOps E all.toList K q (σ.skip o.dst) (rmD o.dst dec) (([], []) :: tr))) = some r →
      ∃ ss σ', K σ' (tr.reverse ++ ss.map fun s => (s.need, s.tch)) = some r ∧ Chain P B n all (o :: q) σ ss σ' := fun dec hd n' p d h1 b hb h => by
     cases hbw : b == want with
     | true =>
      rw [hbw] at h
      exact go dec hd (fun ρ Z w a hl => by rw [wanted_of hg ht h1 hl, hb]; exact hbw) h
     | false =>
      rw [hbw] at h
      exact sk dec hd (fun ρ Z w a hl => by rw [wanted_of hg ht h1 hl, hb]; exact hbw) h
    cases hb : lk g dec with
    | some b =>
     simp only [hb] at h
     obtain ⟨n', p, d, h1, h2⟩ := hd g b hb
     exact two dec hd n' p d h1 b h2 h
    | none =>
     simp only [hb] at h
     split at h
     ·
      rename_i n' p d hf
      by_cases hp : p
      ·
       rw [if_pos hp] at h
       have hx : (!n' == want) = ((!n') == want) := by cases n' <;> cases want <;> rfl
       rw [hx] at h
       have hv : bval n' p d = !n' := by unfold bval; rw [decide_eq_true hp]; cases n' <;> rfl
       exact two _ (decOk_cons hd hf hv) n' p d hf _ hv h
      ·
       rw [if_neg hp] at h
       have hv : bval n' p d = n' := by unfold bval; rw [decide_eq_false hp]; cases n' <;> rfl
       exact two _ (decOk_cons hd hf hv) n' p d hf _ hv h
     ·
      rename_i hf
      exact sk dec hd (fun ρ Z w a hl => wanted_undef hg ht hf hl) h
     ·
      cases h
end
end Go.Proofs.YthmcpmnhdbeahaaGreat.D
namespace Go.Proofs.YthmcpmnhdbeahaaGreat.D
open Go Go.RowKit
open Classical in
structure Chg (α : Type) where
 tch : Nat → Prop
 val : Nat → α
namespace Chg
section
variable {α : Type}
open Classical in
noncomputable def ap (c : Chg α) (f : Nat → α) : Nat → α := fun T => if c.tch T then c.val T else f T
noncomputable def fold (m : Nat → Bool) : Nat → List (Chg α) → (Nat → α) → Nat → α
 | _, [], f => f
 | i, c :: q, f => fold m (i + 1) q (bif m i then c.ap f else f)
theorem ap_tch {c : Chg α} {f : Nat → α} {T : Nat} (h : c.tch T) : c.ap f T = c.val T := if_pos h
theorem ap_not {c : Chg α} {f : Nat → α} {T : Nat} (h : ¬ c.tch T) : c.ap f T = f T := if_neg h
theorem ap_congr {c : Chg α} {f f' : Nat → α} {T : Nat} (h : f T = f' T) : c.ap f T = c.ap f' T := by
 by_cases hc : c.tch T
 ·
  rw [ap_tch hc, ap_tch hc]
 ·
  rw [ap_not hc, ap_not hc, h]
theorem fold_same {m m' : Nat → Bool} {T : Nat} : ∀ (cs : List (Chg α)) (i : Nat) (f f' : Nat → α), (∀ j c, cs[j]? = some c → m (i + j) ≠ m' (i + j) → ¬ c.tch T) → f T = f' T → fold m i cs f T = fold m' i cs f' T
 | [], _, _, _, _, h => h
 | c :: q, i, f, f', hs, h => by
  unfold fold
  refine fold_same q (i + 1) _ _ (fun j c' hc hm => hs (j + 1) c' (by simpa using hc) (by rw [show i + (j + 1) = i + 1 + j by omega]; exact hm)) ?_
  by_cases hm : m i = m' i
  ·
   rw [← hm]
   cases m i with
   | true => exact ap_congr h
   | false => exact h
  ·
   have hc := hs 0 c rfl hm
   cases m i <;> cases m' i <;> simp only [cond_true, cond_false, ap_not hc, h]
theorem fold_last {m : Nat → Bool} {T : Nat} : ∀ (cs : List (Chg α)) (i k : Nat) (f : Nat → α) (c : Chg α), cs[k]? = some c → m (i + k) = true → c.tch T → (∀ j c', k < j → cs[j]? = some c' → m (i + j) = true → ¬ c'.tch T) → fold m i cs f T = c.val T
 | [], _, _, _, _, h, _, _, _ => by simp at h
 | c :: q, i, 0, f, c', h, hm, ht, hs => by
  obtain rfl : c = c' := by simpa using h
  unfold fold
  rw [show m i = true from hm]
  have hq : ∀ (q : List (Chg α)) (i : Nat) (f : Nat → α), (∀ j c', q[j]? = some c' → m (i + j) = true → ¬ c'.tch T) → fold m i q f T = f T := by
   intro q
   induction q with
   | nil => intro i f _; rfl
   | cons c' q ih =>
    intro i f hs
    unfold fold
    rw [ih _ _ fun j c2 h2 h3 => hs (j + 1) c2 (by simpa using h2) (by rw [show i + (j + 1) = i + 1 + j by omega]; exact h3)]
    cases hmi : m i with
    | true => exact ap_not (hs 0 c' rfl hmi)
    | false => rfl
  rw [hq q (i + 1) _ fun j c2 h2 h3 => hs (j + 1) c2 (Nat.succ_pos j) (by simpa using h2) (by rw [show i + (j + 1) = i + 1 + j by omega]; exact h3)]
  exact ap_tch ht
 | c :: q, i, k + 1, f, c', h, hm, ht, hs => by
  unfold fold
  exact fold_last q (i + 1) k _ c' (by simpa using h) (by rw [show i + 1 + k = i + (k + 1) by omega]; exact hm) ht fun j c2 h1 h2 h3 => hs (j + 1) c2 (by omega) (by simpa using h2) (by rw [show i + (j + 1) = i + 1 + j by omega]; exact h3)
def also (m : Nat → Bool) (k : Nat) : Nat → Bool := fun j => if j = k then true else m j
theorem fold_also {m : Nat → Bool} {cs : List (Chg α)} {k : Nat} {c : Chg α} {f : Nat → α} (hc : cs[k]? = some c) (hs : ∀ j c', k < j → cs[j]? = some c' → m j = true → ∀ T, c.tch T → ¬ c'.tch T) : fold (also m k) 0 cs f = c.ap (fold m 0 cs f) := by
 funext T
 by_cases ht : c.tch T
 ·
  rw [ap_tch ht]
  refine fold_last cs 0 k f c hc (by simp [also]) ht fun j c' h1 h2 h3 => ?_
  rw [Nat.zero_add] at h3
  unfold also at h3
  rw [if_neg (by omega)] at h3
  exact hs j c' h1 h2 h3 T ht
 ·
  rw [ap_not ht]
  refine fold_same cs 0 f f (fun j c' h1 h2 => ?_) rfl
  rw [Nat.zero_add] at h2
  by_cases hj : j = k
  ·
   subst hj
   rw [hc] at h1
   cases h1
   exact ht
  ·
   unfold also at h2
   rw [if_neg hj] at h2
   exact absurd rfl h2
noncomputable def all : List (Chg α) → (Nat → α) → Nat → α
 | [], f => f
 | c :: q, f => all q (c.ap f)
theorem fold_all {m : Nat → Bool} : ∀ (cs : List (Chg α)) (i : Nat) (f : Nat → α), (∀ j, j < cs.length → m (i + j) = true) → fold m i cs f = all cs f
 | [], _, _, _ => rfl
 | c :: q, i, f, h => by
  unfold fold all
  rw [show m i = true from h 0 (by simp)]
  exact fold_all q (i + 1) _ fun j hj => by rw [show i + 1 + j = i + (j + 1) by omega]; exact h (j + 1) (by simpa using hj)
theorem fold_none {m : Nat → Bool} : ∀ (cs : List (Chg α)) (i : Nat) (f : Nat → α), (∀ j, i ≤ j → m j = false) → fold m i cs f = f
 | [], _, _, _ => rfl
 | c :: q, i, f, h => by
  unfold fold
  rw [h i (Nat.le_refl _)]
  exact fold_none q (i + 1) _ fun j hj => h j (by omega)
theorem fold_lt : ∀ (cs : List (Chg α)) (i k : Nat) (f : Nat → α), fold (fun j => decide (j < i + k)) i cs f = all (cs.take k) f
 | [], _, _, _ => by simp [fold, all]
 | c :: q, i, 0, f => by
  rw [fold_none _ _ _ fun j hj => decide_eq_false (by omega)]; rfl
 | c :: q, i, k + 1, f => by
  unfold fold
  rw [decide_eq_true (by omega : i < i + (k + 1))]
  rw [show i + (k + 1) = i + 1 + k by omega]
  exact fold_lt q (i + 1) k _
theorem fold_look {m : Nat → Bool} {cs : List (Chg α)} {k : Nat} {f : Nat → α} {T : Nat} (h1 : ∀ j c, j < k → cs[j]? = some c → m j = false → ¬ c.tch T) (h2 : ∀ j c, k ≤ j → cs[j]? = some c → m j = true → ¬ c.tch T) : fold m 0 cs f T = all (cs.take k) f T := by
 rw [← fold_lt cs 0 k f]
 refine fold_same cs 0 f f (fun j c hc hm => ?_) rfl
 rw [Nat.zero_add] at hm
 by_cases hj : j < k
 ·
  refine h1 j c hj hc ?_
  rw [Nat.zero_add, decide_eq_true hj] at hm
  cases h : m j with
  | true => exact absurd h hm
  | false => rfl
 ·
  refine h2 j c (by omega) hc ?_
  rw [Nat.zero_add, decide_eq_false hj] at hm
  cases h : m j with
  | true => rfl
  | false => exact absurd h hm
end
end Chg
def cnt (m : Nat → Bool) : Nat → Nat
 | 0 => 0
 | k + 1 => cnt m k + (bif m k then 0 else 1)
theorem cnt_zero {m : Nat → Bool} : ∀ {n : Nat}, cnt m n = 0 → ∀ i, i < n → m i = true
 | 0, _, _, h => absurd h (Nat.not_lt_zero _)
 | n + 1, h, i, hi => by
  unfold cnt at h
  cases hm : m n with
  | false => rw [hm] at h; simp at h
  | true =>
   rw [hm] at h
   rcases Nat.lt_succ_iff_lt_or_eq.1 hi with hi | rfl
   ·
    exact cnt_zero (by simpa using h) i hi
   ·
    exact hm
theorem cnt_out {m : Nat → Bool} {k : Nat} : ∀ {n : Nat}, n ≤ k → cnt (Chg.also m k) n = cnt m n
 | 0, _ => rfl
 | n + 1, h => by
  unfold cnt
  rw [cnt_out (by omega), show Chg.also m k n = m n from if_neg (by omega)]
theorem cnt_also {m : Nat → Bool} {k : Nat} (hk : m k = false) : ∀ {n : Nat}, k < n → cnt (Chg.also m k) n + 1 = cnt m n
 | 0, h => absurd h (Nat.not_lt_zero _)
 | n + 1, h => by
  unfold cnt
  rcases Nat.lt_succ_iff_lt_or_eq.1 h with h | rfl
  ·
   rw [show Chg.also m k n = m n from if_neg (by omega), ← cnt_also hk h]; omega
  ·
   rw [cnt_out (Nat.le_refl _), hk, show Chg.also m k k = true from if_pos rfl]; rfl
theorem cnt_le {m : Nat → Bool} : ∀ n : Nat, cnt m n ≤ n
 | 0 => Nat.le_refl _
 | n + 1 => by
  unfold cnt
  have := cnt_le (m := m) n
  cases m n <;> simp <;> omega
end Go.Proofs.YthmcpmnhdbeahaaGreat.D
namespace Go.Proofs.YthmcpmnhdbeahaaGreat.D
open Go Go.RowKit
def Stp.ochg (s : Stp) : Chg (Option Ob) := ⟨fun T => T ∈ s.tch, fun T => lk T s.add⟩
def Stp.fchg (s : Stp) : Chg (Option AV) := ⟨fun t => s.dst = some t, fun _ => some s.v⟩
abbrev lookF (fr : List (Nat × AV)) : Nat → Option AV := fun t => lk t fr
theorem look_ap {s : Stp} (hn : nodup (keys s.add) = true) (L : List (Nat × Ob)) : look (pts s.add (rms s.del L)) = s.ochg.ap (look L) := by
 funext T
 show lk T (pts s.add (rms s.del L)) = _
 rw [lk_pts T _ _ hn, lk_rms]
 by_cases h : T ∈ s.tch
 ·
  rw [Chg.ap_tch (c := s.ochg) h]
  show _ = lk T s.add
  cases hl : lk T s.add with
  | some o => rfl
  | none =>
   have : T ∈ s.del := (List.mem_append.1 h).elim (fun h => by rw [mem_keys, hl] at h; cases h) id
   simp [this]
 ·
  rw [Chg.ap_not (c := s.ochg) h]
  unfold Stp.tch at h
  rw [List.mem_append, not_or, mem_keys] at h
  cases hl : lk T s.add with
  | some o => rw [hl] at h; simp at h
  | none => simp [h.2]
theorem lookF_ap (s : Stp) (fr : List (Nat × AV)) : lookF (s.fr fr) = s.fchg.ap (lookF fr) := by
 funext t
 show lk t (s.fr fr) = _
 unfold Stp.fr
 by_cases h : s.dst = some t
 ·
  rw [Chg.ap_tch (c := s.fchg) h, h]
  simp only [lk_pt, if_pos]
  rfl
 ·
  rw [Chg.ap_not (c := s.fchg) h]
  cases hd : s.dst with
  | none => rfl
  | some d =>
   simp only [lk_pt]
   rw [if_neg fun e => h (by rw [hd, e])]
abbrev Rel := Rz → (Nat → Prop) → Obs → World → Prop
def Stays (J : Rel) : Prop := ∀ {ρ Z ob w ρ' Z' ob' w'}, J ρ Z ob w → Trn ρ Z ob w ρ' Z' ob' w' → J ρ' Z' ob' w'
def Hld (P : Program) (B : Nat → Prop) (n : Nat) (J : Rel) (fr : Nat → Option AV) (ob : Obs) (fresh : Nat → Prop) (a : Act) (w : World) : Prop :=
 ∃ ρ Z L, look L = ob ∧ Mem P B ρ Z ob w ∧ J ρ Z ob w ∧ (∀ t av, fr t = some av → AR P B ρ Z w av (a.eval (.tmp t))) ∧ a.tmps.size = n ∧ a.defers = [] ∧ ∀ T, fresh T → ρ T = none
section
variable {P : Program} {B : Nat → Prop} {n : Nat} {J : Rel} {fr : Nat → Option AV} {ob : Obs} {fresh : Nat → Prop} {a : Act} {w : World}
theorem Hld.less {fresh' : Nat → Prop} (h : Hld P B n J fr ob fresh a w) (hf : ∀ T, fresh' T → fresh T) : Hld P B n J fr ob fresh' a w := by
 obtain ⟨ρ, Z, L, h1, h2, h3, h4, h5, h6, h7⟩ := h
 exact ⟨ρ, Z, L, h1, h2, h3, h4, h5, h6, fun T hT => h7 T (hf T hT)⟩
theorem step_hld (hJ : Stays J) {all : Array Oper} {o : Oper} {σ : St} {s : Stp} (hr : Runs P B n all o σ s) (h : Hld P B n J fr ob fresh a w) (hob : ∀ T ∈ s.need ++ s.tch, ob T = lk T σ.ob) (hfr : ∀ t ∈ o.looksAt all, fr t = lk t σ.fr)
  (hfresh : ∀ T, s.lo ≤ T → T < s.hi → fresh T) {K : Act → World → Prop} {Q : Exit → Act → World → Prop} (hK : ∀ a' w', Hld P B n J (s.fchg.ap fr) (s.ochg.ap ob) (fun T => fresh T ∧ ¬ (s.lo ≤ T ∧ T < s.hi)) a' w' → K a' w') :
  if Region.wanted o (yielded all a.tmps) = true then o.wp P a w K Q else K (a.put o.dst undef) w := by
 obtain ⟨ρ, Z, L, rfl, h2, h3, h4, h5, h6, h7⟩ := h
 refine hr.run ρ Z w a L h2 hob (fun t ht av hav => h4 t av ((hfr t ht).trans hav)) (fun T k1 k2 => h7 T (hfresh T k1 k2)) K Q fun v w' ha => hK _ w' ?_
 obtain ⟨ρ', Z', g1, g2, g3, g4⟩ := ha
 have hf := g2.fut h2
 refine ⟨ρ', Z', _, look_ap hr.nd L, look_ap hr.nd L ▸ g1, look_ap hr.nd L ▸ hJ h3 g2, fun t av hav => ?_, ?_, ?_, fun T k => g4 T (h7 T k.1) k.2⟩
 ·
  by_cases hd : s.dst = some t
  ·
   rw [Chg.ap_tch (c := s.fchg) hd] at hav
   obtain rfl : s.v = av := Option.some.inj hav
   rw [← hr.dst, hd]
   have : t < a.tmps.size := h5 ▸ hr.room t (hr.dst ▸ hd)
   simpa [Act.put, Act.eval, Array.getD_eq_getD_getElem?, this] using g3
  ·
   rw [Chg.ap_not (c := s.fchg) hd] at hav
   rw [Act.eval_put fun d hd' he => hd (by cases he; rw [hr.dst]; exact hd')]
   exact (h4 t av hav).fut hf
 ·
  rw [← h5]
  cases o.dst with
  | none => rfl
  | some d => simp [Act.put]
 ·
  rw [← h6]
  cases o.dst <;> rfl
theorem chain_at {all : Array Oper} : ∀ (ops : List Oper) (σ : St) (ss : List Stp) (σ' : St), Chain P B n all ops σ ss σ' →
    ss.length = ops.length ∧ σ.nx ≤ σ'.nx ∧ look σ'.ob = Chg.all (ss.map Stp.ochg) (look σ.ob) ∧ lookF σ'.fr = Chg.all (ss.map Stp.fchg) (lookF σ.fr) ∧ (∀ (k : Nat) s, ss[k]? = some s → σ.nx ≤ s.lo ∧ s.hi ≤ σ'.nx) ∧
    ∀ (k : Nat) o s, ops[k]? = some o → ss[k]? = some s → ∃ σk, Runs P B n all o σk s ∧ look σk.ob = Chg.all ((ss.map Stp.ochg).take k) (look σ.ob) ∧ lookF σk.fr = Chg.all ((ss.map Stp.fchg).take k) (lookF σ.fr) ∧ ∀ (j : Nat) s', j < k → ss[j]? = some s' → s'.hi ≤ s.lo
  | [], σ, [], σ', h => by
    cases h
    exact ⟨rfl, Nat.le_refl _, rfl, rfl, fun k s h => by simp at h, fun k o s h => by simp at h⟩
  | [], σ, _ :: _, σ', h => h.elim
  | _ :: _, σ, [], σ', h => h.elim
  | o :: r, σ, s :: q, σ', ⟨h1, h2⟩ => by
    obtain ⟨k1, k2, k3, k4, k5, k6⟩ := chain_at r _ q σ' h2
    have hlo : σ.nx ≤ s.lo := Nat.le_of_eq h1.lo.symm
    refine ⟨by simp [k1], Nat.le_trans hlo (Nat.le_trans h1.le k2), ?_, ?_, fun k s' hs => ?_, fun k o' s' ho hs => ?_⟩
    · rw [k3]; show Chg.all _ (look (pts s.add (rms s.del σ.ob))) = _; rw [look_ap h1.nd]; rfl
    · rw [k4]; show Chg.all _ (lookF (s.fr σ.fr)) = _; rw [lookF_ap]; rfl
    · cases k with
      | zero => obtain rfl : s = s' := by simpa using hs
                exact ⟨hlo, k2⟩
      | succ k => exact ⟨Nat.le_trans (Nat.le_trans hlo h1.le) (k5 k s' (by simpa using hs)).1, (k5 k s' (by simpa using hs)).2⟩
    · cases k with
      | zero =>
        obtain rfl : s = s' := by simpa using hs
        obtain rfl : o = o' := by simpa using ho
        exact ⟨σ, h1, rfl, rfl, fun j _ h => absurd h (Nat.not_lt_zero _)⟩
      | succ k =>
        obtain ⟨σk, g1, g2, g3, g4⟩ := k6 k o' s' (by simpa using ho) (by simpa using hs)
        refine ⟨σk, g1, ?_, ?_, fun j s2 hj h2' => ?_⟩
        · rw [g2]; show Chg.all _ (look (pts s.add (rms s.del σ.ob))) = _; rw [look_ap h1.nd]; rfl
        · rw [g3]; show Chg.all _ (lookF (s.fr σ.fr)) = _; rw [lookF_ap]; rfl
        · cases j with
          | zero => obtain rfl : s = s2 := by simpa using h2'
                    exact (k5 k s' (by simpa using hs)).1
          | succ j => exact g4 j s2 (by omega) (by simpa using h2')
abbrev HldS (P : Program) (B : Nat → Prop) (n : Nat) (J : Rel) (σ : St) (a : Act) (w : World) : Prop := Hld P B n J (lookF σ.fr) (look σ.ob) (fun T => σ.nx ≤ T) a w
theorem wpOp_of {all : Array Oper} {Q : Exit → Act → World → Prop} {k : Nat} {o : Oper} (ho : all[k]? = some o) {K : Act → World → Prop} (h : if Region.wanted o (yielded all a.tmps) = true then o.wp P a w K Q else K (a.put o.dst undef) w) : wpOp P all Q k K a w := by
 unfold wpOp
 rw [ho]
 simp only
 split at h
 ·
  rename_i hw; rw [if_pos hw]; exact .inl h
 ·
  rename_i hw; rw [if_neg hw]; exact h
theorem ops_list (hJ : Stays J) {all : Array Oper} {Q : Exit → Act → World → Prop} {σ' : St} (hQ : ∀ a w, HldS P B n J σ' a w → Q .normal a w) : ∀ (rest : List Oper) (σ : St) (ss : List Stp) (k : Nat) (a : Act) (w : World), Chain P B n all rest σ ss σ' → (∀ i o, rest[i]? = some o → all[k + i]? = some o) → HldS P B n J σ a w →
  wpOps P all Q (List.range' k rest.length) a w
 | [], σ, [], k, a, w, h, _, hh => by cases h; exact hQ a w hh
 | [], σ, _ :: _, k, a, w, h, _, _ => h.elim
 | _ :: _, σ, [], k, a, w, h, _, _ => h.elim
 | o :: r, σ, s :: q, k, a, w, ⟨h1, h2⟩, hr, hh => by
  rw [List.length_cons, List.range'_succ, wpOps_cons]
  refine wpOp_of (hr 0 o rfl) (step_hld hJ h1 hh (fun _ _ => rfl) (fun _ _ => rfl) (fun T h3 _ => h1.lo ▸ h3) fun a' w' h' => ?_)
  refine ops_list hJ hQ r _ q (k + 1) a' w' h2 (fun i o' ho => by rw [show k + 1 + i = k + (i + 1) by omega]; exact hr (i + 1) o' (by simpa using ho)) ?_
  have e1 : look (s.st σ).ob = s.ochg.ap (look σ.ob) := look_ap h1.nd _
  have e2 : lookF (s.st σ).fr = s.fchg.ap (lookF σ.fr) := lookF_ap _ _
  show Hld P B n J _ _ _ a' w'
  rw [e1, e2]
  refine h'.less fun T (hT : s.hi ≤ T) => ⟨?_, fun h => by omega⟩
  have h3 := h1.lo
  have h4 := h1.le
  show σ.nx ≤ T
  omega
theorem region_list (hJ : Stays J) {id : Nat} {ops : Array Oper} {Q : Exit → Act → World → Prop} {σ σ' : St} {ss : List Stp} (hc : Chain P B n ops ops.toList σ ss σ') (h : HldS P B n J σ a w) (hQ : ∀ a w, HldS P B n J σ' a w → Q .normal a w) : (Code.region id ops false).wp P Q a w := by
 refine wp_region ?_
 have := ops_list hJ hQ ops.toList σ ss 0 a w hc (fun i o ho => by simpa using ho) h
 rwa [Array.length_toList, ← List.range_eq_range'] at this
def Frees (ops : Array Oper) (ss : List Stp) (i j : Nat) : Prop := ∀ a b s t, ops[i]? = some a → ops[j]? = some b → ss[i]? = some s → ss[j]? = some t → a.apart ops b = true ∧ free2 (s.need, s.tch) (t.need, t.tch) = true
theorem pairs_spec {ops : Array Oper} {m : Nat} {b : Oper} {tb : Trc} : ∀ (l : List Oper) (t : List Trc) (i : Nat), pairsOk ops m b tb i l t = true → ∀ j a ta, l[j]? = some a → t[j]? = some ta → pairOk ops m a ta (i + j) b tb = true
 | [], _, _, _, _, _, _, h, _ => by simp at h
 | _ :: _, [], _, _, _, _, _, _, h => by simp at h
 | a :: r, ta :: q, i, h, j, a', ta', h1, h2 => by
  unfold pairsOk at h
  rw [Bool.and_eq_true] at h
  cases j with
  | zero =>
   obtain rfl : a = a' := by simpa using h1
   obtain rfl : ta = ta' := by simpa using h2
   exact h.1
  | succ j =>
   rw [show i + (j + 1) = i + 1 + j by omega]
   exact pairs_spec r q (i + 1) h.2 j a' ta' (by simpa using h1) (by simpa using h2)
theorem bern_spec {ops : Array Oper} {l0 : List Oper} {t0 : List Trc} : ∀ (l : List Oper) (t : List Trc) (ms : List Nat) (j : Nat), bernGo ops l0 t0 j l t ms = true → ∀ k b tb, l[k]? = some b → t[k]? = some tb →
  (b.after.all (fun e => !Region.binds .any e || Nat.blt e.on (j + k)) = true) ∧ ∃ m, ms[k]? = some m ∧ ∀ i a ta, i < j + k → l0[i]? = some a → t0[i]? = some ta → pairOk ops m a ta i b tb = true
 | [], _, _, _, _, _, _, _, h, _ => by simp at h
 | _ :: _, [], _, _, _, _, _, _, _, h => by simp at h
 | _ :: _, _ :: _, [], _, h, _, _, _, _, _ => by simp [bernGo] at h
 | b :: r, tb :: q, m :: ms, j, h, k, b', tb', h1, h2 => by
  unfold bernGo at h
  simp only [Bool.and_eq_true] at h
  obtain ⟨⟨⟨g1, g2⟩, g3⟩, g4⟩ := h
  cases k with
  | zero =>
   obtain rfl : b = b' := by simpa using h1
   obtain rfl : tb = tb' := by simpa using h2
   refine ⟨g1, m, rfl, fun i a ta hi h3 h4 => ?_⟩
   have := pairs_spec _ _ 0 g3 i a ta (by rw [List.getElem?_take]; simp [show i < j by omega, h3]) (by rw [List.getElem?_take]; simp [show i < j by omega, h4])
   rwa [Nat.zero_add] at this
  | succ k =>
   obtain ⟨k1, m', k2, k3⟩ := bern_spec r q ms (j + 1) g4 k b' tb' (by simpa using h1) (by simpa using h2)
   rw [show j + 1 + k = j + (k + 1) by omega] at k1 k3
   exact ⟨k1, m', by simpa using k2, k3⟩
theorem befOne_spec {acc : List Nat} : ∀ (es : List Edge) (i : Nat), (befOne acc es).testBit i = true → ∃ e ∈ es, Region.binds .any e = true ∧ (i = e.on ∨ (acc.getD e.on 0).testBit i = true)
 | [], i, h => by simp [befOne] at h
 | e :: r, i, h => by
  unfold befOne at h
  rw [Nat.testBit_or, Bool.or_eq_true] at h
  rcases h with h | h
  ·
   cases hb : Region.binds .any e with
   | false => rw [hb] at h; simp at h
   | true =>
    rw [hb] at h
    simp only [cond_true, Nat.testBit_or, Bool.or_eq_true, Nat.testBit_two_pow, decide_eq_true_eq] at h
    exact ⟨e, List.mem_cons_self, hb, h.imp Eq.symm id⟩
  ·
   obtain ⟨e', h1, h2⟩ := befOne_spec r i h
   exact ⟨e', List.mem_cons_of_mem _ h1, h2⟩
theorem befs_pre : ∀ (l : List Oper) (acc : List Nat), ∃ t, befs l acc = acc ++ t
 | [], acc => ⟨[], by simp [befs]⟩
 | o :: r, acc => by
  obtain ⟨t, ht⟩ := befs_pre r (acc ++ [befOne acc o.after.toList])
  exact ⟨[befOne acc o.after.toList] ++ t, by unfold befs; rw [ht]; simp⟩
theorem befs_at : ∀ (l : List Oper) (acc : List Nat) (k : Nat) (o : Oper) (m : Nat), l[k]? = some o → (befs l acc)[acc.length + k]? = some m → ∃ acc', acc'.length = acc.length + k ∧ (∃ t, befs l acc = acc' ++ t) ∧ m = befOne acc' o.after.toList
 | [], _, _, _, _, h, _ => by simp at h
 | o :: r, acc, 0, o', m, h1, h2 => by
  obtain rfl : o = o' := by simpa using h1
  unfold befs at h2
  obtain ⟨t, ht⟩ := befs_pre r (acc ++ [befOne acc o.after.toList])
  rw [ht] at h2
  simp at h2
  exact ⟨acc, rfl, ⟨[befOne acc o.after.toList] ++ t, by unfold befs; rw [ht]; simp⟩, h2.symm⟩
 | o :: r, acc, k + 1, o', m, h1, h2 => by
  unfold befs at h2 ⊢
  obtain ⟨acc', k1, k2, k3⟩ := befs_at r (acc ++ [befOne acc o.after.toList]) k o' m (by simpa using h1) (by rw [List.length_append, List.length_singleton, show acc.length + 1 + k = acc.length + (k + 1) by omega]; exact h2)
  exact ⟨acc', by rw [k1]; simp; omega, k2, k3⟩
theorem befs_spec {l : List Oper} {k i m : Nat} {o : Oper} (h1 : l[k]? = some o) (h2 : (befs l [])[k]? = some m) (h : m.testBit i = true) : ∃ e ∈ o.after.toList, Region.binds .any e = true ∧ (i = e.on ∨ ∃ m', e.on < k ∧ (befs l [])[e.on]? = some m' ∧ m'.testBit i = true) := by
 obtain ⟨acc', k1, ⟨t, k2⟩, rfl⟩ := befs_at l [] k o m h1 (by simpa using h2)
 obtain ⟨e, he, hb, hi⟩ := befOne_spec _ i h
 refine ⟨e, he, hb, hi.imp id fun hi => ?_⟩
 rw [List.getD_eq_getElem?_getD] at hi
 cases hg : acc'[e.on]? with
 | none => rw [hg] at hi; simp at hi
 | some m' =>
  rw [hg] at hi
  have hlt : e.on < acc'.length := by
   have := List.getElem?_eq_some_iff.1 hg
   exact this.1
  refine ⟨m', by simpa [k1] using hlt, ?_, hi⟩
  rw [k2, List.getElem?_append_left hlt, hg]
end
end Go.Proofs.YthmcpmnhdbeahaaGreat.D
namespace Go.Proofs.YthmcpmnhdbeahaaGreat.D
open Go Go.RowKit
abbrev msk (listed : Array Bool) : Nat → Bool := fun j => listed.getD j false
theorem msk_set {listed : Array Bool} {i : Nat} (hi : i < listed.size) : msk (listed.setIfInBounds i true) = Chg.also (msk listed) i := by
 funext j
 unfold msk Chg.also
 by_cases h : j = i
 ·
  subst h; simp [Array.getD_eq_getD_getElem?, hi]
 ·
  rw [if_neg h]; simp [Array.getD_eq_getD_getElem?, Array.getElem?_setIfInBounds_ne (Ne.symm h)]
theorem mem_ready {ops : Array Oper} {listed : Array Bool} {i : Nat} : i ∈ Region.ready .any ops listed ↔ ∃ o, ops[i]? = some o ∧ listed.getD i true = false ∧ ∀ e ∈ o.after, Region.binds .any e = true → listed.getD e.on false = true := by
 unfold Region.ready
 rw [List.mem_filter, List.mem_range]
 constructor
 ·
  rintro ⟨h1, h2⟩
  rw [Bool.and_eq_true] at h2
  obtain ⟨h2, h3⟩ := h2
  have ho : ops[i]? = some ops[i] := Array.getElem?_eq_getElem h1
  refine ⟨_, ho, by simpa using h2, fun e he hb => ?_⟩
  rw [ho] at h3
  simp only [Option.map_some, Option.getD_some, Array.all_eq_true_iff_forall_mem] at h3
  have := h3 e he
  rw [hb] at this
  simpa using this
 ·
  rintro ⟨o, ho, h2, h3⟩
  refine ⟨(Array.getElem?_eq_some_iff.1 ho).1, ?_⟩
  rw [Bool.and_eq_true, ho]
  refine ⟨by simp [h2], ?_⟩
  simp only [Option.map_some, Option.getD_some, Array.all_eq_true_iff_forall_mem]
  intro e he
  cases hb : Region.binds .any e with
  | false => rfl
  | true => simpa using h3 e he hb
section
variable {P : Program} {B : Nat → Prop} {n : Nat} {J : Rel} {a : Act} {w : World}
def Shut (ops : Array Oper) (m : Nat → Bool) : Prop := ∀ j o, ops[j]? = some o → m j = true → ∀ e ∈ o.after, Region.binds .any e = true → m e.on = true
theorem shut_befs {ops : Array Oper} {m : Nat → Bool} (hs : Shut ops m) : ∀ (k : Nat) (o : Oper) (b i : Nat), ops[k]? = some o → (befs ops.toList [])[k]? = some b → (∀ e ∈ o.after, Region.binds .any e = true → m e.on = true) → b.testBit i = true → m i = true := by
 intro k
 induction k using Nat.strongRecOn with
 | _ k ih =>
  intro o b i ho hb he hi
  obtain ⟨e, h1, h2, h3⟩ := befs_spec (l := ops.toList) (by simpa using ho) hb hi
  have hme := he e (by simpa using h1) h2
  rcases h3 with rfl | ⟨m', h4, h5, h6⟩
  ·
   exact hme
  ·
   cases hoe : ops[e.on]? with
   | none =>
    have : e.on < ops.size := Nat.lt_trans h4 (Array.getElem?_eq_some_iff.1 ho).1
    rw [Array.getElem?_eq_getElem this] at hoe; cases hoe
   | some o' => exact ih e.on h4 o' m' i hoe h5 (hs e.on o' hoe hme) h6
theorem free_of_pair {ops : Array Oper} {ss : List Stp} {m i j : Nat} {b : Oper} {t : Stp} (hb : ops[j]? = some b) (ht : ss[j]? = some t) (h : ∀ a ta, ops.toList[i]? = some a → (ss.map fun s => (s.need, s.tch))[i]? = some ta → pairOk ops m a ta i b (t.need, t.tch) = true) (hm : m.testBit i = false) : Frees ops ss i j := by
 intro a b' s t' h1 h2 h3 h4
 rw [hb] at h2
 cases h2
 rw [ht] at h4
 cases h4
 have := h a (s.need, s.tch) (by simpa using h1) (by simp [h3])
 unfold pairOk at this
 rw [hm, Bool.false_or, Bool.and_eq_true] at this
 exact this
theorem free2_spec {a b : Trc} (h : free2 a b = true) : (∀ T ∈ a.2, T ∉ b.1 ∧ T ∉ b.2) ∧ ∀ T ∈ a.1, T ∉ b.2 := by
 unfold free2 at h
 rw [Bool.and_eq_true, List.all_eq_true, List.all_eq_true] at h
 refine ⟨fun T hT => ?_, fun T hT => ?_⟩
 ·
  simpa using h.1 T hT
 ·
  simpa using h.2 T hT
theorem region_any (hm : P.follows .mixedOrders = true) (hJ : Stays J) (hJd : ∀ {ρ Z ob w}, J ρ Z ob w → J ρ Z ob { w with drawn := w.drawn + 1 }) {id : Nat} {ops : Array Oper} {Q : Exit → Act → World → Prop} {σ σ' : St} {ss : List Stp} (hc : Chain P B n ops ops.toList σ ss σ')
  (hb : bern ops (ss.map fun s => (s.need, s.tch)) = true) (h : HldS P B n J σ a w) (hQ : ∀ a w, HldS P B n J σ' a w → Q .normal a w) : (Code.region id ops true).wp P Q a w := by
 obtain ⟨c1, c2, c3, c4, c5, c6⟩ := chain_at _ _ _ _ hc
 have c1 : ss.length = ops.size := by simpa using c1
 have hsome : ∀ k, k < ops.size → ∃ o s, ops[k]? = some o ∧ ss[k]? = some s := fun k hk => ⟨_, _, Array.getElem?_eq_getElem hk, List.getElem?_eq_getElem (by omega)⟩
 have hbern : ∀ k o s, ops[k]? = some o → ss[k]? = some s → (∀ e ∈ o.after, Region.binds .any e = true → e.on < k) ∧ ∃ m, (befs ops.toList [])[k]? = some m ∧ ∀ i, i < k → m.testBit i = false → Frees ops ss i k := fun k o s ho hs => by
  obtain ⟨g1, m, g2, g3⟩ := bern_spec _ _ _ 0 hb k o (s.need, s.tch) (by simpa using ho) (by simp [hs])
  rw [Nat.zero_add] at g1 g3
  refine ⟨fun e he hbd => ?_, m, g2, fun i hi => free_of_pair ho hs fun a ta h1 h2 => g3 i a ta hi h1 h2⟩
  rw [Array.all_eq_true_iff_forall_mem] at g1
  have := g1 e he
  rw [hbd] at this
  simpa using this
 let I : (Nat → Bool) → Act → World → Prop := fun m a w => Hld P B n J (Chg.fold m 0 (ss.map Stp.fchg) (lookF σ.fr)) (Chg.fold m 0 (ss.map Stp.ochg) (look σ.ob)) (fun T => σ.nx ≤ T ∧ ∀ (j : Nat) s, ss[j]? = some s → m j = true → ¬ (s.lo ≤ T ∧ T < s.hi)) a w
 have hend : ∀ m a w, (∀ j, j < ops.size → m j = true) → I m a w → Q .normal a w := fun m a w hall hI => by
  refine hQ a w ?_
  show Hld P B n J (lookF σ'.fr) (look σ'.ob) _ a w
  rw [c3, c4, ← Chg.fold_all (m := m) (ss.map Stp.ochg) 0 _ (fun j hj => by rw [Nat.zero_add]; exact hall j (by simpa [c1] using hj)), ← Chg.fold_all (m := m) (ss.map Stp.fchg) 0 _ (fun j hj => by rw [Nat.zero_add]; exact hall j (by simpa [c1] using hj))]
  refine Hld.less hI fun T (hT : σ'.nx ≤ T) => ⟨Nat.le_trans c2 hT, fun j s hs _ hr => ?_⟩
  have := (c5 j s hs).2
  omega
 have hstep : ∀ (m : Nat → Bool) (k : Nat) (o : Oper) (a : Act) (w : World), Shut ops m → ops[k]? = some o → m k = false → (∀ e ∈ o.after, Region.binds .any e = true → m e.on = true) → I m a w → ∀ (K : Act → World → Prop), (∀ a w, I (Chg.also m k) a w → K a w) → wpOp P ops Q k K a w := by
  intro m k o a w hsh ho hmk hed hI K hK
  have hk := (Array.getElem?_eq_some_iff.1 ho).1
  obtain ⟨_, s, _, hs⟩ := hsome k hk
  obtain ⟨b1, mk, b2, b3⟩ := hbern k o s ho hs
  obtain ⟨σk, d1, d2, d3, d4⟩ := c6 k o s (by simpa using ho) hs
  have before : ∀ j, j < k → m j = false → Frees ops ss j k := fun j hj hmj => b3 j hj (by
   cases ht : mk.testBit j with
   | false => rfl
   | true => rw [shut_befs hsh k o mk j ho b2 hed ht] at hmj; cases hmj)
  have behind : ∀ j, k < j → m j = true → j < ops.size → Frees ops ss k j := fun j hj hmj hjs => by
   obtain ⟨o', s', ho', hs'⟩ := hsome j hjs
   obtain ⟨_, mj, e2, e3⟩ := hbern j o' s' ho' hs'
   refine e3 k hj ?_
   cases ht : mj.testBit k with
   | false => rfl
   | true => rw [shut_befs hsh j o' mj k ho' e2 (hsh j o' ho' hmj) ht] at hmk; cases hmk
  have get : ∀ {β : Type} (f : Stp → Chg β) {j : Nat} {c : Chg β}, (ss.map f)[j]? = some c → ∃ o' s', ops[j]? = some o' ∧ ss[j]? = some s' ∧ c = f s' := fun {β} f {j c} hc => by
   rw [List.getElem?_map] at hc
   cases hj : ss[j]? with
   | none => rw [hj] at hc; cases hc
   | some s' =>
    rw [hj] at hc
    cases hc
    have : j < ops.size := c1 ▸ (List.getElem?_eq_some_iff.1 hj).1
    exact ⟨_, s', Array.getElem?_eq_getElem this, rfl, rfl⟩
  refine wpOp_of ho (step_hld hJ d1 hI (fun T hT => ?_) (fun t ht => ?_) (fun T h1 h2 => ⟨Nat.le_trans (c5 k s hs).1 h1, fun j s' hs' hmj hr => ?_⟩) fun a' w' h' => hK a' w' ?_)
  ·
   show Chg.fold m 0 (ss.map Stp.ochg) (look σ.ob) T = look σk.ob T
   rw [d2]
   refine Chg.fold_look (fun j c hj hc hmj ht => ?_) fun j c hj hc hmj ht => ?_
   ·
    obtain ⟨o', s', ho', hs', rfl⟩ := get _ hc
    have hf := free2_spec (before j hj hmj o' o s' s ho' ho hs' hs).2
    have ht : T ∈ s'.tch := ht
    exact (List.mem_append.1 hT).elim (hf.1 T ht).1 (hf.1 T ht).2
   ·
    obtain ⟨o', s', ho', hs', rfl⟩ := get _ hc
    have hne : k ≠ j := fun e => by rw [e, hmj] at hmk; cases hmk
    have hf := free2_spec (behind j (by omega) hmj (Array.getElem?_eq_some_iff.1 ho').1 o o' s s' ho ho' hs hs').2
    have ht : T ∈ s'.tch := ht
    exact (List.mem_append.1 hT).elim (fun h => hf.2 T h ht) fun h => (hf.1 T h).2 ht
  ·
   show Chg.fold m 0 (ss.map Stp.fchg) (lookF σ.fr) t = lookF σk.fr t
   rw [d3]
   refine Chg.fold_look (fun j c hj hc hmj htc => ?_) fun j c hj hc hmj htc => ?_
   ·
    obtain ⟨o', s', ho', hs', rfl⟩ := get _ hc
    have hf := Oper.apart_spec (before j hj hmj o' o s' s ho' ho hs' hs).1
    have htc : s'.dst = some t := htc
    obtain ⟨σj, e1, _⟩ := c6 j o' s' (by simpa using ho') hs'
    exact hf.1 t (e1.dst ▸ htc) ht
   ·
    obtain ⟨o', s', ho', hs', rfl⟩ := get _ hc
    have hne : k ≠ j := fun e => by rw [e, hmj] at hmk; cases hmk
    have hf := Oper.apart_spec (behind j (by omega) hmj (Array.getElem?_eq_some_iff.1 ho').1 o o' s s' ho ho' hs hs').1
    have htc : s'.dst = some t := htc
    obtain ⟨σj, e1, _⟩ := c6 j o' s' (by simpa using ho') hs'
    exact hf.2.2 t (e1.dst ▸ htc) ht
  ·
   have hjs : j < ops.size := c1 ▸ (List.getElem?_eq_some_iff.1 hs').1
   obtain ⟨o', _, ho', _⟩ := hsome j hjs
   obtain ⟨_, _, _, _, e4⟩ := c6 j o' s' (by simpa using ho') hs'
   rcases Nat.lt_trichotomy j k with hjk | rfl | hjk
   ·
    have := d4 j s' hjk hs'; omega
   ·
    rw [hmj] at hmk; cases hmk
   ·
    have := e4 k s hjk hs; omega
  ·
   have e1 : Chg.fold (Chg.also m k) 0 (ss.map Stp.ochg) (look σ.ob) = s.ochg.ap (Chg.fold m 0 (ss.map Stp.ochg) (look σ.ob)) := Chg.fold_also (by simp [hs]) fun j c hj hc hmj T hT ht => by
    obtain ⟨o', s', ho', hs', rfl⟩ := get _ hc
    exact ((free2_spec (behind j hj hmj (Array.getElem?_eq_some_iff.1 ho').1 o o' s s' ho ho' hs hs').2).1 T hT).2 ht
   have e2 : Chg.fold (Chg.also m k) 0 (ss.map Stp.fchg) (lookF σ.fr) = s.fchg.ap (Chg.fold m 0 (ss.map Stp.fchg) (lookF σ.fr)) := Chg.fold_also (by simp [hs]) fun j c hj hc hmj T hT ht => by
    obtain ⟨o', s', ho', hs', rfl⟩ := get _ hc
    have hf := Oper.apart_spec (behind j hj hmj (Array.getElem?_eq_some_iff.1 ho').1 o o' s s' ho ho' hs hs').1
    have ht : s'.dst = some T := ht
    have hT : s.dst = some T := hT
    obtain ⟨σj, f1, _⟩ := c6 j o' s' (by simpa using ho') hs'
    exact hf.2.1 T (d1.dst ▸ hT) (f1.dst ▸ ht)
   show Hld P B n J _ _ _ a' w'
   rw [e1, e2]
   refine h'.less fun T hT => ⟨⟨hT.1, fun j s' hs' hmj => hT.2 j s' hs' ?_⟩, hT.2 k s hs (if_pos rfl)⟩
   unfold Chg.also
   split
   ·
    rfl
   ·
    exact hmj
 have main : ∀ (fuel : Nat) (listed : Array Bool) (a : Act) (w : World), listed.size = ops.size → Shut ops (msk listed) → cnt (msk listed) ops.size ≤ fuel → I (msk listed) a w → wpAny P .any ops Q fuel listed a w := by
  intro fuel
  induction fuel with
  | zero =>
   intro listed a w hsz hsh hcn hI
   have hall := cnt_zero (Nat.le_zero.1 hcn)
   refine ⟨List.eq_nil_iff_forall_not_mem.2 fun i hi => ?_, hend _ a w hall hI⟩
   obtain ⟨o, h1, h2, _⟩ := mem_ready.1 hi
   have hi' := (Array.getElem?_eq_some_iff.1 h1).1
   have := hall i hi'
   unfold msk at this
   simp [Array.getD_eq_getD_getElem?, hsz ▸ hi'] at this h2
   rw [this] at h2; cases h2
  | succ fuel ih =>
   intro listed a w hsz hsh hcn hI
   refine ⟨fun hnil => hend _ a w (fun j => ?_) hI, fun i hi => ?_⟩
   ·
    induction j using Nat.strongRecOn with
    | _ j ihj =>
     intro hj
     cases hmj : msk listed j with
     | true => rfl
     | false =>
      exfalso
      obtain ⟨o, s, ho, hs⟩ := hsome j hj
      have : j ∈ Region.ready .any ops listed := mem_ready.2 ⟨o, ho, by
       unfold msk at hmj
       simpa [Array.getD_eq_getD_getElem?, hsz ▸ hj] using hmj, fun e he hb => by
       have hlt := (hbern j o s ho hs).1 e he hb
       exact ihj e.on hlt (Nat.lt_trans hlt hj)⟩
      rw [hnil] at this
      cases this
   ·
    obtain ⟨o, h1, h2, h3⟩ := mem_ready.1 hi
    have hi' := (Array.getElem?_eq_some_iff.1 h1).1
    have hmi : msk listed i = false := by
     unfold msk
     simpa [Array.getD_eq_getD_getElem?, hsz ▸ hi'] using h2
    have hset := msk_set (listed := listed) (i := i) (hsz ▸ hi')
    refine hstep (msk listed) i o a w hsh h1 hmi h3 hI _ fun a' w' hI' => ih _ a' w' (by simpa using hsz) ?_ ?_ (hset ▸ hI')
    ·
     rw [hset]
     intro j o' ho' hmj e he hb
     unfold Chg.also at hmj ⊢
     split
     ·
      rfl
     ·
      split at hmj
      ·
       rename_i hji
       subst hji
       rw [h1] at ho'
       cases ho'
       exact h3 e he hb
      ·
       exact hsh j o' ho' hmj e he hb
    ·
     rw [hset]
     have := cnt_also hmi hi'
     omega
 have hno : ∀ j, msk (Array.replicate ops.size false) j = false := fun j => by
  unfold msk
  simp only [Array.getD_eq_getD_getElem?, Array.getElem?_replicate]
  split <;> rfl
 refine wp_region_any hm (main ops.size _ a _ (by simp) (fun j o ho hmj => by rw [hno j] at hmj; cases hmj) (cnt_le _) ?_)
 show Hld P B n J _ _ _ a _
 rw [Chg.fold_none _ _ _ fun j _ => hno j, Chg.fold_none _ _ _ fun j _ => hno j]
 obtain ⟨ρ, Z, L, h1, h2, h3, h4, h5, h6, h7⟩ := h
 have ht : Trn ρ Z (look σ.ob) w ρ Z (look σ.ob) { w with drawn := w.drawn + 1 } := ⟨rfl, rfl, rfl, Nat.le_refl _, fun _ _ _ => rfl, fun _ h => .inl h, fun _ h => .inl h, fun _ h => h, fun _ z h => ⟨z, h, rfl⟩⟩
 have hf := ht.fut h2
 refine ⟨ρ, Z, L, h1, ?_, hJd h3, fun t av hav => (h4 t av hav).fut hf, h5, h6, fun T hT => h7 T hT.1⟩
 exact mem_go h2 (fun _ => False) hf (fun _ _ => .inl rfl) (fun _ _ => rfl) (fun T z _ h8 h9 => ⟨fun _ _ => rfl, fun k hk => (h2.zsep k ⟨T, z, h8, h9, hk⟩).1⟩) (fun _ _ h => h.elim) (fun _ _ _ h => h.elim) (Nat.le_refl _) h2.zlt
end
end Go.Proofs.YthmcpmnhdbeahaaGreat.D
namespace Go.Proofs.YthmcpmnhdbeahaaGreat.D
open Go Go.RowKit
structure Bas (pin : Nat) (ρ : Rz) (Z : Nat → Prop) (ob : Obs) (w : World) (ρ' : Rz) (Z' : Nat → Prop) (ob' : Obs) (w' : World) : Prop where
 os : w'.os = w.os
 tape : w'.tape = w.tape
 output : w'.output = w.output
 size : w.heap.size ≤ w'.heap.size
 old : ∀ k, k < w.heap.size → ¬ Own ρ ob k → w'.heap[k]? = w.heap[k]?
 own : ∀ k, Own ρ' ob' k → Own ρ ob k ∨ w.heap.size ≤ k
 zn : ∀ k, Z' k → Z k ∨ Own ρ ob k ∨ w.heap.size ≤ k
 zm : ∀ k, Z k → Z' k
 hdr : ∀ T z, T < pin → ρ T = some z → ∃ z', ρ' T = some z' ∧ z'.hdr = z.hdr
section
variable {pin : Nat} {ρ ρ' ρ'' : Rz} {Z Z' Z'' : Nat → Prop} {ob ob' ob'' : Obs} {w w' w'' : World}
theorem Bas.refl : Bas pin ρ Z ob w ρ Z ob w := ⟨rfl, rfl, rfl, Nat.le_refl _, fun _ _ _ => rfl, fun _ h => .inl h, fun _ h => .inl h, fun _ h => h, fun _ z _ h => ⟨z, h, rfl⟩⟩
theorem Bas.trn (h : Bas pin ρ Z ob w ρ' Z' ob' w') (h' : Trn ρ' Z' ob' w' ρ'' Z'' ob'' w'') : Bas pin ρ Z ob w ρ'' Z'' ob'' w'' where
 os := h'.os.trans h.os
 tape := h'.tape.trans h.tape
 output := h'.output.trans h.output
 size := Nat.le_trans h.size h'.size
 old := fun k hk hn => (h'.old k (Nat.lt_of_lt_of_le hk h.size) fun ho => (h.own k ho).elim hn fun h => by omega).trans (h.old k hk hn)
 own := fun k hk => (h'.own k hk).elim (h.own k) fun h1 => .inr (Nat.le_trans h.size h1)
 zn := fun k hk => (h'.zn k hk).elim (h.zn k) fun h1 => h1.elim (fun h2 => .inr (h.own k h2)) fun h2 => .inr (.inr (Nat.le_trans h.size h2))
 zm := fun k hk => h'.zm k (h.zm k hk)
 hdr := fun T z hT hz => by
  obtain ⟨z', h1, h2⟩ := h.hdr T z hT hz
  obtain ⟨z'', h3, h4⟩ := h'.hdr T z' h1
  exact ⟨z'', h3, h4.trans h2⟩
theorem Bas.ren (h : Bas pin ρ Z ob w ρ' Z' ob' w') (h1 : ∀ T, T < pin → ρ'' T = ρ' T) (h2 : ∀ k, Own ρ'' ob'' k → Own ρ' ob' k) : Bas pin ρ Z ob w ρ'' Z' ob'' w' where
 os := h.os
 tape := h.tape
 output := h.output
 size := h.size
 old := h.old
 own := fun k hk => h.own k (h2 k hk)
 zn := h.zn
 zm := h.zm
 hdr := fun T z hT hz => by
  obtain ⟨z', h3, h4⟩ := h.hdr T z hT hz
  exact ⟨z', (h1 T hT).trans h3, h4⟩
end
theorem reach_pre (ob : List (Nat × Ob)) : ∀ (n : Nat) (l seen : List Nat), ∃ t, reach ob n l seen = seen ++ t
 | 0, _, seen => ⟨[], by simp [reach]⟩
 | n + 1, [], seen => ⟨[], by simp [reach]⟩
 | n + 1, T :: r, seen => by
  unfold reach
  cases seen.contains T with
  | true => exact reach_pre ob n r seen
  | false =>
   simp only [cond_false]
   split
   ·
    obtain ⟨t, ht⟩ := reach_pre ob n (r ++ tagsLfs _) (seen ++ [T])
    exact ⟨[T] ++ t, by rw [ht]; simp⟩
   ·
    obtain ⟨t, ht⟩ := reach_pre ob n r (seen ++ [T])
    exact ⟨[T] ++ t, by rw [ht]; simp⟩
   ·
    obtain ⟨t, ht⟩ := reach_pre ob n (r ++ [_]) (seen ++ [T])
    exact ⟨[T] ++ t, by rw [ht]; simp⟩
   ·
    exact reach_pre ob n r seen
theorem reach_nodup (ob : List (Nat × Ob)) : ∀ (n : Nat) (l seen : List Nat), seen.Nodup → (reach ob n l seen).Nodup
 | 0, _, seen, h => by simpa [reach] using h
 | n + 1, [], seen, h => by simpa [reach] using h
 | n + 1, T :: r, seen, h => by
  unfold reach
  cases hc : seen.contains T with
  | true => exact reach_nodup ob n r seen h
  | false =>
   have h' : (seen ++ [T]).Nodup := by
    rw [List.nodup_append]
    refine ⟨h, by simp, fun a ha b hb => ?_⟩
    rw [List.mem_singleton.1 hb]
    intro e
    subst e
    simp at hc
    exact hc ha
   simp only [cond_false]
   split
   ·
    exact reach_nodup ob n _ _ h'
   ·
    exact reach_nodup ob n _ _ h'
   ·
    exact reach_nodup ob n _ _ h'
   ·
    exact reach_nodup ob n _ _ h
theorem posOf_spec {T : Nat} : ∀ {s : List Nat} {i k : Nat}, posOf T s i = some k → ∃ j, k = i + j ∧ s[j]? = some T
 | [], _, _, h => by cases h
 | U :: r, i, k, h => by
  unfold posOf at h
  cases hb : Nat.beq T U with
  | true =>
   rw [hb] at h
   cases h
   obtain rfl := Nat.eq_of_beq_eq_true hb
   exact ⟨0, rfl, rfl⟩
  | false =>
   rw [hb] at h
   obtain ⟨j, h1, h2⟩ := posOf_spec (s := r) h
   exact ⟨j + 1, by omega, by simpa using h2⟩
section
variable {P : Program} {B Z : Nat → Prop} {ρ : Rz} {w : World} {s : List Nat}
def renR (s : List Nat) (ρ : Rz) : Rz := fun i => (s[i]?).bind ρ
theorem renR_pos {T i : Nat} (h : posOf T s 0 = some i) : renR s ρ i = ρ T := by
 obtain ⟨j, h1, h2⟩ := posOf_spec h
 rw [Nat.zero_add] at h1
 subst h1
 unfold renR
 rw [h2]; rfl
theorem CapsR.ren : ∀ {caps c : List (Nat × Nat)} {vs : List Value}, renCaps s caps = some c → CapsR ρ caps vs → CapsR (renR s ρ) c vs
 | [], c, vs, h, hc => by cases h; exact hc
 | (T, o) :: r, c, vs, h, ⟨v, vs', h1, ⟨z, g, h2, h3, h4⟩, h5⟩ => by
  unfold renCaps at h
  split at h
  ·
   rename_i i l hi hl
   cases h
   exact ⟨v, vs', h1, ⟨z, g, (renR_pos hi).trans h2, h3, h4⟩, CapsR.ren hl h5⟩
  ·
   cases h
theorem LR.ren {v : Value} : ∀ {l : Lf}, LR P B ρ Z w l v → LR P B (renR s ρ) Z w (renLf s l) v
 | .int _ _, h => h
 | .cnd _ _ _, h => h
 | .str _, h => h
 | .raw _, h => h
 | .sl _ _, h => h
 | .nil, h => h
 | .own T, h => by
  unfold renLf
  simp only
  split
  ·
   rename_i i hi
   obtain ⟨z, h1, h2⟩ := h
   exact ⟨z, (renR_pos hi).trans h1, h2⟩
  ·
   exact h.one rfl
 | .sub T j, h => by
  unfold renLf
  simp only
  split
  ·
   rename_i i hi
   obtain ⟨z, g, n, c, h1, h2⟩ := h
   exact ⟨z, g, n, c, (renR_pos hi).trans h1, h2⟩
  ·
   exact LR.one (P := P) (B := B) (ρ := ρ) (Z := Z) (w := w) (l := .sub T j) h rfl
 | .box T o, h => by
  unfold renLf
  simp only
  split
  ·
   rename_i i hi
   obtain ⟨z, g, h1, h2⟩ := h
   exact ⟨z, g, (renR_pos hi).trans h1, h2⟩
  ·
   exact LR.one (P := P) (B := B) (ρ := ρ) (Z := Z) (w := w) (l := .box T o) h rfl
 | .elt T i z o, h => by
  unfold renLf
  simp only
  split
  ·
   rename_i j hj
   obtain ⟨z, g, n, c, h1, h2⟩ := h
   exact ⟨z, g, n, c, (renR_pos hj).trans h1, h2⟩
  ·
   exact h.one rfl
 | .vpt _ _ _, h => h
 | .fn _ _ _, h => h
 | .clo g caps, h => by
  unfold renLf
  simp only
  split
  ·
   rename_i c hc
   obtain ⟨vs, h1, h2⟩ := h
   exact ⟨vs, h1, h2.ren hc⟩
  ·
   exact h.one rfl
 | .undef, h => h
 | .top, h => h
 | .emp _, h => h
 | .pre T j, h => by
  unfold renLf
  simp only
  split
  ·
   rename_i i hi
   obtain ⟨z, g, n, c, h1, h2⟩ := h
   exact ⟨z, g, n, c, (renR_pos hi).trans h1, h2⟩
  ·
   exact LR.one (P := P) (B := B) (ρ := ρ) (Z := Z) (w := w) (l := .pre T j) h rfl
theorem LRs.ren : ∀ {ls : List Lf} {vs : List Value}, LRs P B ρ Z w ls vs → LRs P B (renR s ρ) Z w (renLfs s ls) vs
 | [], _, h => h
 | l :: r, _, ⟨v, vs', h1, h2, h3⟩ => ⟨v, vs', h1, h2.ren, LRs.ren h3⟩
theorem TupR.ren : ∀ {ps : List (Bool × List Lf)} {vs : List Value}, TupR P B ρ Z w ps vs → TupR P B (renR s ρ) Z w (renTup s ps) vs
 | [], _, h => h
 | (b, ls) :: r, _, ⟨v, vs', cs, h1, h2, h3, h4⟩ => ⟨v, vs', cs, h1, h2.ren, h3, TupR.ren h4⟩
theorem AR.ren {v : Value} : ∀ {av : AV}, AR P B ρ Z w av v → AR P B (renR s ρ) Z w (renAV s av) v
 | .lf _, h => LR.ren h
 | .agg _, ⟨vs, h1, h2⟩ => ⟨vs, h1, h2.ren⟩
 | .tup _, ⟨vs, h1, h2⟩ => ⟨vs, h1, h2.ren⟩
theorem renLf_ok : ∀ {l : Lf}, l.ok = true → (renLf s l).ok = true
 | .int _ _, h => h
 | .cnd _ _ _, h => h
 | .str _, h => h
 | .raw _, h => h
 | .sl _ _, h => h
 | .nil, h => h
 | .own T, h => by unfold renLf; simp only; split <;> rfl
 | .sub T _, h => by unfold renLf; simp only; split <;> rfl
 | .pre T _, h => by unfold renLf; simp only; split <;> rfl
 | .box T _, h => by unfold renLf; simp only; split <;> rfl
 | .elt T _ _ _, h => by unfold renLf; simp only; split <;> rfl
 | .vpt _ _ _, h => h
 | .fn _ _ _, h => h
 | .clo _ _, h => by unfold renLf; simp only; split <;> rfl
 | .undef, h => h
 | .top, h => h
 | .emp _, h => h
theorem renLfs_ok : ∀ {ls : List Lf}, lfsOk ls = true → lfsOk (renLfs s ls) = true
 | [], h => h
 | l :: r, h => by
  simp only [renLfs, lfsOk, Bool.and_eq_true] at h ⊢
  exact ⟨renLf_ok h.1, renLfs_ok h.2⟩
theorem OR.ren {o o' : Ob} {z : Rzv} (h : OR P B ρ Z w o z) (he : renOb s o = some o') : OR P B (renR s ρ) Z w o' z := by
 cases o with
 | box t ro cells =>
  cases he
  obtain ⟨g, vs, h1, h2, h3, h4, h5⟩ := h
  exact ⟨g, vs, h1, h2, h3.ren, renLfs_ok h4, h5⟩
 | row e m t xs => cases he; exact h
 | hole e t xs j n =>
  unfold renOb at he
  simp only at he
  split at he
  ·
   rename_i i hi
   cases he
   obtain ⟨zn, h1, h2⟩ := h
   exact ⟨zn, (renR_pos hi).trans h1, h2⟩
  ·
   cases he
theorem lk_renFr (t : Nat) : ∀ fr : List (Nat × AV), lk t (renFr s fr) = (lk t fr).map (renAV s)
 | [] => rfl
 | (n, v) :: r => by
  by_cases h : t = n
  ·
   subst h; simp [renFr, lk]
  ·
   simp [renFr, lk, beq_ne h, lk_renFr t r]
theorem lk_keep (t : Nat) (fr : List (Nat × AV)) : ∀ (live : List Nat) (v : AV), lk t (keep fr live) = some v → lk t fr = some v
 | [], v, h => by cases h
 | n :: r, v, h => by
  unfold keep at h
  split at h
  ·
   rename_i v' hv
   by_cases hn : t = n
   ·
    subst hn
    simp [lk] at h
    rw [hv, h]
   ·
    simp [lk, beq_ne hn] at h
    exact lk_keep t fr r v h
  ·
   exact lk_keep t fr r v h
theorem lk_renObs (ob : List (Nat × Ob)) : ∀ (l : List Nat) (i k : Nat) (o : Ob), lk k (renObs s ob l i) = some o → ∃ j T o', k = i + j ∧ l[j]? = some T ∧ lk T ob = some o' ∧ renOb s o' = some o
 | [], _, _, _, h => by cases h
 | T :: r, i, k, o, h => by
  unfold renObs at h
  have next : lk k (renObs s ob r (i + 1)) = some o → ∃ j T' o', k = i + j ∧ (T :: r)[j]? = some T' ∧ lk T' ob = some o' ∧ renOb s o' = some o := fun h => by
   obtain ⟨j, T', o', h1, h2, h3⟩ := lk_renObs ob r (i + 1) k o h
   exact ⟨j + 1, T', o', by omega, by simpa using h2, h3⟩
  split at h
  ·
   rename_i o' ho
   by_cases hk : k = i
   ·
    subst hk
    simp [lk] at h
    cases hT : lk T ob with
    | none => rw [hT] at ho; cases ho
    | some o2 =>
     rw [hT] at ho
     exact ⟨0, T, o2, rfl, rfl, hT, ho.trans (by rw [h])⟩
   ·
    simp [lk, beq_ne hk] at h
    exact next h
  ·
   exact next h
theorem ren_own {ob : List (Nat × Ob)} {k : Nat} (h : Own (renR s ρ) (look (renObs s ob s 0)) k) : ∃ (i T : Nat) (z : Rzv), s[i]? = some T ∧ (lk T ob).isSome = true ∧ ρ T = some z ∧ z.F k := by
 obtain ⟨i, z, h1, h2, h3⟩ := h
 have h1 : (lk i (renObs s ob s 0)).isSome = true := h1
 cases hl : lk i (renObs s ob s 0) with
 | none => rw [hl] at h1; cases h1
 | some o =>
  obtain ⟨j, T, o', e, g2, g3, _⟩ := lk_renObs ob s 0 i o hl
  have e : i = j := by omega
  subst e
  unfold renR at h2
  rw [g2] at h2
  exact ⟨i, T, z, g2, by rw [g3]; rfl, h2, h3⟩
theorem mem_ren {ob : List (Nat × Ob)} (hn : s.Nodup) (hm : Mem P B ρ Z (look ob) w) : Mem P B (renR s ρ) Z (look (renObs s ob s 0)) w := by
 have get : ∀ i z, (lk i (renObs s ob s 0)).isSome = true → renR s ρ i = some z → ∃ T, s[i]? = some T ∧ (lk T ob).isSome = true ∧ ρ T = some z := fun i z h1 h2 => by
  cases hl : lk i (renObs s ob s 0) with
  | none => rw [hl] at h1; cases h1
  | some o =>
   obtain ⟨j, T, o', e, g2, g3, _⟩ := lk_renObs ob s 0 i o hl
   have e : i = j := by omega
   subst e
   unfold renR at h2
   rw [g2] at h2
   exact ⟨T, g2, by rw [g3]; rfl, h2⟩
 have own : ∀ k, Own (renR s ρ) (look (renObs s ob s 0)) k → Own ρ (look ob) k := fun k hk => by
  obtain ⟨i, T, z, _, h2, h3, h4⟩ := ren_own hk
  exact ⟨T, z, h2, h3, h4⟩
 refine ⟨fun i o ho => ?_, fun i j z z' k hne h1 h2 h3 h4 h5 h6 => ?_, fun k hk => hm.zsep k (own k hk), hm.zlt, fun k hk => hm.bsep k (own k hk), hm.blt⟩
 ·
  obtain ⟨j, T, o', e, g2, g3, g4⟩ := lk_renObs ob s 0 i o ho
  have e : i = j := by omega
  subst e
  obtain ⟨z, k1, k2⟩ := hm.obj T o' g3
  exact ⟨z, by unfold renR; rw [g2]; exact k1, k2.ren g4⟩
 ·
  obtain ⟨T, a1, a2, a3⟩ := get i z h1 h3
  obtain ⟨U, b1, b2, b3⟩ := get j z' h2 h4
  refine hm.sep T U z z' k (fun e => hne ?_) a2 b2 a3 b3 h5 h6
  subst e
  have hi := (List.getElem?_eq_some_iff.1 a1).1
  have hj := (List.getElem?_eq_some_iff.1 b1).1
  exact (List.getElem?_inj hi hn).1 (a1.trans b1.symm)
end
section
variable {P : Program} {B : Nat → Prop} {n pin : Nat} {ρ0 : Rz} {Z0 : Nat → Prop} {ob0 : Obs} {w0 : World} {a : Act} {w : World}
abbrev At (P : Program) (B : Nat → Prop) (n pin : Nat) (ρ0 : Rz) (Z0 : Nat → Prop) (ob0 : Obs) (w0 : World) (σ : St) (a : Act) (w : World) : Prop := HldS P B n (Bas pin ρ0 Z0 ob0 w0) σ a w
theorem norm_at {σ : St} (h : At P B n pin ρ0 Z0 ob0 w0 σ a w) (live : List Nat) : At P B n pin ρ0 Z0 ob0 w0 (σ.norm pin live) a w := by
 obtain ⟨ρ, Z, L, h1, h2, h3, h4, h5, h6, h7⟩ := h
 have e : ∃ l, σ.norm pin live = ⟨renFr (reach σ.ob 100000 l (List.range pin)) (keep σ.fr live), renObs (reach σ.ob 100000 l (List.range pin)) σ.ob (reach σ.ob 100000 l (List.range pin)) 0, (reach σ.ob 100000 l (List.range pin)).length⟩ := ⟨_, rfl⟩
 obtain ⟨l, e⟩ := e
 rw [e]
 generalize hs : reach σ.ob 100000 l (List.range pin) = s
 have hn : s.Nodup := hs ▸ reach_nodup σ.ob 100000 l _ List.nodup_range
 obtain ⟨t, ht⟩ := reach_pre σ.ob 100000 l (List.range pin)
 rw [hs] at ht
 refine ⟨renR s ρ, Z, _, rfl, mem_ren hn h2, h3.ren (fun T hT => ?_) (fun k hk => ?_), fun t av hav => ?_, h5, h6, fun T (hT : s.length ≤ T) => ?_⟩
 ·
  unfold renR
  rw [ht, List.getElem?_append_left (by simpa using hT), List.getElem?_range hT]
  rfl
 ·
  obtain ⟨i, T, z, _, g2, g3, g4⟩ := ren_own hk
  exact ⟨T, z, g2, g3, g4⟩
 ·
  have hav : lk t (renFr s (keep σ.fr live)) = some av := hav
  rw [lk_renFr] at hav
  cases hk : lk t (keep σ.fr live) with
  | none => rw [hk] at hav; cases hav
  | some v =>
   rw [hk] at hav
   cases hav
   exact (h4 t v (lk_keep t σ.fr live v hk)).ren
 ·
  unfold renR
  rw [List.getElem?_eq_none hT]; rfl
theorem close_sound (lv : List Nat) : ∀ (l : List Nat) (ob : List (Nat × Ob)) (ρ : Rz) (Z : Nat → Prop), Mem P B ρ Z (look ob) w → ∃ ρ', Mem P B ρ' Z (look (closeKs lv l ob)) w ∧ Trn ρ Z (look ob) w ρ' Z (look (closeKs lv l ob)) w ∧ ∀ T, ρ T = none → ρ' T = none
 | [], ob, ρ, Z, hm => ⟨ρ, hm, Trn.refl _ _ _ _, fun _ h => h⟩
 | T :: r, ob, ρ, Z, hm => by
  unfold closeKs
  split
  ·
   rename_i e e' t xs j n ho
   split
   ·
    rename_i e2 t2 ys hn
    split
    ·
     rename_i hh _
     cases hc : Nat.beq e2 e' && !(Nat.beq n T) && !(nf e') && !(lv.contains n) with
     | false => exact close_sound lv r ob ρ Z hm
     | true =>
      rw [Bool.and_eq_true, Bool.and_eq_true, Bool.and_eq_true, Bool.not_eq_true', Bool.not_eq_true'] at hc
      obtain ⟨⟨⟨he, hne⟩, hnf⟩, _⟩ := hc
      obtain rfl := Nat.eq_of_beq_eq_true he
      obtain ⟨hh⟩ := hh
      subst hh
      have hnT : n ≠ T := fun e => by subst e; simp at hne
      obtain ⟨z, hz, zn, hzn, inner, h2, h3, h4, Fs, h5, h6, h7⟩ := hm.obj T _ ho
      obtain ⟨zn', hzn', hrow⟩ := hm.obj n _ hn
      obtain rfl : zn' = zn := Option.some.inj (hzn'.symm.trans hzn)
      have hTs : (lk T ob).isSome = true := by rw [ho]; rfl
      have hns : (lk n ob).isSome = true := by rw [hn]; rfl
      have hsep : ∀ k, z.F k → ¬ zn'.F k := fun k hk hk' => hm.sep T n z zn' k (Ne.symm hnT) hTs hns hz hzn hk hk'
      have hOf : ∀ k, z.F k ∨ zn'.F k → Of ρ [T, n] k := fun k hk => hk.elim (fun h => ⟨T, z, by simp, hz, h⟩) fun h => ⟨n, zn', by simp, hzn, h⟩
      have hal : Alive ob [T, n] := fun U hU => by
       rcases List.mem_cons.1 hU with rfl | hU
       ·
        exact hTs
       ·
        rw [List.mem_singleton.1 hU]; exact hns
      obtain ⟨m1, m2⟩ := mem_put hm (n := T) (o := .row e true (.sl e2 t2) (List.set (α := List t2.den) xs j ys)) (z := ⟨z.hdr, fun k => z.F k ∨ zn'.F k⟩) (c := [T, n]) (del := [n]) (w' := w) hal
       (fun U hU => (List.mem_cons.1 hU).imp id id) (fun h => hnT (List.mem_singleton.1 h).symm) (fun z0 h => by rw [hz] at h; cases h; rfl) rfl rfl rfl (Nat.le_refl _)
       (fun _ z0 h k hk => by rw [hz] at h; cases h; exact hOf k (.inl hk)) (fun _ _ _ => rfl) (fun k hk => ⟨.inl (hOf k hk), (hm.zsep k ((hOf k hk).own hal)).2⟩) (by
       refine ⟨inner, by rw [List.length_set]; exact h2, fun k hk => .inl (h3 k hk), fun i => if i = j then zn'.F else Fs i, fun i p hp => ?_, fun i k hk => ?_, fun a b k hab hk => ?_⟩
       ·
        by_cases hi : i = j
        ·
         subst hi
         have hlt := (List.getElem?_eq_some_iff.1 hp).1
         rw [List.getElem?_set_self (by simpa using hlt)] at hp
         cases hp
         rw [h4]
         simp only [if_pos]
         exact ⟨zn'.hdr, rfl, hrow, fun h => by rw [hnf] at h; cases h⟩
        ·
         rw [List.getElem?_set_ne (Ne.symm hi)] at hp
         simp only [if_neg hi]
         exact h5 i p hi hp
       ·
        by_cases hi : i = j
        ·
         simp only [if_pos hi] at hk
         exact ⟨.inr hk, fun e => hsep k (h3 k e) hk⟩
        ·
         simp only [if_neg hi] at hk
         exact ⟨.inl (h6 i k hi hk).1, (h6 i k hi hk).2⟩
       ·
        by_cases ha : a = j
        ·
         have hb : b ≠ j := fun e => hab (ha.trans e.symm)
         simp only [if_pos ha] at hk
         simp only [if_neg hb]
         exact fun h => hsep k (h6 b k hb h).1 hk
        ·
         simp only [if_neg ha] at hk
         by_cases hb : b = j
         ·
          simp only [if_pos hb]
          exact hsep k (h6 a k ha hk).1
         ·
          simp only [if_neg hb]
          exact h7 a b k hab ha hb hk)
      obtain ⟨ρ', g1, g2, g3⟩ := close_sound lv r _ _ Z m1
      refine ⟨ρ', g1, m2.trans g2, fun U hU => g3 U ?_⟩
      unfold upd
      rw [if_neg fun e => by rw [e, hz] at hU; cases hU]
      exact hU
    ·
     exact close_sound lv r ob ρ Z hm
   ·
    exact close_sound lv r ob ρ Z hm
  ·
   exact close_sound lv r ob ρ Z hm
theorem close_at {σ : St} (h : At P B n pin ρ0 Z0 ob0 w0 σ a w) (live : List Nat) : At P B n pin ρ0 Z0 ob0 w0 (σ.close live) a w := by
 obtain ⟨ρ, Z, L, h1, h2, h3, h4, h5, h6, h7⟩ := h
 obtain ⟨ρ', g1, g2, g3⟩ := close_sound (tagsFr (keep σ.fr live)) (keys σ.ob) σ.ob ρ Z h2
 exact ⟨ρ', Z, _, rfl, g1, h3.trn g2, fun t av hav => (h4 t av hav).fut (g2.fut h2), h5, h6, fun T hT => g3 T (h7 T hT)⟩
theorem sh_sound : ∀ (l : List Nat) (ob : List (Nat × Ob)) (ρ : Rz) (Z : Nat → Prop), Mem P B ρ Z (look ob) w → ∃ ρ' Z', Mem P B ρ' Z' (look (shKs l ob)) w ∧ Trn ρ Z (look ob) w ρ' Z' (look (shKs l ob)) w ∧ ∀ T, ρ T = none → ρ' T = none
 | [], ob, ρ, Z, hm => ⟨ρ, Z, hm, Trn.refl _ _ _ _, fun _ h => h⟩
 | T :: r, ob, ρ, Z, hm => by
  unfold shKs
  split
  ·
   rename_i et e' t xs ho
   obtain ⟨ρ2, Z2, g1, g2, g3⟩ := mem_sh (L' := pts [(T, .row et false (.sl e' t) xs)] ob) hm ho (fun U => by
    rw [lk_pts U _ _ (by simp [keys, nodup])]
    by_cases hU : U = T
    ·
     subst hU; simp [lk]
    ·
     simp [lk, beq_ne hU, hU])
   obtain ⟨ρ3, Z3, k1, k2, k3⟩ := sh_sound r _ ρ2 Z2 g1
   exact ⟨ρ3, Z3, k1, g2.trans k2, fun U hU => k3 U (g3 U hU)⟩
  ·
   exact sh_sound r ob ρ Z hm
theorem sh_at {σ : St} (h : At P B n pin ρ0 Z0 ob0 w0 σ a w) : At P B n pin ρ0 Z0 ob0 w0 σ.sh a w := by
 obtain ⟨ρ, Z, L, h1, h2, h3, h4, h5, h6, h7⟩ := h
 obtain ⟨ρ', Z', g1, g2, g3⟩ := sh_sound (keys σ.ob) σ.ob ρ Z h2
 exact ⟨ρ', Z', _, rfl, g1, h3.trn g2, fun t av hav => (h4 t av hav).fut (g2.fut h2), h5, h6, fun T hT => g3 T (h7 T hT)⟩
theorem nrm_at {E : Env} (hp : E.pin = pin) {σ : St} (h : At P B n pin ρ0 Z0 ob0 w0 σ a w) (id : Option Nat) : At P B n pin ρ0 Z0 ob0 w0 (nrm E id σ) a w := by
 unfold nrm
 split
 ·
  split
  ·
   rw [hp]
   cases E.rows.contains _ with
   | false => exact norm_at (close_at h _) _
   | true => exact sh_at (norm_at (close_at h _) _)
  ·
   exact h
 ·
  exact h
end
end Go.Proofs.YthmcpmnhdbeahaaGreat.D
namespace Go.Proofs.YthmcpmnhdbeahaaGreat.D
open Go Go.RowKit
def Ex.to : Ex → Exit
 | .normal => .normal
 | .exit id => .exit id
 | .ret => .ret
section
variable {P : Program} {B : Nat → Prop} {E : Env} {ρ0 : Rz} {Z0 : Nat → Prop} {ob0 : Obs} {w0 : World}
theorem cond_eval {σ : St} {a : Act} {w : World} {n pin : Nat} (h : At P B n pin ρ0 Z0 ob0 w0 σ a w) {c : Operand} {m : Bool} {p : Prop} {d : Decidable p} (hc : ev σ.fr c = some (.lf (.cnd m p d))) : a.eval c = .bool (bval m p d) := by
 obtain ⟨ρ, Z, L, h1, h2, h3, h4, h5, h6, h7⟩ := h
 have : AR P B ρ Z w (.lf (.cnd m p d)) (a.eval c) := by
  cases c with
  | tmp t => exact h4 t _ hc
  | const v => exact constAV_AR hc
  | global g => cases hc
  | func f => cases hc
 exact this
theorem loop_iter {c : Code} {Q : Exit → Act → World → Prop} {p : Ex × St} {f : St → Option (Ex × St)} {I : St → Act → World → Prop}
  (hbody : ∀ σ a w r, f σ = some r → I σ a w → c.wp P (fun e a' w' => match e with
   | .normal => r.1 = .normal ∧ I r.2 a' w'
   | e => r.1 ≠ .normal ∧ (∀ (σ' : St), r = p → Q e a' w')) a w) : ∀ (n : Nat) (σ : St) (a : Act) (w : World), iter f n σ = some p → I σ a w → (Code.loop c).wp P Q a w := by
 intro n σ a w h hI
 refine wp_loop_ghost (fun n a w => ∃ σ, I σ a w ∧ iter f n σ = some p) n ⟨σ, hI, h⟩ fun n a w ⟨σ, hI, h⟩ => ?_
 cases n with
 | zero => cases h
 | succ n =>
  unfold iter at h
  cases hf : f σ with
  | none => rw [hf] at h; cases h
  | some r =>
   rw [hf] at h
   refine wp_mono (hbody σ a w r hf hI) fun e a' w' hq => ?_
   obtain ⟨x, s⟩ := r
   cases e with
   | normal =>
    obtain ⟨h1, h2⟩ := hq
    have h1 : x = .normal := h1
    subst h1
    exact ⟨n, Nat.lt_succ_self n, s, h2, h⟩
   | _ =>
    obtain ⟨h1, h2⟩ := hq
    have h1 : x ≠ .normal := h1
    cases x with
    | normal => exact absurd rfl h1
    | _ => exact h2 s (Option.some.inj h)
theorem denC_sound (hE : EnvOk P E) (hm : P.follows .mixedOrders = true) : ∀ (c : Code) {β : Type} (K : Ex → St → Option β) (r : β) (σ : St) (a : Act) (w : World) (Q : Exit → Act → World → Prop), denC E c σ K = some r → At P B E.n E.pin ρ0 Z0 ob0 w0 σ a w →
  (∀ ex σ' a' w', K ex σ' = some r → At P B E.n E.pin ρ0 Z0 ob0 w0 σ' a' w' → Q ex.to a' w') → c.wp P Q a w := by
 intro c
 induction c with
 | skip =>
  intro β K r σ a w Q h hat hQ
  exact wp_skip (hQ .normal σ a w (by simpa only [denC] using h) hat)
 | region id ops draw =>
  intro β K r σ a w Q h hat hQ
  simp only [denC] at h
  obtain ⟨ss, σ', h1, h2⟩ := denOps_chain (B := B) (n := E.n) hE rfl (all := ops) _ _ _ _ (fun g b hg => by cases hg) h
  have hn := nrm_at (E := E) rfl hat (some id)
  have hJ : Stays (Bas E.pin ρ0 Z0 ob0 w0) := fun h t => h.trn t
  cases draw with
  | false => exact region_list hJ h2 hn fun a' w' h' => hQ .normal σ' a' w' h1 h'
  | true =>
   simp only [cond_true, List.reverse_nil, List.nil_append] at h1
   cases hb : bern ops (ss.map fun s => (s.need, s.tch)) with
   | false => rw [hb] at h1; cases h1
   | true =>
    rw [hb] at h1
    exact region_any hm hJ (fun {ρ Z ob w} h => h.trn ⟨rfl, rfl, rfl, Nat.le_refl _, fun _ _ _ => rfl, fun _ h => .inl h, fun _ h => .inl h, fun _ h => h, fun _ z h => ⟨z, h, rfl⟩⟩) h2 hb hn fun a' w' h' => hQ .normal σ' a' w' h1 h'
 | seq x y ihx ihy =>
  intro β K r σ a w Q h hat hQ
  simp only [denC] at h
  refine wp_seq (ihx _ r σ a w _ h hat fun ex σ' a' w' hk hat' => ?_)
  cases ex with
  | normal => exact ihy K r σ' a' w' Q hk hat' hQ
  | exit i => exact hQ (.exit i) σ' a' w' hk hat'
  | ret => exact hQ .ret σ' a' w' hk hat'
 | cond c x y ihx ihy =>
  intro β K r σ a w Q h hat hQ
  simp only [denC] at h
  split at h
  ·
   rename_i m p d hc
   have hev := cond_eval hat hc
   refine wp_cond hev ?_
   by_cases hp : p
   ·
    rw [if_pos hp] at h
    have hv : bval m p d = !m := by unfold bval; rw [decide_eq_true hp]; cases m <;> rfl
    rw [hv]
    cases m with
    | true => exact ihy K r σ a w Q h hat hQ
    | false => exact ihx K r σ a w Q h hat hQ
   ·
    rw [if_neg hp] at h
    have hv : bval m p d = m := by unfold bval; rw [decide_eq_false hp]; cases m <;> rfl
    rw [hv]
    cases m with
    | true => exact ihx K r σ a w Q h hat hQ
    | false => exact ihy K r σ a w Q h hat hQ
  ·
   cases h
 | block id c ih =>
  intro β K r σ a w Q h hat hQ
  simp only [denC] at h
  refine wp_block (ih _ r σ a w _ h hat fun ex σ' a' w' hk hat' => ?_)
  cases ex with
  | normal => exact hQ .normal σ' a' w' hk hat'
  | exit i =>
   show if i = id then Q .normal a' w' else Q (.exit i) a' w'
   unfold blkK at hk
   by_cases hi : i = id
   ·
    subst hi
    rw [if_pos rfl]
    simp at hk
    exact hQ .normal σ' a' w' hk hat'
   ·
    rw [if_neg hi]
    simp only [beq_ne hi, cond_false] at hk
    exact hQ (.exit i) σ' a' w' hk hat'
  | ret => exact hQ .ret σ' a' w' hk hat'
 | loop c ih =>
  intro β K r σ a w Q h hat hQ
  simp only [denC] at h
  cases hl : loopR (fun s => denC E c s (backK E (rid c))) (nrm E (rid c) σ) with
  | none => rw [hl] at h; cases h
  | some p =>
   rw [hl] at h
   have h : K p.1 p.2 = some r := h
   unfold loopR at hl
   split at hl
   ·
    refine loop_iter (p := p) (I := fun σ a w => At P B E.n E.pin ρ0 Z0 ob0 w0 σ a w) (fun σ a w r' hf hI => ?_) _ _ a w hl (nrm_at rfl hat _)
    refine ih _ r' σ a w _ hf hI fun ex σ' a' w' hk hat' => ?_
    cases ex with
    | normal =>
     have hk : some (Ex.normal, nrm E (rid c) σ') = some r' := hk
     cases hk
     exact ⟨rfl, nrm_at rfl hat' _⟩
    | exit i =>
     have hk : some (Ex.exit i, σ') = some r' := hk
     cases hk
     exact ⟨fun h => (by cases h), fun _ hp => by subst hp; exact hQ (.exit i) σ' a' w' h hat'⟩
    | ret =>
     have hk : some (Ex.ret, σ') = some r' := hk
     cases hk
     exact ⟨fun h => (by cases h), fun _ hp => by subst hp; exact hQ .ret σ' a' w' h hat'⟩
   ·
    cases hl
 | exit id =>
  intro β K r σ a w Q h hat hQ
  exact wp_exit (hQ (.exit id) σ a w (by simpa only [denC] using h) hat)
 | ret =>
  intro β K r σ a w Q h hat hQ
  exact wp_ret (hQ .ret σ a w (by simpa only [denC] using h) hat)
 | _ => intro β K r σ a w Q h hat hQ; simp [denC] at h
end
end Go.Proofs.YthmcpmnhdbeahaaGreat.D
namespace Go.Proofs.YthmcpmnhdbeahaaGreat.D
open Go Go.RowKit
section
variable {P : Program} {B Z : Nat → Prop} {w : World}
theorem back_lfs {ρ : Rz} : ∀ (ss : List LS) (x : lsd ss) (nx : Nat) (vs : List Value), LRs P B ρ Z w (mkLfs ss x nx).1 vs → BackLSs ρ ss vs (lfTags ss nx).1 ∧ (lfTags ss nx).2 = (mkLfs ss x nx).2.2
 | [], x, nx, vs, h => ⟨rfl, rfl⟩
 | .v t :: ss, x, nx, _, ⟨v, vs', e, h1, h2⟩ => by
  obtain ⟨k1, k2⟩ := back_lfs ss x.2 nx vs' h2
  exact ⟨⟨v, vs', [], _, e, rfl, rfl, k1⟩, k2⟩
 | .fn asx r :: ss, x, nx, _, ⟨v, vs', e, h1, h2⟩ => by
  obtain ⟨k1, k2⟩ := back_lfs ss x.2 nx vs' h2
  exact ⟨⟨v, vs', [], _, e, rfl, rfl, k1⟩, k2⟩
 | .own e m t :: ss, x, nx, _, ⟨v, vs', e1, ⟨z, h3, h4, _⟩, h2⟩ => by
  obtain ⟨k1, k2⟩ := back_lfs ss x.2 (nx + 1) vs' h2
  exact ⟨⟨v, vs', [nx], _, e1, rfl, ⟨nx, z, rfl, h3, h4.symm⟩, k1⟩, k2⟩
theorem Puts.ro {T : Nat} {t : TypeId} {os : List (Nat × Ob)} {zl : List (Nat × Rzv)} {ls : List Lf} {us : List Value} {g : Nat} {F F0 : Nat → Prop} (h : Puts P B Z w os zl F) (hok : lfsOk ls = true) (hl : ∀ ρ' : Rz, (∀ T z, lk T zl = some z → ρ' T = some z) → LRs P B ρ' Z w ls us) (hg : w.heap[g]? = some (.cells us.toArray t (0, 0))) (hgB : B g) (hs : ∀ k, F k → F0 k) (hT : T ∉ keys zl) :
  Puts P B Z w ((T, .box t true ls) :: os) ((T, ⟨.pointer (some ⟨g, 0, none⟩), fun _ => False⟩) :: zl) F0 := by
 have cut : ∀ {U : Nat} {z : Rzv}, lk U ((T, (⟨.pointer (some ⟨g, 0, none⟩), fun _ => False⟩ : Rzv)) :: zl) = some z → (U = T ∧ z = ⟨.pointer (some ⟨g, 0, none⟩), fun _ => False⟩) ∨ (U ≠ T ∧ lk U zl = some z) := by
  intro U z h
  by_cases hU : U = T
  ·
   subst hU
   simp [lk] at h
   exact .inl ⟨rfl, h.symm⟩
  ·
   simp [lk, beq_ne hU] at h
   exact .inr ⟨hU, h⟩
 refine ⟨by simp [keys, h.key], fun U z hz k hk => ?_, fun U U' z z' k hne hz hz' hk hk' => ?_, fun ρ' hρ U o z ho hz => ?_⟩
 ·
  rcases cut hz with ⟨_, rfl⟩ | ⟨_, hz⟩
  ·
   exact hk.elim
  ·
   exact hs k (h.sub U z hz k hk)
 ·
  rcases cut hz with ⟨e, rfl⟩ | ⟨e, hy⟩ <;> rcases cut hz' with ⟨e', rfl⟩ | ⟨e', hy'⟩
  ·
   exact hk
  ·
   exact hk
  ·
   exact hk'
  ·
   exact h.dis U U' z z' k hne hy hy' hk hk'
 ·
  have hp : ∀ U z, lk U zl = some z → ρ' U = some z := fun U z hz => hρ U z (by
   have hU : U ≠ T := fun e => hT (e ▸ lk_keys hz)
   simp only [lk, beq_ne hU, cond_false]
   exact hz)
  rcases cut hz with ⟨rfl, rfl⟩ | ⟨e, hz⟩
  ·
   simp [lk] at ho
   subst ho
   exact ⟨g, us, rfl, hg, hl ρ' hp, hok, (fun h => by cases h), fun _ => hgB⟩
  ·
   simp only [lk, beq_ne e, cond_false] at ho
   exact h.ors ρ' hp U o z ho hz
def noOwn : List LS → Bool
 | [] => true
 | .own _ _ _ :: _ => false
 | .v _ :: r => noOwn r
 | .fn _ _ :: r => noOwn r
def roOk : List ASh → Bool
 | [] => true
 | .ptr true _ ss :: r => noOwn ss && roOk r
 | .one _ :: r => roOk r
 | .agg _ :: r => roOk r
 | .eat _ _ _ :: r => roOk r
 | .non :: r => roOk r
 | .ptr false _ _ :: r => roOk r
theorem mkLfs_none : ∀ (ss : List LS) (x : lsd ss) (nx : Nat), noOwn ss = true → (mkLfs ss x nx).2 = ([], nx) ∧ (lfTags ss nx).2 = nx
 | [], _, _, _ => ⟨rfl, rfl⟩
 | .v t :: ss, x, nx, h => mkLfs_none ss x.2 nx h
 | .fn asx r :: ss, x, nx, h => mkLfs_none ss x.2 nx h
 | .own _ _ _ :: _, _, _, h => by cases h
def Pars (P : Program) (B : Nat → Prop) (ρ : Rz) (Z : Nat → Prop) (w : World) (fr : List (Nat × AV)) (t : Nat) (vs : List Value) : Prop := ∀ u av, lk u fr = some av → ∃ i v, u = t + i ∧ vs[i]? = some v ∧ AR P B ρ Z w av v
theorem Pars.cons {ρ : Rz} {fr : List (Nat × AV)} {t : Nat} {v : Value} {vs : List Value} {av : AV} (h : AR P B ρ Z w av v) (h' : Pars P B ρ Z w fr (t + 1) vs) : Pars P B ρ Z w ((t, av) :: fr) t (v :: vs) := by
 intro u av' hu
 by_cases e : u = t
 ·
  subst e
  simp [lk] at hu
  subst hu
  exact ⟨0, v, rfl, rfl, h⟩
 ·
  simp [lk, beq_ne e] at hu
  obtain ⟨i, v', h1, h2, h3⟩ := h' u av' hu
  exact ⟨i + 1, v', by omega, by simpa using h2, h3⟩
theorem mkIns_sound : ∀ (ins : List ASh) (x : lsd (flats ins)) (vs : List Value) (F : Nat → Prop) (t nx : Nat), roOk ins = true → ASRs P B Z w ins x vs F →
  ∃ zl, Puts P B Z w (mkIns ins x t nx).2.1 zl F ∧ Range zl nx (mkIns ins x t nx).2.2 (mkIns ins x t nx).2.1 ∧ vs.length = ins.length ∧ ∀ ρ' : Rz, (∀ T z, lk T zl = some z → ρ' T = some z) → Pars P B ρ' Z w (mkIns ins x t nx).1 t vs ∧ BackRs ρ' ins vs (inTags ins nx)
 | [], x, vs, F, t, nx, _, h => by
  cases h
  exact ⟨[], Puts.nil, Range.nil nx, rfl, fun ρ' _ => ⟨(fun u av h => by cases h), rfl⟩⟩
 | .one s :: r, x, _, F, t, nx, hro, ⟨v, vs', F0, F1, e, h2, h3, h4, h5, h6⟩ => by
  subst e
  obtain ⟨zl, k1, k2, k3, k4, k5⟩ := mkLfs_sound [s] (x.1, ()) [v] F0 nx ⟨v, [], F0, fun _ => False, rfl, h2, rfl, fun _ h => h, fun _ h => h.elim, fun _ _ h => h⟩
  obtain ⟨zl', m1, m2, m3, m4⟩ := mkIns_sound r x.2 vs' F1 (t + 1) (mkLfs [s] (x.1, ()) nx).2.2 hro h3
  refine ⟨zl ++ zl', Puts.append k1 m1 (k2.dis m2) h4 h5 h6, k2.append m2, by simp [m3], fun ρ' hρ => ?_⟩
  have hl := k5 ρ' fun T z h => hρ T z (lk_left h)
  obtain ⟨b1, b2⟩ := back_lfs [s] (x.1, ()) nx [v] hl
  obtain ⟨c1, c2⟩ := m4 ρ' fun T z h => hρ T z (lk_right (fun hT => k2.dis m2 T hT (lk_keys h)) h)
  constructor
  ·
   refine Pars.cons ?_ c1
   have hlen : (mkLfs [s] (x.1, ()) nx).1.length = 1 := k4
   generalize (mkLfs [s] (x.1, ()) nx).1 = ls at hl hlen
   rcases ls with _ | ⟨l, _ | ⟨l', ls⟩⟩
   ·
    cases hlen
   ·
    obtain ⟨v', e, hv⟩ := hl.one_inv
    cases e
    exact hv
   ·
    simp at hlen
  ·
   obtain ⟨v0, vs0, t1, t2, e1, e2, e3, e4⟩ := b1
   cases e1
   cases e4
   refine ⟨v, vs', (lfTags [s] nx).1, inTags r (mkLfs [s] (x.1, ()) nx).2.2, rfl, ?_, ?_, c2⟩
   ·
    show (lfTags [s] nx).1 ++ inTags r (lfTags [s] nx).2 = _
    rw [b2]
   ·
    rw [e2, List.append_nil]; exact e3
 | .non :: r, x, _, F, t, nx, hro, ⟨v, vs', F0, F1, e, h2, h3, h4, h5, h6⟩ => by
  subst e
  obtain ⟨zl', m1, m2, m3, m4⟩ := mkIns_sound r x vs' F1 (t + 1) nx hro h3
  refine ⟨zl', ⟨m1.key, fun T z h k hk => h5 k (m1.sub T z h k hk), m1.dis, m1.ors⟩, m2, by simp [m3], fun ρ' hρ => ?_⟩
  obtain ⟨c1, c2⟩ := m4 ρ' hρ
  exact ⟨Pars.cons (show AR P B ρ' Z w (.lf .nil) v from h2) c1, v, vs', [], inTags r nx, rfl, rfl, rfl, c2⟩
 | .eat e' m' t' :: r, x, _, F, t, nx, hro, ⟨v, vs', F0, F1, e, h2, h3, h4, h5, h6⟩ => by
  subst e
  obtain ⟨zl, k1, k2, k3, k4, k5⟩ := mkLfs_sound [.own e' m' t'] (x.1, ()) [v] F0 nx ⟨v, [], F0, fun _ => False, rfl, h2, rfl, fun _ h => h, fun _ h => h.elim, fun _ _ h => h⟩
  obtain ⟨zl', m1, m2, m3, m4⟩ := mkIns_sound r x.2 vs' F1 (t + 1) (mkLfs [.own e' m' t'] (x.1, ()) nx).2.2 hro h3
  refine ⟨zl ++ zl', Puts.append k1 m1 (k2.dis m2) h4 h5 h6, k2.append m2, by simp [m3], fun ρ' hρ => ?_⟩
  have hl := k5 ρ' fun T z h => hρ T z (lk_left h)
  obtain ⟨b1, b2⟩ := back_lfs [.own e' m' t'] (x.1, ()) nx [v] hl
  obtain ⟨c1, c2⟩ := m4 ρ' fun T z h => hρ T z (lk_right (fun hT => k2.dis m2 T hT (lk_keys h)) h)
  constructor
  ·
   refine Pars.cons ?_ c1
   obtain ⟨v', vs0, e, hv, _⟩ := hl
   cases e
   exact (show AR P B ρ' Z w (.lf (.own nx)) v from hv)
  ·
   refine ⟨v, vs', [], inTags r (mkLfs [.own e' m' t'] (x.1, ()) nx).2.2, rfl, ?_, rfl, c2⟩
   show inTags r (nx + 1) = _
   rfl
 | .agg ss :: r, x, _, F, t, nx, hro, ⟨v, vs', F0, F1, e, ⟨us, e2, h2⟩, h3, h4, h5, h6⟩ => by
  subst e
  obtain ⟨zl, k1, k2, k3, k4, k5⟩ := mkLfs_sound ss (lsdSplit ss (flats r) x).1 us F0 nx h2
  obtain ⟨zl', m1, m2, m3, m4⟩ := mkIns_sound r (lsdSplit ss (flats r) x).2 vs' F1 (t + 1) (mkLfs ss (lsdSplit ss (flats r) x).1 nx).2.2 hro h3
  refine ⟨zl ++ zl', Puts.append k1 m1 (k2.dis m2) h4 h5 h6, k2.append m2, by simp [m3], fun ρ' hρ => ?_⟩
  have hl := k5 ρ' fun T z h => hρ T z (lk_left h)
  obtain ⟨b1, b2⟩ := back_lfs ss _ nx us hl
  obtain ⟨c1, c2⟩ := m4 ρ' fun T z h => hρ T z (lk_right (fun hT => k2.dis m2 T hT (lk_keys h)) h)
  exact ⟨Pars.cons (av := .agg _) ⟨us, e2, hl⟩ c1, v, vs', (lfTags ss nx).1, inTags r (mkLfs ss (lsdSplit ss (flats r) x).1 nx).2.2, rfl, by
   show (lfTags ss nx).1 ++ inTags r (lfTags ss nx).2 = _
   rw [b2], ⟨us, e2, b1⟩, c2⟩
 | .ptr true ty ss :: r, x, _, F, t, nx, hro, ⟨v, vs', F0, F1, e, ⟨g, us, F', e2, e3, h2, gB⟩, h3, h4, h5, h6⟩ => by
  subst e
  subst e2
  rw [roOk, Bool.and_eq_true] at hro
  obtain ⟨n1, n2⟩ := mkLfs_none ss (lsdSplit ss (flats r) x).1 (nx + 1) hro.1
  obtain ⟨zl, k1, k2, k3, k4, k5⟩ := mkLfs_sound ss (lsdSplit ss (flats r) x).1 us F' (nx + 1) h2
  obtain ⟨zl', m1, m2, m3, m4⟩ := mkIns_sound r (lsdSplit ss (flats r) x).2 vs' F1 (t + 1) (mkLfs ss (lsdSplit ss (flats r) x).1 (nx + 1)).2.2 hro.2 h3
  have hz : zl = [] := by
   have := k1.key
   rw [n1] at this
   cases zl with
   | nil => rfl
   | cons a l => cases this
  subst hz
  have hR := Range.one nx ⟨.pointer (some ⟨g, 0, none⟩), fun _ => False⟩ (.box ty true (mkLfs ss (lsdSplit ss (flats r) x).1 (nx + 1)).1)
  have hB := Puts.ro (T := nx) (t := ty) (F0 := F0) (os := (mkLfs ss (lsdSplit ss (flats r) x).1 (nx + 1)).2.1) (F := fun _ => False) (by rw [n1]; exact Puts.nil) k3 k5 e3 gB (fun k hk => hk.elim) (fun hT => by cases hT)
  have hR2 := hR.append k2
  refine ⟨((nx, (⟨.pointer (some ⟨g, 0, none⟩), fun _ => False⟩ : Rzv)) :: []) ++ zl', Puts.append hB m1 (hR2.dis m2) h4 h5 h6, hR2.append m2, by simp [m3], fun ρ' hρ => ?_⟩
  have hnx := hρ nx _ (lk_head _ _ _)
  obtain ⟨c1, c2⟩ := m4 ρ' fun T z h => hρ T z (lk_right (fun hT => hR2.dis m2 T hT (lk_keys h)) h)
  refine ⟨Pars.cons (av := .lf (.box nx 0)) ⟨_, g, hnx, rfl, rfl⟩ c1, _, vs', [], inTags r (mkLfs ss (lsdSplit ss (flats r) x).1 (nx + 1)).2.2, rfl, ?_, rfl, c2⟩
  show (bif true then inTags r (lfTags ss (nx + 1)).2 else nx :: inTags r (lfTags ss (nx + 1)).2) = _
  rw [n2, n1]; rfl
 | .ptr false ty ss :: r, x, _, F, t, nx, hro, ⟨v, vs', F0, F1, e, ⟨g, us, F', e2, e3, h2, g1, g2, g3⟩, h3, h4, h5, h6⟩ => by
  subst e
  subst e2
  obtain ⟨zl, k1, k2, k3, k4, k5⟩ := mkLfs_sound ss (lsdSplit ss (flats r) x).1 us F' (nx + 1) h2
  obtain ⟨zl', m1, m2, m3, m4⟩ := mkIns_sound r (lsdSplit ss (flats r) x).2 vs' F1 (t + 1) (mkLfs ss (lsdSplit ss (flats r) x).1 (nx + 1)).2.2 hro h3
  have hR := Range.one nx ⟨.pointer (some ⟨g, 0, none⟩), fun k => k = g⟩ (.box ty false (mkLfs ss (lsdSplit ss (flats r) x).1 (nx + 1)).1)
  have hB := Puts.box (T := nx) (t := ty) k1 k3 k5 e3 g2 (F0 := F0) (fun k hk => by cases hk; exact g1) g3 (fun hT => hR.dis k2 nx (List.mem_singleton.2 rfl) hT)
  have hR2 := hR.append k2
  refine ⟨((nx, ⟨.pointer (some ⟨g, 0, none⟩), fun k => k = g⟩) :: zl) ++ zl', Puts.append hB m1 (hR2.dis m2) h4 h5 h6, hR2.append m2, by simp [m3], fun ρ' hρ => ?_⟩
  have hnx := hρ nx _ (lk_head _ _ _)
  have hzl : ∀ T z, lk T zl = some z → ρ' T = some z := fun T z h => hρ T z (lk_left (by
   have := (k2.lo T (lk_keys h)).1
   simp only [lk, beq_ne (show T ≠ nx by omega), cond_false]
   exact h))
  have hl := k5 ρ' hzl
  obtain ⟨b1, b2⟩ := back_lfs ss _ (nx + 1) us hl
  obtain ⟨c1, c2⟩ := m4 ρ' fun T z h => hρ T z (lk_right (fun hT => hR2.dis m2 T hT (lk_keys h)) h)
  refine ⟨Pars.cons (av := .lf (.box nx 0)) ⟨_, g, hnx, rfl, rfl⟩ c1, _, vs', [nx], inTags r (mkLfs ss (lsdSplit ss (flats r) x).1 (nx + 1)).2.2, rfl, ?_, ⟨nx, _, rfl, hnx, rfl⟩, c2⟩
  show (bif false then inTags r (lfTags ss (nx + 1)).2 else nx :: inTags r (lfTags ss (nx + 1)).2) = _
  rw [b2]; rfl
end
end Go.Proofs.YthmcpmnhdbeahaaGreat.D
namespace Go.Proofs.YthmcpmnhdbeahaaGreat.D
open Go Go.RowKit
section
variable {P : Program} {B Z : Nat → Prop} {ρ : Rz} {ob : List (Nat × Ob)} {w : World} {β γ : Type} {KK : γ → List Nat → Option β} {r : β}
theorem alive_one {T : Nat} {o : Ob} (h : lk T ob = some o) : Alive ob [T] := fun U hU => by rw [List.mem_singleton.1 hU, h]; rfl
theorem lfDen_sound (hm : Mem P B ρ Z (look ob) w) : ∀ (s : LS) (l : Lf) (v : Value) (nd : List Nat) (K : s.den → List Nat → Pg γ), (lfDen s l K).run ob KK nd = some r → LR P B ρ Z w l v →
  ∃ x c nd', (K x c).run ob KK nd' = some r ∧ LSR P B Z w s x v (Of ρ c) ∧ Alive ob c
 | .v t, l, v, nd, K, h, hl => by
  obtain ⟨x, c, nd1, h, htell, hal⟩ := toDen_one hm h hl
  exact ⟨x, c, nd1, h, htell, hal⟩
 | .fn asx rt, l, v, nd, K, h, hl => by cases l <;> cases h
 | .own e m t, l, v, nd, K, h, hl => by
  cases l <;> first | (cases h; done) | skip
  case nil =>
   have hl : v = .slice none 0 0 := hl
   subst hl
   exact ⟨_, [], nd, h, ⟨[], World.ownsRow_nil w 0 e t.size, (fun k hk => by cases hk), fun _ _ => False, (fun j p hp => by simp at hp), (fun _ _ h => h.elim), fun _ _ _ _ h => h.elim⟩, Alive.nil⟩
  case own T =>
   simp only [lfDen, run_obj] at h
   obtain ⟨o, ho, h⟩ := h
   cases o with
   | box _ _ _ => cases h
   | hole _ _ _ _ _ => cases h
   | row e' m' t' xs =>
    simp only [run_chk] at h
    obtain ⟨hc, h⟩ := h
    rw [Bool.and_eq_true] at hc
    obtain ⟨he, hc⟩ := hc
    obtain rfl := Nat.eq_of_beq_eq_true he
    cases hq : Ty.eq? t' t with
    | none => rw [hq] at h; cases h
    | some hh =>
     rw [hq] at h
     obtain ⟨hh⟩ := hh
     subst hh
     obtain ⟨z, hz, rfl, hone⟩ := hl
     obtain ⟨z', hz', hr⟩ := hm.obj T _ ho
     obtain rfl : z' = z := Option.some.inj (hz'.symm.trans hz)
     exact ⟨xs, [T], _, h, row_as hr hz hc, alive_one ho⟩
theorem of_dis (hm : Mem P B ρ Z (look ob) w) {a b : List Nat} (ha : Alive ob a) (hb : Alive ob b) (hn : nodup (a ++ b) = true) : ∀ k, Of ρ a k → ¬ Of ρ b k := fun k hk => Of.sep hm ha hb (nodup_append hn).2.2 hk
theorem lfsDen_sound (hm : Mem P B ρ Z (look ob) w) : ∀ (ss : List LS) (ls : List Lf) (vs : List Value) (nd : List Nat) (K : lsd ss → List Nat → Pg γ), (lfsDen ss ls K).run ob KK nd = some r → LRs P B ρ Z w ls vs →
  ∃ x c nd', (K x c).run ob KK nd' = some r ∧ (nodup c = true → LSRs P B Z w ss x vs (Of ρ c)) ∧ Alive ob c
 | [], [], vs, nd, K, h, hl => ⟨(), [], nd, h, fun _ => hl, Alive.nil⟩
 | [], _ :: _, vs, nd, K, h, hl => by cases h
 | s :: ss, [], vs, nd, K, h, hl => by cases h
 | s :: ss, l :: ls, vs, nd, K, h, ⟨v, vs', e, h1, h2⟩ => by
  subst e
  obtain ⟨x, c, nd1, h, k1, k2⟩ := lfDen_sound hm s l v nd _ h h1
  obtain ⟨y, c', nd2, h, k3, k4⟩ := lfsDen_sound hm ss ls vs' nd1 _ h h2
  exact ⟨(x, y), c ++ c', nd2, h, fun hn => ⟨v, vs', _, _, rfl, k1, k3 (nodup_append hn).2.1, fun k hk => hk.left, fun k hk => hk.right, of_dis hm k2 k4 hn⟩, k2.append k4⟩
theorem box_den (hm : Mem P B ρ Z (look ob) w) {T : Nat} {bt : TypeId} {cells : List Lf} (ho : lk T ob = some (.box bt false cells)) {v : Value} {z0 : Rzv} (hz0 : ρ T = some z0) (hv : z0.hdr = v) : ∃ g vs, v = .pointer (some ⟨g, 0, none⟩) ∧ w.heap[g]? = some (.cells vs.toArray bt (0, 0)) ∧ LRs P B ρ Z w cells vs ∧ ∀ c, Alive ob c → nodup (T :: c) = true → Of ρ (T :: c) g ∧ ¬ Of ρ c g ∧ ∀ k, Of ρ c k → Of ρ (T :: c) k := by
 obtain ⟨z, hz, g, vs, h1, h2, h3, h4, h5, h6⟩ := hm.obj T _ ho
 obtain rfl : z = z0 := Option.some.inj (hz.symm.trans hz0)
 refine ⟨g, vs, hv ▸ h1, h2, h3, fun c hc hn => ⟨⟨T, z, List.mem_cons_self, hz, h5 rfl⟩, fun hk => ?_, fun k ⟨U, zu, k1, k2⟩ => ⟨U, zu, List.mem_cons_of_mem _ k1, k2⟩⟩⟩
 exact of_dis hm (alive_one ho) hc hn g ⟨T, z, List.mem_singleton.2 rfl, hz, h5 rfl⟩ hk
theorem resDen_sound (hm : Mem P B ρ Z (look ob) w) : ∀ (outs : List ASh) (avs : List AV) (us : List Value) (nd : List Nat) (K : lsd (flats outs) → List Nat → Pg γ), (resDen outs avs K).run ob KK nd = some r → AVs P B ρ Z w avs us →
  ∃ y c nd', (K y c).run ob KK nd' = some r ∧ (nodup c = true → ASRs P B Z w outs y us (Of ρ c)) ∧ Alive ob c
 | [], [], us, nd, K, h, hl => ⟨(), [], nd, h, fun _ => hl, Alive.nil⟩
 | [], _ :: _, us, nd, K, h, hl => by cases h
 | .one s :: outs, avs, us, nd, K, h, hl => by
  rcases avs with _ | ⟨av, avs⟩
  ·
   cases h
  ·
   cases av <;> first | (cases h; done) | skip
   rename_i l
   obtain ⟨v, vs', rfl, h1, h2⟩ := hl
   obtain ⟨x, c, nd1, h, k1, k2⟩ := lfDen_sound hm s l v nd _ h h1
   obtain ⟨y, c', nd2, h, k3, k4⟩ := resDen_sound hm outs avs vs' nd1 _ h h2
   exact ⟨_, c ++ c', nd2, h, fun hn => ⟨v, vs', _, _, rfl, k1, k3 (nodup_append hn).2.1, fun k hk => hk.left, fun k hk => hk.right, of_dis hm k2 k4 hn⟩, k2.append k4⟩
 | .eat _ _ _ :: outs, avs, us, nd, K, h, hl => by
  rcases avs with _ | ⟨av, avs⟩
  ·
   cases h
  ·
   cases av <;> cases h
 | .non :: outs, avs, us, nd, K, h, hl => by
  rcases avs with _ | ⟨av, avs⟩
  ·
   cases h
  ·
   cases av <;> cases h
 | .agg ss :: outs, avs, us, nd, K, h, hl => by
  rcases avs with _ | ⟨av, avs⟩
  ·
   cases h
  ·
   cases av <;> first | (cases h; done) | skip
   rename_i ls
   obtain ⟨v, vs', rfl, ⟨us', e, h1⟩, h2⟩ := hl
   obtain ⟨x, c, nd1, h, k1, k2⟩ := lfsDen_sound hm ss ls us' nd _ h h1
   obtain ⟨y, c', nd2, h, k3, k4⟩ := resDen_sound hm outs avs vs' nd1 _ h h2
   refine ⟨_, c ++ c', nd2, h, fun hn => ⟨v, vs', Of ρ c, Of ρ c', rfl, ?_, ?_, fun k hk => hk.left, fun k hk => hk.right, of_dis hm k2 k4 hn⟩, k2.append k4⟩
   ·
    show ASR P B Z w (.agg ss) (lsdSplit ss (flats outs) _).1 v _
    rw [split_join]
    exact ⟨us', e, k1 (nodup_append hn).1⟩
   ·
    show ASRs P B Z w outs (lsdSplit ss (flats outs) _).2 vs' _
    rw [split_join]
    exact k3 (nodup_append hn).2.1
 | .ptr ro t ss :: outs, avs, us, nd, K, h, hl => by
  rcases avs with _ | ⟨av, avs⟩
  ·
   cases ro <;> cases h
  ·
   cases ro with
   | true => cases av <;> cases h
   | false =>
    cases av <;> first | (cases h; done) | skip
    rename_i l
    cases l <;> first | (cases h; done) | skip
    rename_i T off
    cases off with
    | succ _ => cases h
    | zero =>
     obtain ⟨v, vs', rfl, ⟨z0, g0, hz0, hg0, hv⟩, h2⟩ := hl
     simp only [resDen, run_obj] at h
     obtain ⟨o, ho, h⟩ := h
     cases o with
     | row _ _ _ _ => cases h
     | hole _ _ _ _ _ => cases h
     | box bt ro cells =>
      cases ro with
      | true => cases h
      | false =>
       simp only [run_chk] at h
       obtain ⟨hb, h⟩ := h
       obtain rfl := Nat.eq_of_beq_eq_true hb
       obtain ⟨g, cs, e1, e2, e3, e4⟩ := box_den hm ho hz0 (v := v) (hg0.trans hv.symm)
       obtain ⟨x, c, nd1, h, k1, k2⟩ := lfsDen_sound hm ss cells cs _ _ h e3
       obtain ⟨y, c', nd2, h, k3, k4⟩ := resDen_sound hm outs avs vs' nd1 _ h h2
       have hal : Alive ob (T :: c) := fun U hU => (List.mem_cons.1 hU).elim (fun e => by rw [e, ho]; rfl) (k2 U)
       refine ⟨_, T :: c ++ c', nd2, h, fun hn => ⟨v, vs', Of ρ (T :: c), Of ρ c', rfl, ?_, ?_, fun k hk => hk.left, fun k hk => hk.right, of_dis hm hal k4 hn⟩, hal.append k4⟩
       ·
        show ASR P B Z w (.ptr false _ ss) (lsdSplit ss (flats outs) _).1 v _
        rw [split_join]
        have hn1 := (nodup_append hn).1
        exact ⟨g, cs, Of ρ c, e1, e2, k1 (by simp only [nodup, Bool.and_eq_true] at hn1; exact hn1.2), e4 c k2 hn1⟩
       ·
        show ASRs P B Z w outs (lsdSplit ss (flats outs) _).2 vs' _
        rw [split_join]
        exact k3 (nodup_append hn).2.1
theorem backDen_sound (hm : Mem P B ρ Z (look ob) w) : ∀ (s : LS) (v : Value) (ts Ts : List Nat) (nd : List Nat) (K : lsd s.back → List Nat → List Nat → Pg γ), (backDen s (ts ++ Ts) K).run ob KK nd = some r → BackLS ρ s v ts →
  ∃ x c nd', (K x Ts c).run ob KK nd' = some r ∧ IoLS Z w s v x (Of ρ c) ∧ Alive ob c
 | .v t, v, ts, Ts, nd, K, h, hb => by
  cases hb
  exact ⟨(), [], nd, h, trivial, Alive.nil⟩
 | .fn asx rt, v, ts, Ts, nd, K, h, hb => by
  cases hb
  exact ⟨(), [], nd, h, trivial, Alive.nil⟩
 | .own e m t, v, ts, Ts, nd, K, h, hb => by
  obtain ⟨T, z, rfl, hz, hv⟩ := hb
  simp only [List.singleton_append, backDen, run_obj] at h
  obtain ⟨o, ho, h⟩ := h
  cases o with
  | box _ _ _ => cases h
  | hole _ _ _ _ _ => cases h
  | row e' m' t' xs =>
   simp only [run_chk] at h
   obtain ⟨hc, h⟩ := h
   rw [Bool.and_eq_true] at hc
   obtain ⟨he, hc⟩ := hc
   obtain rfl := Nat.eq_of_beq_eq_true he
   cases hq : Ty.eq? t' t with
   | none => rw [hq] at h; cases h
   | some hh =>
    rw [hq] at h
    obtain ⟨hh⟩ := hh
    subst hh
    obtain ⟨z', hz', hr⟩ := hm.obj T _ ho
    obtain rfl : z' = z := Option.some.inj (hz'.symm.trans hz)
    subst hv
    exact ⟨(xs, ()), [T], _, h, row_as hr hz hc, alive_one ho⟩
theorem backsDen_sound (hm : Mem P B ρ Z (look ob) w) : ∀ (ss : List LS) (vs : List Value) (ts Ts : List Nat) (nd : List Nat) (K : lsd (backs ss) → List Nat → List Nat → Pg γ), (backsDen ss (ts ++ Ts) K).run ob KK nd = some r → BackLSs ρ ss vs ts →
  ∃ x c nd', (K x Ts c).run ob KK nd' = some r ∧ (nodup c = true → IoLSs Z w ss vs x (Of ρ c)) ∧ Alive ob c
 | [], vs, ts, Ts, nd, K, h, hb => by
  cases hb
  exact ⟨(), [], nd, h, fun _ => trivial, Alive.nil⟩
 | s :: ss, vs, ts, Ts, nd, K, h, ⟨v, vs', t1, t2, e1, e2, b1, b2⟩ => by
  subst e1
  subst e2
  rw [List.append_assoc] at h
  obtain ⟨x, c, nd1, h, k1, k2⟩ := backDen_sound hm s v t1 (t2 ++ Ts) nd _ h b1
  obtain ⟨y, c', nd2, h, k3, k4⟩ := backsDen_sound hm ss vs' t2 Ts nd1 _ h b2
  refine ⟨_, c ++ c', nd2, h, fun hn => ⟨v, vs', Of ρ c, Of ρ c', rfl, ?_, ?_, fun k hk => hk.left, fun k hk => hk.right, of_dis hm k2 k4 hn⟩, k2.append k4⟩
  ·
   rw [split_join]; exact k1
  ·
   rw [split_join]; exact k3 (nodup_append hn).2.1
theorem ioDen_sound (hm : Mem P B ρ Z (look ob) w) : ∀ (ins : List ASh) (vs : List Value) (Ts : List Nat) (nd : List Nat) (K : lsd (ios ins) → List Nat → Pg γ), (ioDen ins Ts K).run ob KK nd = some r → BackRs ρ ins vs Ts →
  ∃ x c nd', (K x c).run ob KK nd' = some r ∧ (nodup c = true → IoRs P B Z w ins vs x (Of ρ c)) ∧ Alive ob c
 | [], vs, Ts, nd, K, h, hb => by
  cases hb
  exact ⟨(), [], nd, h, fun _ => trivial, Alive.nil⟩
 | .one s :: ins, vs, Ts, nd, K, h, ⟨v, vs', t1, t2, e1, e2, b1, b2⟩ => by
  subst e1
  subst e2
  obtain ⟨x, c, nd1, h, k1, k2⟩ := backDen_sound hm s v t1 t2 nd _ h b1
  obtain ⟨y, c', nd2, h, k3, k4⟩ := ioDen_sound hm ins vs' t2 nd1 _ h b2
  refine ⟨_, c ++ c', nd2, h, fun hn => ⟨v, vs', Of ρ c, Of ρ c', rfl, ?_, ?_, fun k hk => hk.left, fun k hk => hk.right, of_dis hm k2 k4 hn⟩, k2.append k4⟩
  ·
   show IoR P B Z w (.one s) v (lsdSplit s.back (ios ins) _).1 _
   rw [split_join]; exact k1
  ·
   show IoRs P B Z w ins vs' (lsdSplit s.back (ios ins) _).2 _
   rw [split_join]; exact k3 (nodup_append hn).2.1
 | .agg ss :: ins, vs, Ts, nd, K, h, ⟨v, vs', t1, t2, e1, e2, ⟨us, e3, b1⟩, b2⟩ => by
  subst e1
  subst e2
  obtain ⟨x, c, nd1, h, k1, k2⟩ := backsDen_sound hm ss us t1 t2 nd _ h b1
  obtain ⟨y, c', nd2, h, k3, k4⟩ := ioDen_sound hm ins vs' t2 nd1 _ h b2
  refine ⟨_, c ++ c', nd2, h, fun hn => ⟨v, vs', Of ρ c, Of ρ c', rfl, ?_, ?_, fun k hk => hk.left, fun k hk => hk.right, of_dis hm k2 k4 hn⟩, k2.append k4⟩
  ·
   show IoR P B Z w (.agg ss) v (lsdSplit (backs ss) (ios ins) _).1 _
   rw [split_join]; exact ⟨us, e3, k1 (nodup_append hn).1⟩
  ·
   show IoRs P B Z w ins vs' (lsdSplit (backs ss) (ios ins) _).2 _
   rw [split_join]; exact k3 (nodup_append hn).2.1
 | .ptr true t ss :: ins, vs, Ts, nd, K, h, ⟨v, vs', t1, t2, e1, e2, b1, b2⟩ => by
  subst e1
  subst e2
  cases b1
  obtain ⟨y, c', nd2, h, k3, k4⟩ := ioDen_sound hm ins vs' t2 nd _ h b2
  exact ⟨y, c', nd2, h, fun hn => ⟨v, vs', fun _ => False, Of ρ c', rfl, trivial, k3 hn, fun k hk => hk.elim, fun k hk => hk, fun k hk => hk.elim⟩, k4⟩
 | .non :: ins, vs, Ts, nd, K, h, ⟨v, vs', t1, t2, e1, e2, b1, b2⟩ => by
  subst e1
  subst e2
  cases b1
  obtain ⟨y, c', nd2, h, k3, k4⟩ := ioDen_sound hm ins vs' t2 nd _ h b2
  exact ⟨y, c', nd2, h, fun hn => ⟨v, vs', fun _ => False, Of ρ c', rfl, trivial, k3 hn, fun k hk => hk.elim, fun k hk => hk, fun k hk => hk.elim⟩, k4⟩
 | .eat _ _ _ :: ins, vs, Ts, nd, K, h, ⟨v, vs', t1, t2, e1, e2, b1, b2⟩ => by
  subst e1
  subst e2
  cases b1
  obtain ⟨y, c', nd2, h, k3, k4⟩ := ioDen_sound hm ins vs' t2 nd _ h b2
  exact ⟨y, c', nd2, h, fun hn => ⟨v, vs', fun _ => False, Of ρ c', rfl, trivial, k3 hn, fun k hk => hk.elim, fun k hk => hk, fun k hk => hk.elim⟩, k4⟩
 | .ptr false t ss :: ins, vs, Ts, nd, K, h, ⟨v, vs', t1, t2, e1, e2, ⟨T, z0, e3, hz0, hv⟩, b2⟩ => by
  subst e1
  subst e2
  subst e3
  simp only [List.singleton_append, ioDen, run_obj] at h
  obtain ⟨o, ho, h⟩ := h
  cases o with
  | row _ _ _ _ => cases h
  | hole _ _ _ _ _ => cases h
  | box bt ro cells =>
   cases ro with
   | true => cases h
   | false =>
    simp only [run_chk] at h
    obtain ⟨hb, h⟩ := h
    obtain rfl := Nat.eq_of_beq_eq_true hb
    obtain ⟨g, cs, e1, e2, e3, e4⟩ := box_den hm ho hz0 hv
    obtain ⟨x, c, nd1, h, k1, k2⟩ := lfsDen_sound hm ss cells cs _ _ h e3
    obtain ⟨y, c', nd2, h, k3, k4⟩ := ioDen_sound hm ins vs' t2 nd1 _ h b2
    have hal : Alive ob (T :: c) := fun U hU => (List.mem_cons.1 hU).elim (fun e => by rw [e, ho]; rfl) (k2 U)
    refine ⟨_, T :: c ++ c', nd2, h, fun hn => ⟨v, vs', Of ρ (T :: c), Of ρ c', rfl, ?_, ?_, fun k hk => hk.left, fun k hk => hk.right, of_dis hm hal k4 hn⟩, hal.append k4⟩
    ·
     show IoR P B Z w (.ptr false _ ss) v (lsdSplit ss (ios ins) _).1 _
     rw [split_join]
     have hn1 := (nodup_append hn).1
     exact ⟨g, cs, Of ρ c, e1, e2, k1 (by simp only [nodup, Bool.and_eq_true] at hn1; exact hn1.2), e4 c k2 hn1⟩
    ·
     show IoRs P B Z w ins vs' (lsdSplit ss (ios ins) _).2 _
     rw [split_join]
     exact k3 (nodup_append hn).2.1
theorem BackLSs.mono {ρ' : Rz} : ∀ {ss : List LS} {vs : List Value} {Ts : List Nat}, (∀ T ∈ Ts, ∀ z, ρ T = some z → ∃ z', ρ' T = some z' ∧ z'.hdr = z.hdr) → BackLSs ρ ss vs Ts → BackLSs ρ' ss vs Ts
 | [], _, _, _, h => h
 | s :: ss, _, _, hh, ⟨v, vs', t1, t2, e1, e2, b1, b2⟩ => ⟨v, vs', t1, t2, e1, e2, backLS_mono (fun T hT => hh T (e2 ▸ List.mem_append_left _ hT)) b1, BackLSs.mono (fun T hT => hh T (e2 ▸ List.mem_append_right _ hT)) b2⟩
where
 backLS_mono {ρ' : Rz} {s : LS} {v : Value} {Ts : List Nat} (hh : ∀ T ∈ Ts, ∀ z, ρ T = some z → ∃ z', ρ' T = some z' ∧ z'.hdr = z.hdr) (h : BackLS ρ s v Ts) : BackLS ρ' s v Ts := by
  cases s with
  | v t => exact h
  | fn asx rt => exact h
  | own e m t =>
   obtain ⟨T, z, rfl, h1, h2⟩ := h
   obtain ⟨z', h3, h4⟩ := hh T (List.mem_singleton.2 rfl) z h1
   exact ⟨T, z', rfl, h3, h4.trans h2⟩
theorem BackRs.mono {ρ' : Rz} : ∀ {ins : List ASh} {vs : List Value} {Ts : List Nat}, (∀ T ∈ Ts, ∀ z, ρ T = some z → ∃ z', ρ' T = some z' ∧ z'.hdr = z.hdr) → BackRs ρ ins vs Ts → BackRs ρ' ins vs Ts
 | [], _, _, _, h => h
 | a :: ins, _, _, hh, ⟨v, vs', t1, t2, e1, e2, b1, b2⟩ => by
  have h1 : ∀ T ∈ t1, ∀ z, ρ T = some z → ∃ z', ρ' T = some z' ∧ z'.hdr = z.hdr := fun T hT => hh T (e2 ▸ List.mem_append_left _ hT)
  refine ⟨v, vs', t1, t2, e1, e2, ?_, BackRs.mono (fun T hT => hh T (e2 ▸ List.mem_append_right _ hT)) b2⟩
  cases a with
  | eat _ _ _ => exact b1
  | non => exact b1
  | one s => exact BackLSs.mono.backLS_mono h1 b1
  | agg ss =>
   obtain ⟨us, k1, k2⟩ := b1
   exact ⟨us, k1, k2.mono h1⟩
  | ptr ro t ss =>
   cases ro with
   | true => exact b1
   | false =>
    obtain ⟨T, z, rfl, k1, k2⟩ := b1
    obtain ⟨z', k3, k4⟩ := h1 T (List.mem_singleton.2 rfl) z k1
    exact ⟨T, z', rfl, k3, k4.trans k2⟩
inductive Each {α δ : Type} (R : α → δ → Prop) : List α → List δ → Prop where
 | nil : Each R [] []
 | cons {a : α} {b : δ} {l : List α} {m : List δ} : R a b → Each R l m → Each R (a :: l) (b :: m)
def resOne (tmps : Array Value) : ResultVar → Sem Value
 | .tmp t => pure (tmps.getD t undef)
 | .cell a t => do loadVar t (← asAddr (tmps.getD a undef))
theorem results_eq (fn : Func) (tmps : Array Value) : results fn tmps = (do
  let vs ← fn.results.mapM (resOne tmps)
  pure (if h : vs.size = 1 then vs[0] else .tuple vs)) := rfl
theorem mapM_run {tmps : Array Value} : ∀ (l : List ResultVar) (us : List Value), Each (fun x u => (resOne tmps x).run P w = .ok u w) l us → (l.mapM (resOne tmps)).run P w = .ok us w
 | [], _, .nil => by simp
 | x :: l, _, .cons (b := u) h hs => by
  rw [List.mapM_cons]
  simp [h, mapM_run l _ hs]
theorem results_run {fn : Func} {tmps : Array Value} {us : List Value} (h : Each (fun x u => (resOne tmps x).run P w = .ok u w) fn.results.toList us) : (results fn tmps).run P w = .ok (outV us) w := by
 rw [results_eq, Array.mapM_eq_mapM_toList]
 simp only [Sem.run_bind, Sem.run_map, mapM_run _ _ h, Result.andThen]
 rcases us with _ | ⟨u, _ | ⟨u', us⟩⟩
 ·
  simp [outV]
 ·
  simp [outV]
 ·
  simp [outV]
theorem resPg_sound (hm : Mem P B ρ Z (look ob) w) {E : Env} (hE : TtOk P E.tt) {fr : List (Nat × AV)} {a : Act} (hfr : ∀ t av, lk t fr = some av → AR P B ρ Z w av (a.eval (.tmp t))) : ∀ (res : List ResultVar) (nd : List Nat) (K : List AV → Pg γ), (resPg E fr res K).run ob KK nd = some r →
  ∃ avs us nd', (K avs).run ob KK nd' = some r ∧ AVs P B ρ Z w avs us ∧ Each (fun x u => (resOne a.tmps x).run P w = .ok u w) res us
 | [], nd, K, h => ⟨[], [], nd, h, rfl, .nil⟩
 | .tmp t :: res, nd, K, h => by
  unfold resPg at h
  split at h
  ·
   rename_i v hv
   obtain ⟨avs, us, nd', h1, h2, h3⟩ := resPg_sound hm hE hfr res nd _ h
   exact ⟨v :: avs, _ :: us, nd', h1, ⟨_, us, rfl, hfr t v hv, h2⟩, .cons (by simp [resOne, Act.eval]) h3⟩
  ·
   cases h
 | .cell b t :: res, nd, K, h => by
  unfold resPg at h
  split at h
  ·
   rename_i T off i hb hi
   rw [run_obj] at h
   obtain ⟨o, ho, h⟩ := h
   cases o with
   | row _ _ _ _ => cases h
   | hole _ _ _ _ _ => cases h
   | box bt ro cells =>
    obtain ⟨z, hz, g, vs, h1, h2, h3, h4, h5, h6⟩ := hm.obj T _ ho
    have hev : a.eval (.tmp b) = .pointer (some ⟨g, off, none⟩) := by
     obtain ⟨z', g', k1, k2, k3⟩ := hfr b _ hb
     obtain rfl : z' = z := Option.some.inj (k1.symm.trans hz)
     rw [h1] at k2
     cases k2
     exact k3
    have hev : a.tmps.getD b undef = .pointer (some ⟨g, off, none⟩) := hev
    have hcell : ∀ (j : Nat) u, ((vs.drop off).take i.size)[j]? = some u → w.cell? ((⟨g, off, none⟩ : Addr).add j) = some u := fun j u hu => by
     rw [add_plain, cell_of_row w g (off + j) vs.toArray bt (0, 0) h2]
     simpa using take_get hu
    have hl := (h3.drop off).take i.size
    have ht := hE t i hi
    simp only at h
    split at h
    ·
     rename_i fs hk
     rw [run_chk] at h
     obtain ⟨hn, h⟩ := h
     have hn := Nat.eq_of_beq_eq_true hn
     have hsz : ((vs.drop off).take i.size).length = i.size := by rw [hl.len, hn]
     have hr := run_loadCells_list (P := P) w ⟨g, off, none⟩ _ hcell
     rw [hsz] at hr
     obtain ⟨avs, us, nd', g1, g2, g3⟩ := resPg_sound hm hE hfr res _ _ h
     refine ⟨_ :: avs, .agg ((vs.drop off).take i.size).toArray :: us, nd', g1, ⟨_, us, rfl, ⟨_, rfl, hl⟩, g2⟩, .cons ?_ g3⟩
     simp [resOne, hev, asAddr, loadVar, run_isAgg_st ht w hk, run_size ht, hr]
    ·
     rename_i hk
     split at h
     ·
      rename_i l hls
      rw [hls] at hl
      obtain ⟨v, hv, hv'⟩ := hl.one_inv
      have hc0 := hcell 0 v (by rw [hv]; rfl)
      rw [add_zero] at hc0
      obtain ⟨avs, us, nd', g1, g2, g3⟩ := resPg_sound hm hE hfr res _ _ h
      refine ⟨_ :: avs, v :: us, nd', g1, ⟨_, us, rfl, hv', g2⟩, .cons ?_ g3⟩
      simp [resOne, hev, asAddr, loadVar, run_isAgg_no ht w (fun fs hf => hk fs hf), hc0]
     ·
      cases h
  ·
   cases h
end
end Go.Proofs.YthmcpmnhdbeahaaGreat.D
namespace Go.Proofs.YthmcpmnhdbeahaaGreat.D
open Go Go.RowKit
structure FnOk (P : Program) (E : Env) (g : FuncId) (fn : Func) (f : Fn) : Prop where
 func : P.funcs[g]? = some fn
 body : fn.body = some f.body
 name : (fn.name == "runtime.NumGoroutine") = false
 res : fn.results.toList = f.res
 n : fn.ntmps = E.n
 len : f.ins.length ≤ E.n
 ro : roOk f.ins = true
 pin : (inTags f.ins 0).all (fun T => Nat.blt T E.pin) = true
section
variable {P : Program} {E : Env}
theorem entry_at {B Z S : Nat → Prop} {w : World} {f : Fn} {x : lsd (flats f.ins)} {vs : List Value} (hro : roOk f.ins = true) (hlen : f.ins.length ≤ E.n) (h : ASRs P B Z w f.ins x vs S) (hS : ∀ k, S k → ¬ Z k ∧ ¬ B k ∧ k < w.heap.size) (hZ : ∀ k, Z k → k < w.heap.size) (hB : ∀ k, B k → k < w.heap.size) :
  ∃ ρ0 : Rz, (∀ k, Own ρ0 (look (entry f.ins x).ob) k → S k) ∧ BackRs ρ0 f.ins vs (inTags f.ins 0) ∧ At P B E.n E.pin ρ0 Z (look (entry f.ins x).ob) w (entry f.ins x) { tmps := vs.toArray ++ Array.replicate (E.n - vs.toArray.size) undef, defers := [] } w := by
 obtain ⟨zl, k1, k2, k3, k4⟩ := mkIns_sound f.ins x vs S 0 0 hro h
 have e : entry f.ins x = ⟨(mkIns f.ins x 0 0).1, (mkIns f.ins x 0 0).2.1, (mkIns f.ins x 0 0).2.2⟩ := rfl
 rw [e]
 obtain ⟨c1, c2⟩ := k4 (fun T => lk T zl) fun _ _ h => h
 have hown : ∀ k, Own (fun T => lk T zl) (look (mkIns f.ins x 0 0).2.1) k → S k := fun k ⟨T, z, _, h2, h3⟩ => k1.sub T z h2 k h3
 have hvs : vs.length ≤ E.n := by rw [k3]; exact hlen
 refine ⟨fun T => lk T zl, hown, c2, ⟨fun T => lk T zl, Z, _, rfl, ⟨fun T o ho => ?_, fun T T' z z' k hne _ _ h1 h2 => k1.dis T T' z z' k hne h1 h2, fun k hk => ⟨(hS k (hown k hk)).1, (hS k (hown k hk)).2.2⟩, hZ, fun k hk => (hS k (hown k hk)).2.1, hB⟩, Bas.refl, fun t av hav => ?_, ?_, rfl, fun T (hT : (mkIns f.ins x 0 0).2.2 ≤ T) => lk_none fun hk => ?_⟩⟩
 ·
  have hk : T ∈ keys zl := k1.key ▸ lk_keys ho
  rw [mem_keys] at hk
  cases hz : lk T zl with
  | none => rw [hz] at hk; cases hk
  | some z => exact ⟨z, rfl, k1.ors _ (fun _ _ h => h) T o z ho hz⟩
 ·
  obtain ⟨i, v, h1, h2, h3⟩ := c1 t av hav
  rw [Nat.zero_add] at h1
  subst h1
  have hi := (List.getElem?_eq_some_iff.1 h2).1
  have : ({ tmps := vs.toArray ++ Array.replicate (E.n - vs.toArray.size) undef, defers := [] } : Act).eval (.tmp t) = v := by
   simp only [Act.eval, Array.getD_eq_getD_getElem?]
   rw [Array.getElem?_append_left (by simpa using hi)]
   simp [h2]
  rw [this]
  exact h3
 ·
  simp
  omega
 ·
  have := (k2.lo T hk).2
  omega
theorem exit_post {B Z S : Nat → Prop} {w w' : World} {f : Fn} {vs : List Value} {ρ0 : Rz} {ob0 : Obs} {σ : St} {a : Act} {yz : lsd (flats f.outs) × lsd (ios f.ins)} {fn : Func} (hE : EnvOk P E) (hres : fn.results.toList = f.res) (hpin : (inTags f.ins 0).all (fun T => Nat.blt T E.pin) = true)
  (hS : ∀ k, Own ρ0 ob0 k → S k) (hb : BackRs ρ0 f.ins vs (inTags f.ins 0)) (h : At P B E.n E.pin ρ0 Z ob0 w σ a w') (hc : collect E f σ = some yz) :
  a.defers = [] ∧ ∃ u, (results fn a.tmps).run P w' = .ok u w' ∧ ∃ Z' Fi Fo, PostR P B Z S w f.ins f.outs vs yz.1 yz.2 u w' Z' Fi Fo := by
 obtain ⟨ρ, Z', L, h1, hm, hbas, hfr, h5, h6, h7⟩ := h
 refine ⟨h6, ?_⟩
 unfold collect at hc
 obtain ⟨avs, us, nd1, hc, k1, k2⟩ := resPg_sound hm hE.tt (a := a) hfr _ _ _ hc
 obtain ⟨y, c, nd2, hc, k3, k4⟩ := resDen_sound hm _ _ us _ _ hc k1
 have hb' : BackRs ρ f.ins vs (inTags f.ins 0) := hb.mono fun T hT z hz => hbas.hdr T z (by
  rw [List.all_eq_true] at hpin
  simpa using hpin T hT) hz
 obtain ⟨z, c', nd3, hc, k5, k6⟩ := ioDen_sound hm _ vs _ _ _ hc hb'
 rw [run_chk] at hc
 obtain ⟨hn, hc⟩ := hc
 have hc : some (y, z) = some yz := hc
 cases hc
 obtain ⟨n1, n2, n3⟩ := nodup_append hn
 rw [← hres] at k2
 refine ⟨outV us, results_run k2, Z', Of ρ c', Of ρ c, k5 n2, ⟨us, rfl, k3 n1⟩, fun k hk hk' => of_dis hm k4 k6 hn k hk' hk, fun k hk => ?_, hbas.zm, fun k hk => ⟨?_, hm.zlt k hk⟩, hbas.os, hbas.tape, hbas.output, hbas.size, fun k hk hs => hbas.old k hk fun ho => hs (hS k ho)⟩
 ·
  have ho : Own ρ (look σ.ob) k := hk.elim (fun h => h.own k6) fun h => h.own k4
  exact ⟨(hbas.own k ho).imp (hS k) id, (hm.zsep k ho).2, (hm.zsep k ho).1⟩
 ·
  rcases hbas.zn k hk with h | h | h
  ·
   exact .inl h
  ·
   exact .inr (.inl (hS k h))
  ·
   exact .inr (.inr h)
theorem fn_valid (hE : EnvOk P E) (hm : P.follows .mixedOrders = true) {g : FuncId} {fn : Func} {f : Fn} (h : FnOk P E g fn f) {R : Type} {enc : lsd (flats f.outs) × lsd (ios f.ins) → R} {dec : R → lsd (flats f.outs) × lsd (ios f.ins)} (hde : ∀ y, dec (enc y) = y) : Valid P g ⟨f.ins, f.outs, R, denF E f enc, dec⟩ := by
 refine ⟨⟨fn, h.func, h.name, by rw [h.body]; rfl⟩, fun x r hx Z B S w vs hargs hS hZ hB => ?_⟩
 obtain ⟨ρ0, e1, e2, e3⟩ := entry_at (E := E) (f := f) h.ro h.len hargs hS hZ hB
 refine calls_of_wp h.func h.body ?_
 rw [h.n]
 have out : ∀ {yz}, (collect E f yz).map enc = some r → ∃ y, collect E f yz = some y ∧ dec r = y := fun {σ} h => by
  cases hc : collect E f σ with
  | none => rw [hc] at h; cases h
  | some y =>
   rw [hc] at h
   cases h
   exact ⟨y, rfl, hde y⟩
 refine denC_sound hE hm f.body (retG f enc E) r (entry f.ins x) _ w _ hx e3 fun ex σ' a' w' hk hat => ?_
 cases ex with
 | normal =>
  obtain ⟨y, hy, e⟩ := out hk
  obtain ⟨d, u, hr, hp⟩ := exit_post (fn := fn) hE h.res h.pin e1 e2 hat hy
  exact ⟨d, u, hr, u, rfl, by show ∃ Z' Fi Fo, PostR P B Z S w f.ins f.outs vs (dec r).1 (dec r).2 u w' Z' Fi Fo; rw [e]; exact hp⟩
 | exit i => cases hk
 | ret =>
  obtain ⟨y, hy, e⟩ := out hk
  obtain ⟨d, u, hr, hp⟩ := exit_post (fn := fn) hE h.res h.pin e1 e2 hat hy
  exact ⟨d, u, hr, u, rfl, by show ∃ Z' Fi Fo, PostR P B Z S w f.ins f.outs vs (dec r).1 (dec r).2 u w' Z' Fi Fo; rw [e]; exact hp⟩
end
end Go.Proofs.YthmcpmnhdbeahaaGreat.D
namespace Go.Proofs.YthmcpmnhdbeahaaGreat.D
open Go Go.RowKit
theorem run_bind {γ β δ : Type} (ob : List (Nat × Ob)) (K : γ → List Nat → Option β) (G : β → Option δ) : ∀ (pg : Pg γ) (nd : List Nat), pg.run ob (fun g n => (K g n).bind G) nd = (pg.run ob K nd).bind G := by
 intro pg
 induction pg with
 | fail => intro nd; rfl
 | ret g => intro nd; rfl
 | obj T f ih =>
  intro nd
  unfold Pg.run
  cases lk T ob with
  | none => rfl
  | some o => exact ih o _
 | test p d x y ihx ihy =>
  intro nd
  unfold Pg.run
  by_cases hp : p
  ·
   rw [if_pos hp, if_pos hp]; exact ihx nd
  ·
   rw [if_neg hp, if_neg hp]; exact ihy nd
 | call v f ih =>
  intro nd
  unfold Pg.run
  cases v with
  | none => rfl
  | some a => exact ih a nd
theorem goOp_bind {β δ : Type} (E : Env) (σ : St) (dec : List (Nat × Bool)) (o : Oper) (k : St → Trc → Option β) (G : β → Option δ) : goOp E σ dec o (fun s t => (k s t).bind G) = (goOp E σ dec o k).bind G := by
 unfold goOp
 rw [← run_bind]
 congr 1
 funext e nd
 split
 ·
  cases newOk σ e _ e.add.length && dstOk E o.dst <;> rfl
 ·
  rfl
theorem skOp_bind {β δ : Type} (E : Env) (o : Oper) (x : Option β) (G : β → Option δ) : skOp E o (x.bind G) = (skOp E o x).bind G := by
 unfold skOp
 cases dstOk E o.dst <;> rfl
theorem denOps_bind {β δ : Type} (E : Env) (all : List Oper) (K : St → List Trc → Option β) (G : β → Option δ) : ∀ (ops : List Oper) (σ : St) (dec : List (Nat × Bool)) (tr : List Trc), denOps E all (fun s t => (K s t).bind G) ops σ dec tr = (denOps E all K ops σ dec tr).bind G
 | [], σ, dec, tr => rfl
 | o :: r, σ, dec, tr => by
  have go : ∀ dec, goOp E σ dec o (fun s t => denOps E all (fun s t => (K s t).bind G) r s (rmD o.dst dec) (t :: tr)) = (goOp E σ dec o (fun s t => denOps E all K r s (rmD o.dst dec) (t :: tr))).bind G := fun dec => by
   rw [← goOp_bind]
   congr 1
   funext s t
   exact denOps_bind E all K G r s _ _
  have sk : ∀ dec, skOp E o (denOps E all (fun s t => (K s t).bind G) r (σ.skip o.dst) (rmD o.dst dec) (([], []) :: tr)) = (skOp E o (denOps E all K r (σ.skip o.dst) (rmD o.dst dec) (([], []) :: tr))).bind G := fun dec => by
   rw [← skOp_bind, denOps_bind E all K G r]
  unfold denOps
  split
  ·
   exact go dec
  ·
   split
   ·
    rfl
   ·
    split
    ·
     rename_i b _
     cases b == _
     ·
      exact sk dec
     ·
      exact go dec
    ·
     split
     ·
      rename_i n p d _
      by_cases hp : p
      ·
       rw [if_pos hp, if_pos hp]
       generalize (!n == _) = bb
       cases bb
       ·
        exact sk _
       ·
        exact go _
      ·
       rw [if_neg hp, if_neg hp]
       generalize (n == _) = bb
       cases bb
       ·
        exact sk _
       ·
        exact go _
     ·
      exact sk dec
     ·
      rfl
theorem seqK_bind {β δ : Type} (k : St → Option β) (K : Ex → St → Option β) (G : β → Option δ) : (fun e s => (seqK k K e s).bind G) = seqK (fun s => (k s).bind G) (fun e s => (K e s).bind G) := by
 funext e s
 cases e <;> rfl
theorem blkK_bind {β δ : Type} (id : Nat) (K : Ex → St → Option β) (G : β → Option δ) : (fun e s => (blkK id K e s).bind G) = blkK id (fun e s => (K e s).bind G) := by
 funext e s
 cases e with
 | exit i =>
  show (bif Nat.beq i id then K .normal s else K (.exit i) s).bind G = bif Nat.beq i id then (K .normal s).bind G else (K (.exit i) s).bind G
  cases Nat.beq i id <;> rfl
 | _ => rfl
theorem denC_bind (E : Env) : ∀ (c : Code) {β δ : Type} (σ : St) (K : Ex → St → Option β) (G : β → Option δ), denC E c σ (fun e s => (K e s).bind G) = (denC E c σ K).bind G := by
 intro c
 induction c with
 | skip => intro β δ σ K G; simp only [denC]
 | region id ops draw =>
  intro β δ σ K G
  simp only [denC]
  rw [← denOps_bind]
  congr 1
  funext s tr
  cases draw
  ·
   rfl
  ·
   cases h : bern ops tr <;> simp
 | seq x y ihx ihy =>
  intro β δ σ K G
  simp only [denC]
  rw [← ihx, seqK_bind]
  congr 2
  funext s
  exact ihy s K G
 | cond c x y ihx ihy =>
  intro β δ σ K G
  simp only [denC]
  split
  ·
   rename_i n p d _
   by_cases hp : p
   ·
    rw [if_pos hp, if_pos hp]
    cases n
    ·
     exact ihx σ K G
    ·
     exact ihy σ K G
   ·
    rw [if_neg hp, if_neg hp]
    cases n
    ·
     exact ihy σ K G
    ·
     exact ihx σ K G
  ·
   rfl
 | block id c ih =>
  intro β δ σ K G
  simp only [denC]
  rw [← ih, blkK_bind]
 | loop c ih =>
  intro β δ σ K G
  simp only [denC]
  cases loopR (fun s => denC E c s (backK E (rid c))) (nrm E (rid c) σ) <;> rfl
 | exit id => intro β δ σ K G; simp only [denC]
 | ret => intro β δ σ K G; simp only [denC]
 | _ => intro β δ σ K G; simp [denC]
theorem denC_pure (E : Env) (c : Code) {β : Type} (σ : St) (K : Ex → St → Option β) : denC E c σ K = (denC E c σ fun e s => some (e, s)).bind fun p => K p.1 p.2 := by
 rw [← denC_bind]
 rfl
section
variable {f : St → Option (Ex × St)}
theorem iter_more : ∀ {n m : Nat} {σ : St} {p : Ex × St}, iter f n σ = some p → n ≤ m → iter f m σ = some p
 | 0, _, _, _, h, _ => by cases h
 | n + 1, 0, _, _, _, h => absurd h (Nat.not_succ_le_zero n)
 | n + 1, m + 1, σ, p, h, hm => by
  unfold iter at h ⊢
  split
  ·
   rename_i s hs
   rw [hs] at h
   exact iter_more h (Nat.le_of_succ_le_succ hm)
  ·
   rename_i r hr
   split at h
   ·
    rename_i s hs
    exact absurd hs (fun hs => hr s hs)
   ·
    exact h
theorem iter_loopR {n : Nat} {σ : St} {p : Ex × St} (h : iter f n σ = some p) : loopR f σ = some p := by
 have hx : ∃ n, (iter f n σ).isSome = true := ⟨n, by rw [h]; rfl⟩
 unfold loopR
 rw [dif_pos hx]
 have hc := Classical.choose_spec hx
 generalize Classical.choose hx = m at hc ⊢
 cases hm : iter f m σ with
 | none => rw [hm] at hc; cases hc
 | some q =>
  have h1 := iter_more h (Nat.le_max_left n m)
  have h2 := iter_more hm (Nat.le_max_right n m)
  rw [h1] at h2
  exact h2.symm
theorem loopR_iter {σ : St} {p : Ex × St} (h : loopR f σ = some p) : ∃ n, iter f n σ = some p := by
 unfold loopR at h
 split at h
 ·
  exact ⟨_, h⟩
 ·
  cases h
def back (f : St → Option (Ex × St)) (g : St → Option (Ex × St)) : Option (Ex × St) → Option (Ex × St)
 | some (.normal, s) => g s
 | r => r
theorem loopR_step (σ : St) : loopR f σ = back f (loopR f) (f σ) := by
 cases hl : back f (loopR f) (f σ) with
 | none =>
  cases hr : loopR f σ with
  | none => rfl
  | some p =>
   obtain ⟨n, hn⟩ := loopR_iter hr
   exfalso
   cases n with
   | zero => cases hn
   | succ n =>
    unfold iter at hn
    unfold back at hl
    split at hn
    ·
     rename_i s hs
     rw [hs] at hl
     have := iter_loopR hn
     simp only at hl
     rw [this] at hl; cases hl
    ·
     rename_i r hr'
     split at hl
     ·
      rename_i s hs; exact hr' s hs
     ·
      rw [hl] at hn; cases hn
 | some p =>
  unfold back at hl
  split at hl
  ·
   rename_i s hs
   obtain ⟨n, hn⟩ := loopR_iter hl
   exact iter_loopR (n := n + 1) (by unfold iter; rw [hs]; exact hn)
  ·
   rename_i r hr
   refine iter_loopR (n := 1) ?_
   unfold iter
   split
   ·
    rename_i s hs; exact absurd hs (hr s)
   ·
    exact hl
end
theorem loop_unfold (E : Env) (c : Code) {β : Type} (s : St) (K : Ex → St → Option β) : denC E (.loop c) s K = denC E c (nrm E (rid c) s) (seqK (fun s => denC E (.loop c) s K) K) := by
 have h1 : ∀ s, denC E (.loop c) s K = (loopR (fun s => denC E c s (backK E (rid c))) (nrm E (rid c) s)).bind fun p => K p.1 p.2 := fun s => by simp only [denC]
 rw [h1, loopR_step, denC_pure E c (nrm E (rid c) s) (seqK (fun s => denC E (.loop c) s K) K), denC_pure E c (nrm E (rid c) s) (backK E (rid c))]
 cases denC E c (nrm E (rid c) s) (fun e s => some (e, s)) with
 | none => rfl
 | some p =>
  obtain ⟨e, s'⟩ := p
  cases e with
  | normal => exact (h1 s').symm
  | exit i => rfl
  | ret => rfl
end Go.Proofs.YthmcpmnhdbeahaaGreat.D
namespace Go.Proofs.YthmcpmnhdbeahaaGreat.D
open Go Go.RowKit
def rd (xs : List Int) (i : Int) : Int := xs.getD i.toNat 0
def row (xs : List (List Int)) (i : Int) : List Int := xs.getD i.toNat []
def T (g : List (List Int)) (a b : Int) : Int := rd (row g a) b
section
variable {P : Program} {t : TypeId}
def stOf : TypeDesc → Option (Array Field)
 | .struct f => some f
 | _ => none
def plainB : TypeDesc → Bool
 | .struct _ => false
 | .array _ _ => false
 | _ => true
theorem kindSt {fs : List (Nat × TypeId)} (h1 : ((P.underlying t).bind stOf).map (fun fields => fields.toList.map fun f => (f.offset, f.type)) = some fs) (h2 : (((P.underlying t).bind stOf).bind fun fields => fields.toList.mapM fun f => (P.info? f.type).map fun i => (f.offset, i.size)).isSome = true) : KindOk P t (.st fs) := by
 cases hu : P.underlying t with
 | none => rw [hu] at h1; cases h1
 | some d =>
  rw [hu] at h1 h2
  cases d <;> first | (cases h1; done) | skip
  rename_i fields
  simp only [Option.bind_some, stOf, Option.map_some, Option.some.injEq] at h1 h2
  cases hm : fields.toList.mapM fun f => (P.info? f.type).map fun i => (f.offset, i.size) with
  | none => rw [hm] at h2; cases h2
  | some places => exact ⟨fields, hu, h1, places, hm⟩
theorem kindOther (h : ((P.underlying t).map plainB) = some true) : KindOk P t .other := by
 cases hu : P.underlying t with
 | none => rw [hu] at h; cases h
 | some d =>
  rw [hu] at h
  refine ⟨d, hu, ?_⟩
  cases d <;> first | trivial | cases h
theorem tiMk {k : TK} {size bytes : Nat} {zero : List Lf} {ty : Ty} (hk : KindOk P t k) (h1 : (P.info? t).map (fun i => (i.size, i.bytes)) = some (size, bytes)) (h2 : ((P.info? t).bind (·.zero)).bind (fun z => constLfs z.cells.toList) = some zero) (h3 : ((P.info? t).bind (·.zero)).map (fun z => z.cells.toList) = some (zcells ty)) : TiOk P t ⟨k, size, bytes, zero, ty, true⟩ := by
 refine ⟨hk, ?_⟩
 cases hi : P.info? t with
 | none => rw [hi] at h1; cases h1
 | some i =>
  rw [hi] at h1 h2 h3
  simp only [Option.map_some, Option.some.injEq, Prod.mk.injEq] at h1
  refine ⟨i, rfl, h1.1, h1.2, fun _ _ => ?_⟩
  cases hz : i.zero with
  | none => simp [hz] at h2
  | some z =>
   simp only [Option.bind_some, hz, Option.map_some, Option.some.injEq] at h2 h3
   exact ⟨z, rfl, h2, fun _ => h3⟩
theorem tiMk' {k : TK} {size bytes : Nat} {zero : List Lf} {ty : Ty} (hk : KindOk P t k) (h1 : (P.info? t).map (fun i => (i.size, i.bytes)) = some (size, bytes)) (h2 : zero.length ≠ size) : TiOk P t ⟨k, size, bytes, zero, ty, false⟩ := by
 refine ⟨hk, ?_⟩
 cases hi : P.info? t with
 | none => rw [hi] at h1; cases h1
 | some i =>
  rw [hi] at h1
  simp only [Option.map_some, Option.some.injEq, Prod.mk.injEq] at h1
  exact ⟨i, rfl, h1.1, h1.2, fun h => absurd h h2⟩
theorem ttNil : TtOk P [] := fun _ _ h => by cases h
theorem ttCons {i : TI} {r : List (Nat × TI)} (h : TiOk P t i) (hr : TtOk P r) : TtOk P ((t, i) :: r) := fun u j hj => by
 by_cases e : u = t
 ·
  subst e
  simp [lk] at hj
  subst hj
  exact h
 ·
  simp [lk, beq_ne e] at hj
  exact hr u j hj
theorem conNil : ConsOk P [] := fun _ _ h => by cases h
theorem conCons {g : FuncId} {c : Con} {r : List (Nat × Con)} (h : Valid P g c) (hr : ConsOk P r) : ConsOk P ((g, c) :: r) := fun u j hj => by
 by_cases e : u = g
 ·
  subst e
  simp [lk] at hj
  subst hj
  exact h
 ·
  simp [lk, beq_ne e] at hj
  exact hr u j hj
end
end Go.Proofs.YthmcpmnhdbeahaaGreat.D
namespace Go.Proofs.YthmcpmnhdbeahaaGreat.P
open Go Go.RowKit Go.Proofs.YthmcpmnhdbeahaaGreat.D
theorem ti2 : TiOk Tryz.prog 2 ⟨.int .i64, 1, 8, [.int .i64 0], (.int .i64), true⟩ := tiMk (show Tryz.prog.underlying 2 = some (.int .i64) by kernel_rfl) (by kernel_rfl) (by kernel_rfl) (by kernel_rfl)
theorem ti3 : TiOk Tryz.prog 3 ⟨.int .i64, 1, 8, [.int .i64 0], (.int .i64), true⟩ := tiMk (show Tryz.prog.underlying 3 = some (.int .i64) by kernel_rfl) (by kernel_rfl) (by kernel_rfl) (by kernel_rfl)
theorem ti4 : TiOk Tryz.prog 4 ⟨.bool, 1, 1, [fls], .bool, true⟩ := tiMk (show Tryz.prog.underlying 4 = some .bool by kernel_rfl) (by kernel_rfl) (by kernel_rfl) (by kernel_rfl)
theorem ti5 : TiOk Tryz.prog 5 ⟨.int .u8, 1, 1, [.int .u8 0], (.int .u8), true⟩ := tiMk (show Tryz.prog.underlying 5 = some (.int .u8) by kernel_rfl) (by kernel_rfl) (by kernel_rfl) (by kernel_rfl)
theorem ti9 : TiOk Tryz.prog 9 ⟨.str, 1, 16, [.str ByteArray.empty], .str, true⟩ := tiMk (show Tryz.prog.underlying 9 = some .string by kernel_rfl) (by kernel_rfl) (by kernel_rfl) (by kernel_rfl)
theorem ti22 : TiOk Tryz.prog 22 ⟨.sl 5, 1, 24, [.nil], (.sl 5 (.int .u8)), true⟩ := tiMk (show Tryz.prog.underlying 22 = some (.slice 5) by kernel_rfl) (by kernel_rfl) (by kernel_rfl) (by kernel_rfl)
theorem ti24 : TiOk Tryz.prog 24 ⟨.sl 27, 1, 24, [.nil], (.sl 27 (.sl 2 (.int .i64))), true⟩ := tiMk (show Tryz.prog.underlying 24 = some (.slice 27) by kernel_rfl) (by kernel_rfl) (by kernel_rfl) (by kernel_rfl)
theorem ti26 : TiOk Tryz.prog 26 ⟨.st [(0, 24)], 1, 24, [.nil], (.sl 27 (.sl 2 (.int .i64))), true⟩ := tiMk (kindSt (by kernel_rfl) (by kernel_rfl)) (by kernel_rfl) (by kernel_rfl) (by kernel_rfl)
theorem ti27 : TiOk Tryz.prog 27 ⟨.sl 2, 1, 24, [.nil], (.sl 2 (.int .i64)), true⟩ := tiMk (show Tryz.prog.underlying 27 = some (.slice 2) by kernel_rfl) (by kernel_rfl) (by kernel_rfl) (by kernel_rfl)
theorem ti29 : TiOk Tryz.prog 29 ⟨.st [(0, 2), (1, 27)], 2, 32, [.int .i64 0, .nil], (.pr (.int .i64) (.sl 2 (.int .i64))), true⟩ := tiMk (kindSt (by kernel_rfl) (by kernel_rfl)) (by kernel_rfl) (by kernel_rfl) (by kernel_rfl)
theorem ti56 : TiOk Tryz.prog 56 ⟨.st [(0, 2), (1, 27)], 2, 32, [.int .i64 0, .nil], (.pr (.int .i64) (.sl 2 (.int .i64))), true⟩ := tiMk (kindSt (by kernel_rfl) (by kernel_rfl)) (by kernel_rfl) (by kernel_rfl) (by kernel_rfl)
theorem ti100 : TiOk Tryz.prog 100 ⟨.other, 1, 8, [], (.int .i64), false⟩ := tiMk' (kindOther (by kernel_rfl)) (by kernel_rfl) (by decide)
theorem ti137 : TiOk Tryz.prog 137 ⟨.int .u64, 1, 8, [.int .u64 0], (.int .u64), true⟩ := tiMk (show Tryz.prog.underlying 137 = some (.int .u64) by kernel_rfl) (by kernel_rfl) (by kernel_rfl) (by kernel_rfl)
theorem ti141 : TiOk Tryz.prog 141 ⟨.int .u64, 1, 8, [.int .u64 0], (.int .u64), true⟩ := tiMk (show Tryz.prog.underlying 141 = some (.int .u64) by kernel_rfl) (by kernel_rfl) (by kernel_rfl) (by kernel_rfl)
theorem ti143 : TiOk Tryz.prog 143 ⟨.st [(0, 22), (1, 3), (2, 141)], 3, 40, [.nil, .int .i64 0, .int .u64 0], (.pr (.sl 5 (.int .u8)) (.pr (.int .i64) (.int .u64))), true⟩ := tiMk (kindSt (by kernel_rfl) (by kernel_rfl)) (by kernel_rfl) (by kernel_rfl) (by kernel_rfl)
theorem ti144 : TiOk Tryz.prog 144 ⟨.sl 29, 1, 24, [.nil], (.sl 29 (.pr (.int .i64) (.sl 2 (.int .i64)))), true⟩ := tiMk (show Tryz.prog.underlying 144 = some (.slice 29) by kernel_rfl) (by kernel_rfl) (by kernel_rfl) (by kernel_rfl)
theorem ti149 : TiOk Tryz.prog 149 ⟨.sl 56, 1, 24, [.nil], (.sl 56 (.pr (.int .i64) (.sl 2 (.int .i64)))), true⟩ := tiMk (show Tryz.prog.underlying 149 = some (.slice 56) by kernel_rfl) (by kernel_rfl) (by kernel_rfl) (by kernel_rfl)
theorem ti187 : TiOk Tryz.prog 187 ⟨.st [(0, 2), (1, 24)], 2, 32, [.int .i64 0, .nil], (.pr (.int .i64) (.sl 27 (.sl 2 (.int .i64)))), true⟩ := tiMk (kindSt (by kernel_rfl) (by kernel_rfl)) (by kernel_rfl) (by kernel_rfl) (by kernel_rfl)
theorem ti191 : TiOk Tryz.prog 191 ⟨.sl 9, 1, 24, [.nil], (.sl 9 .str), true⟩ := tiMk (show Tryz.prog.underlying 191 = some (.slice 9) by kernel_rfl) (by kernel_rfl) (by kernel_rfl) (by kernel_rfl)
noncomputable def TT : List (Nat × TI) := [(2, ⟨.int .i64, 1, 8, [.int .i64 0], (.int .i64), true⟩), (3, ⟨.int .i64, 1, 8, [.int .i64 0], (.int .i64), true⟩), (4, ⟨.bool, 1, 1, [fls], .bool, true⟩), (5, ⟨.int .u8, 1, 1, [.int .u8 0], (.int .u8), true⟩), (9, ⟨.str, 1, 16, [.str ByteArray.empty], .str, true⟩), (22, ⟨.sl 5, 1, 24, [.nil], (.sl 5 (.int .u8)), true⟩), (24, ⟨.sl 27, 1, 24, [.nil], (.sl 27 (.sl 2 (.int .i64))), true⟩), (26, ⟨.st [(0, 24)], 1, 24, [.nil], (.sl 27 (.sl 2 (.int .i64))), true⟩), (27, ⟨.sl 2, 1, 24, [.nil], (.sl 2 (.int .i64)), true⟩), (29, ⟨.st [(0, 2), (1, 27)], 2, 32, [.int .i64 0, .nil], (.pr (.int .i64) (.sl 2 (.int .i64))), true⟩), (56, ⟨.st [(0, 2), (1, 27)], 2, 32, [.int .i64 0, .nil], (.pr (.int .i64) (.sl 2 (.int .i64))), true⟩), (100, ⟨.other, 1, 8, [], (.int .i64), false⟩), (137, ⟨.int .u64, 1, 8, [.int .u64 0], (.int .u64), true⟩), (141, ⟨.int .u64, 1, 8, [.int .u64 0], (.int .u64), true⟩), (143, ⟨.st [(0, 22), (1, 3), (2, 141)], 3, 40, [.nil, .int .i64 0, .int .u64 0], (.pr (.sl 5 (.int .u8)) (.pr (.int .i64) (.int .u64))), true⟩), (144, ⟨.sl 29, 1, 24, [.nil], (.sl 29 (.pr (.int .i64) (.sl 2 (.int .i64)))), true⟩), (149, ⟨.sl 56, 1, 24, [.nil], (.sl 56 (.pr (.int .i64) (.sl 2 (.int .i64)))), true⟩), (187, ⟨.st [(0, 2), (1, 24)], 2, 32, [.int .i64 0, .nil], (.pr (.int .i64) (.sl 27 (.sl 2 (.int .i64)))), true⟩), (191, ⟨.sl 9, 1, 24, [.nil], (.sl 9 .str), true⟩)]
theorem ttOk : TtOk Tryz.prog TT := (ttCons ti2 (ttCons ti3 (ttCons ti4 (ttCons ti5 (ttCons ti9 (ttCons ti22 (ttCons ti24 (ttCons ti26 (ttCons ti27 (ttCons ti29 (ttCons ti56 (ttCons ti100 (ttCons ti137 (ttCons ti141 (ttCons ti143 (ttCons ti144 (ttCons ti149 (ttCons ti187 (ttCons ti191 ttNil)))))))))))))))))))
end Go.Proofs.YthmcpmnhdbeahaaGreat.P
namespace Go.Proofs.YthmcpmnhdbeahaaGreat.P
open Go Go.RowKit Go.Proofs.YthmcpmnhdbeahaaGreat.D
noncomputable def laws_big.E : Env := { tt := TT, con := [], frz := [], rows := [], live := [], n := 6, pin := 0, nils := [] }
noncomputable def laws_big.fn : D.Fn := { body := Tryz.f7.body.getD .skip, res := Tryz.f7.results.toList, ins := [.one (.v (.sl 5 (.int .u8)))], outs := [.one (.v .bool)] }
def laws_big.enc (y : lsd (flats laws_big.fn.outs) × lsd (ios laws_big.fn.ins)) : Bool := y.1.1
noncomputable def laws_big.f (l0 : List Int) : Option Bool := denF laws_big.E laws_big.fn laws_big.enc (l0, ())
set_option maxRecDepth 100000 in
theorem laws_big.f_eq (l0 : List Int) : laws_big.f l0 = some (decide ((l0.length : Int) > 4096)) := by kernel_rfl
noncomputable def laws_big.con : Con := ⟨laws_big.fn.ins, laws_big.fn.outs, Bool, fun x => laws_big.f x.1, fun r => ((r, ()), (()))⟩
theorem laws_big.valid : Valid Tryz.prog 7 laws_big.con := fn_valid (f := laws_big.fn) (E := laws_big.E) (enc := laws_big.enc) ⟨ttOk, conNil⟩ (Checked.mixed Tryz.checked) ⟨Tryz.func7, by kernel_rfl, by kernel_rfl, by kernel_rfl, by kernel_rfl, by decide, by kernel_rfl, by kernel_rfl⟩ (fun _ => rfl)
end Go.Proofs.YthmcpmnhdbeahaaGreat.P
namespace Go.Proofs.YthmcpmnhdbeahaaGreat.P
open Go Go.RowKit Go.Proofs.YthmcpmnhdbeahaaGreat.D
noncomputable def spec_l01N.E : Env := { tt := TT, con := [], frz := [], rows := [], live := [], n := 6, pin := 0, nils := [] }
noncomputable def spec_l01N.fn : D.Fn := { body := Tryz.f91.body.getD .skip, res := Tryz.f91.results.toList, ins := [.agg [.v (.sl 27 (.sl 2 (.int .i64)))]], outs := [.one (.v (.int .i64))] }
def spec_l01N.enc (y : lsd (flats spec_l01N.fn.outs) × lsd (ios spec_l01N.fn.ins)) : Int := y.1.1
noncomputable def spec_l01N.f (l0_0 : List (List Int)) : Option Int := denF spec_l01N.E spec_l01N.fn spec_l01N.enc (l0_0, ())
set_option maxRecDepth 100000 in
theorem spec_l01N.f_eq (l0_0 : List (List Int)) : spec_l01N.f l0_0 = some (l0_0.length : Int) := by kernel_rfl
noncomputable def spec_l01N.con : Con := ⟨spec_l01N.fn.ins, spec_l01N.fn.outs, Int, fun x => spec_l01N.f x.1, fun r => ((r, ()), (()))⟩
theorem spec_l01N.valid : Valid Tryz.prog 91 spec_l01N.con := fn_valid (f := spec_l01N.fn) (E := spec_l01N.E) (enc := spec_l01N.enc) ⟨ttOk, conNil⟩ (Checked.mixed Tryz.checked) ⟨Tryz.func91, by kernel_rfl, by kernel_rfl, by kernel_rfl, by kernel_rfl, by decide, by kernel_rfl, by kernel_rfl⟩ (fun _ => rfl)
end Go.Proofs.YthmcpmnhdbeahaaGreat.P
namespace Go.Proofs.YthmcpmnhdbeahaaGreat.P
open Go Go.RowKit Go.Proofs.YthmcpmnhdbeahaaGreat.D
noncomputable def spec_l01From.E : Env := { tt := TT, con := [], frz := [], rows := [], live := [(3, [0, 3, 4])], n := 38, pin := 0, nils := [] }
noncomputable def spec_l01From.fn : D.Fn := { body := Tryz.f100.body.getD .skip, res := Tryz.f100.results.toList, ins := [.one (.v (.sl 5 (.int .u8)))], outs := [.ptr false 143 [.v (.sl 5 (.int .u8)), .v (.int .i64), .v (.int .u64)]] }
def spec_l01From.enc (y : lsd (flats spec_l01From.fn.outs) × lsd (ios spec_l01From.fn.ins)) : (List Int) × Int × Int := (y.1.1, y.1.2.1, y.1.2.2.1)
noncomputable def spec_l01From.f (l0 : List Int) : Option ((List Int) × Int × Int) := denF spec_l01From.E spec_l01From.fn spec_l01From.enc (l0, ())
noncomputable def spec_l01From.l0 (x0 : List Int) (x4 : Int) (b0_0 : List Int) (b0_1 : Int) (b0_2 : Int) : Option ((List Int) × Int × Int) := denAt spec_l01From.E spec_l01From.fn spec_l01From.enc [1, 1, 0, 1, 0] { fr := [(0, .lf (.sl (.int .u8) x0)), (3, .lf (.box 0 0)), (4, .lf (.int .i64 x4))], ob := [(0, .box 143 false [.sl (.int .u8) b0_0, .int .i64 b0_1, .int .u64 b0_2])], nx := 1 }
set_option maxRecDepth 100000 in
theorem spec_l01From.f_eq (l0 : List Int) : spec_l01From.f l0 = spec_l01From.l0 l0 0 l0 0 (wr .u64 (13631 + (wr .u64 (l0.length : Int)))) := by kernel_rfl
set_option maxRecDepth 100000 in
theorem spec_l01From.l0_eq (x0 : List Int) (x4 : Int) (b0_0 : List Int) (b0_1 : Int) (b0_2 : Int) : spec_l01From.l0 x0 x4 b0_0 b0_1 b0_2 = if x4 < (x0.length : Int) then (if x4 < 4096 then (if 0 ≤ x4 then (if x4 < (x0.length : Int) then (spec_l01From.l0 x0 (wrapI (x4 + 1)) b0_0 b0_1 (wr .u64 ((wr .u64 ((wr .u64 (b0_2 * 1099511628211)) + (wr .u64 (rd x0 x4)))) + 197))) else none) else none) else (some (b0_0, b0_1, b0_2))) else (some (b0_0, b0_1, b0_2)) := (loop_unfold _ _ _ _).trans (by kernel_rfl)
noncomputable def spec_l01From.con : Con := ⟨spec_l01From.fn.ins, spec_l01From.fn.outs, (List Int) × Int × Int, fun x => spec_l01From.f x.1, fun r => ((r.1, r.2.1, r.2.2, ()), (()))⟩
theorem spec_l01From.valid : Valid Tryz.prog 100 spec_l01From.con := fn_valid (f := spec_l01From.fn) (E := spec_l01From.E) (enc := spec_l01From.enc) ⟨ttOk, conNil⟩ (Checked.mixed Tryz.checked) ⟨Tryz.func100, by kernel_rfl, by kernel_rfl, by kernel_rfl, by kernel_rfl, by decide, by kernel_rfl, by kernel_rfl⟩ (fun _ => rfl)
end Go.Proofs.YthmcpmnhdbeahaaGreat.P
namespace Go.Proofs.YthmcpmnhdbeahaaGreat.P
open Go Go.RowKit Go.Proofs.YthmcpmnhdbeahaaGreat.D
noncomputable def spec_l01Next.E : Env := { tt := TT, con := [], frz := [], rows := [], live := [], n := 58, pin := 1, nils := [] }
noncomputable def spec_l01Next.fn : D.Fn := { body := Tryz.f174.body.getD .skip, res := Tryz.f174.results.toList, ins := [.ptr false 143 [.v (.sl 5 (.int .u8)), .v (.int .i64), .v (.int .u64)], .one (.v (.int .i64))], outs := [.one (.v (.int .i64))] }
def spec_l01Next.enc (y : lsd (flats spec_l01Next.fn.outs) × lsd (ios spec_l01Next.fn.ins)) : Int × (List Int) × Int × Int := (y.1.1, y.2.1, y.2.2.1, y.2.2.2.1)
noncomputable def spec_l01Next.f (l0_0 : List Int) (a0_1 : Int) (a0_2 : Int) (a1 : Int) : Option (Int × (List Int) × Int × Int) := denF spec_l01Next.E spec_l01Next.fn spec_l01Next.enc (l0_0, a0_1, a0_2, a1, ())
set_option maxRecDepth 100000 in
theorem spec_l01Next.f_eq (l0_0 : List Int) (a0_1 : Int) (a0_2 : Int) (a1 : Int) : spec_l01Next.f l0_0 a0_1 a0_2 a1 = if a1 < 1 then (some (0, l0_0, a0_1, a0_2)) else (if a0_1 < (l0_0.length : Int) then (if 0 ≤ a0_1 then (if a0_1 < (l0_0.length : Int) then (if a1 = 0 then none else (some ((wrapI ((wrapI (andI .u64 (shrI .u64 (wr .u64 ((wr .u64 (a0_2 * 6364136223846793005)) + 1442695040888963407)) 33) 16777215)) + (wrapI (rd l0_0 a0_1))) : Int).tmod a1, l0_0, wrapI (a0_1 + 1), wr .u64 ((wr .u64 (a0_2 * 6364136223846793005)) + 1442695040888963407)))) else none) else none) else (if a1 = 0 then none else (some ((wrapI (andI .u64 (shrI .u64 (wr .u64 ((wr .u64 (a0_2 * 6364136223846793005)) + 1442695040888963407)) 33) 16777215) : Int).tmod a1, l0_0, a0_1, wr .u64 ((wr .u64 (a0_2 * 6364136223846793005)) + 1442695040888963407))))) := by kernel_rfl
noncomputable def spec_l01Next.con : Con := ⟨spec_l01Next.fn.ins, spec_l01Next.fn.outs, Int × (List Int) × Int × Int, fun x => spec_l01Next.f x.1 x.2.1 x.2.2.1 x.2.2.2.1, fun r => ((r.1, ()), (r.2.1, r.2.2.1, r.2.2.2, ()))⟩
theorem spec_l01Next.valid : Valid Tryz.prog 174 spec_l01Next.con := fn_valid (f := spec_l01Next.fn) (E := spec_l01Next.E) (enc := spec_l01Next.enc) ⟨ttOk, conNil⟩ (Checked.mixed Tryz.checked) ⟨Tryz.func174, by kernel_rfl, by kernel_rfl, by kernel_rfl, by kernel_rfl, by decide, by kernel_rfl, by kernel_rfl⟩ (fun _ => rfl)
end Go.Proofs.YthmcpmnhdbeahaaGreat.P
namespace Go.Proofs.YthmcpmnhdbeahaaGreat.P
open Go Go.RowKit Go.Proofs.YthmcpmnhdbeahaaGreat.D
noncomputable def spec_l01Pick.E : Env := { tt := TT, con := [(174, spec_l01Next.con)], frz := [], rows := [], live := [], n := 12, pin := 1, nils := [] }
noncomputable def spec_l01Pick.fn : D.Fn := { body := Tryz.f175.body.getD .skip, res := Tryz.f175.results.toList, ins := [.ptr false 143 [.v (.sl 5 (.int .u8)), .v (.int .i64), .v (.int .u64)], .one (.v (.sl 2 (.int .i64)))], outs := [.one (.v (.int .i64))] }
def spec_l01Pick.enc (y : lsd (flats spec_l01Pick.fn.outs) × lsd (ios spec_l01Pick.fn.ins)) : Int × (List Int) × Int × Int := (y.1.1, y.2.1, y.2.2.1, y.2.2.2.1)
noncomputable def spec_l01Pick.f (l0_0 : List Int) (a0_1 : Int) (a0_2 : Int) (l1 : List Int) : Option (Int × (List Int) × Int × Int) := denF spec_l01Pick.E spec_l01Pick.fn spec_l01Pick.enc (l0_0, a0_1, a0_2, l1, ())
set_option maxRecDepth 100000 in
theorem spec_l01Pick.f_eq (l0_0 : List Int) (a0_1 : Int) (a0_2 : Int) (l1 : List Int) : spec_l01Pick.f l0_0 a0_1 a0_2 l1 = (spec_l01Next.f l0_0 a0_1 a0_2 (l1.length : Int)).bind fun t9 => if 0 ≤ t9.1 then (if t9.1 < (l1.length : Int) then (some (rd l1 t9.1, t9.2.1, t9.2.2.1, t9.2.2.2)) else none) else none := by kernel_rfl
noncomputable def spec_l01Pick.con : Con := ⟨spec_l01Pick.fn.ins, spec_l01Pick.fn.outs, Int × (List Int) × Int × Int, fun x => spec_l01Pick.f x.1 x.2.1 x.2.2.1 x.2.2.2.1, fun r => ((r.1, ()), (r.2.1, r.2.2.1, r.2.2.2, ()))⟩
theorem spec_l01Pick.valid : Valid Tryz.prog 175 spec_l01Pick.con := fn_valid (f := spec_l01Pick.fn) (E := spec_l01Pick.E) (enc := spec_l01Pick.enc) ⟨ttOk, (conCons spec_l01Next.valid conNil)⟩ (Checked.mixed Tryz.checked) ⟨Tryz.func175, by kernel_rfl, by kernel_rfl, by kernel_rfl, by kernel_rfl, by decide, by kernel_rfl, by kernel_rfl⟩ (fun _ => rfl)
end Go.Proofs.YthmcpmnhdbeahaaGreat.P
namespace Go.Proofs.YthmcpmnhdbeahaaGreat.P
open Go Go.RowKit Go.Proofs.YthmcpmnhdbeahaaGreat.D
noncomputable def spec_l01Near.E : Env := { tt := TT, con := [(174, spec_l01Next.con), (175, spec_l01Pick.con)], frz := [11], rows := [], live := [], n := 17, pin := 1, nils := [] }
noncomputable def spec_l01Near.fn : D.Fn := { body := Tryz.f102.body.getD .skip, res := Tryz.f102.results.toList, ins := [.ptr false 143 [.v (.sl 5 (.int .u8)), .v (.int .i64), .v (.int .u64)], .one (.v (.int .i64))], outs := [.one (.v (.int .i64))] }
def spec_l01Near.enc (y : lsd (flats spec_l01Near.fn.outs) × lsd (ios spec_l01Near.fn.ins)) : Int × (List Int) × Int × Int := (y.1.1, y.2.1, y.2.2.1, y.2.2.2.1)
noncomputable def spec_l01Near.f (l0_0 : List Int) (a0_1 : Int) (a0_2 : Int) (a1 : Int) : Option (Int × (List Int) × Int × Int) := denF spec_l01Near.E spec_l01Near.fn spec_l01Near.enc (l0_0, a0_1, a0_2, a1, ())
set_option maxRecDepth 100000 in
theorem spec_l01Near.f_eq (l0_0 : List Int) (a0_1 : Int) (a0_2 : Int) (a1 : Int) : spec_l01Near.f l0_0 a0_1 a0_2 a1 = (spec_l01Next.f l0_0 a0_1 a0_2 14).bind fun t6 => if t6.1 = 0 then ((spec_l01Pick.f t6.2.1 t6.2.2.1 t6.2.2.2 ([-1, wrapI (a1 + 1), 1099511627776, -4611686018427387904] : List Int)).bind fun t12 => some (t12.1, t12.2.1, t12.2.2.1, t12.2.2.2)) else ((spec_l01Next.f t6.2.1 t6.2.2.1 t6.2.2.2 (wrapI (a1 + 1))).bind fun t16 => some (t16.1, t16.2.1, t16.2.2.1, t16.2.2.2)) := by kernel_rfl
noncomputable def spec_l01Near.con : Con := ⟨spec_l01Near.fn.ins, spec_l01Near.fn.outs, Int × (List Int) × Int × Int, fun x => spec_l01Near.f x.1 x.2.1 x.2.2.1 x.2.2.2.1, fun r => ((r.1, ()), (r.2.1, r.2.2.1, r.2.2.2, ()))⟩
theorem spec_l01Near.valid : Valid Tryz.prog 102 spec_l01Near.con := fn_valid (f := spec_l01Near.fn) (E := spec_l01Near.E) (enc := spec_l01Near.enc) ⟨ttOk, (conCons spec_l01Next.valid (conCons spec_l01Pick.valid conNil))⟩ (Checked.mixed Tryz.checked) ⟨Tryz.func102, by kernel_rfl, by kernel_rfl, by kernel_rfl, by kernel_rfl, by decide, by kernel_rfl, by kernel_rfl⟩ (fun _ => rfl)
end Go.Proofs.YthmcpmnhdbeahaaGreat.P
namespace Go.Proofs.YthmcpmnhdbeahaaGreat.P
open Go Go.RowKit Go.Proofs.YthmcpmnhdbeahaaGreat.D
noncomputable def spec_l01Mod.E : Env := { tt := TT, con := [], frz := [], rows := [], live := [], n := 12, pin := 0, nils := [] }
noncomputable def spec_l01Mod.fn : D.Fn := { body := Tryz.f104.body.getD .skip, res := Tryz.f104.results.toList, ins := [.one (.v (.int .i64)), .one (.v (.int .i64))], outs := [.one (.v (.int .i64))] }
def spec_l01Mod.enc (y : lsd (flats spec_l01Mod.fn.outs) × lsd (ios spec_l01Mod.fn.ins)) : Int := y.1.1
noncomputable def spec_l01Mod.f (a0 : Int) (a1 : Int) : Option Int := denF spec_l01Mod.E spec_l01Mod.fn spec_l01Mod.enc (a0, a1, ())
set_option maxRecDepth 100000 in
theorem spec_l01Mod.f_eq (a0 : Int) (a1 : Int) : spec_l01Mod.f a0 a1 = if a1 = 0 then none else (if a1 = 0 then none else (some ((wrapI (((a0 : Int).tmod a1) + a1) : Int).tmod a1))) := by kernel_rfl
noncomputable def spec_l01Mod.con : Con := ⟨spec_l01Mod.fn.ins, spec_l01Mod.fn.outs, Int, fun x => spec_l01Mod.f x.1 x.2.1, fun r => ((r, ()), (()))⟩
theorem spec_l01Mod.valid : Valid Tryz.prog 104 spec_l01Mod.con := fn_valid (f := spec_l01Mod.fn) (E := spec_l01Mod.E) (enc := spec_l01Mod.enc) ⟨ttOk, conNil⟩ (Checked.mixed Tryz.checked) ⟨Tryz.func104, by kernel_rfl, by kernel_rfl, by kernel_rfl, by kernel_rfl, by decide, by kernel_rfl, by kernel_rfl⟩ (fun _ => rfl)
end Go.Proofs.YthmcpmnhdbeahaaGreat.P
namespace Go.Proofs.YthmcpmnhdbeahaaGreat.P
open Go Go.RowKit Go.Proofs.YthmcpmnhdbeahaaGreat.D
noncomputable def spec_l01Own.E : Env := { tt := TT, con := [], frz := [], rows := [], live := [], n := 6, pin := 0, nils := [] }
noncomputable def spec_l01Own.fn : D.Fn := { body := Tryz.f184.body.getD .skip, res := Tryz.f184.results.toList, ins := [.one (.v (.sl 2 (.int .i64)))], outs := [.one (.own 2 true (.int .i64))] }
def spec_l01Own.enc (y : lsd (flats spec_l01Own.fn.outs) × lsd (ios spec_l01Own.fn.ins)) : (List Int) := y.1.1
noncomputable def spec_l01Own.f (l0 : List Int) : Option (List Int) := denF spec_l01Own.E spec_l01Own.fn spec_l01Own.enc (l0, ())
set_option maxRecDepth 100000 in
theorem spec_l01Own.f_eq (l0 : List Int) : spec_l01Own.f l0 = if ([] : List Int).length + l0.length ≤ 17592186044416 then (some (([] : List Int) ++ l0)) else none := by kernel_rfl
noncomputable def spec_l01Own.con : Con := ⟨spec_l01Own.fn.ins, spec_l01Own.fn.outs, (List Int), fun x => spec_l01Own.f x.1, fun r => ((r, ()), (()))⟩
theorem spec_l01Own.valid : Valid Tryz.prog 184 spec_l01Own.con := fn_valid (f := spec_l01Own.fn) (E := spec_l01Own.E) (enc := spec_l01Own.enc) ⟨ttOk, conNil⟩ (Checked.mixed Tryz.checked) ⟨Tryz.func184, by kernel_rfl, by kernel_rfl, by kernel_rfl, by kernel_rfl, by decide, by kernel_rfl, by kernel_rfl⟩ (fun _ => rfl)
end Go.Proofs.YthmcpmnhdbeahaaGreat.P
namespace Go.Proofs.YthmcpmnhdbeahaaGreat.D
open Go Go.RowKit
theorem valid_view {P : Program} {g : FuncId} {c : Con} (hv : Valid P g c) {x : lsd (flats c.ins)} {r : c.R} (hx : c.f x = some r) {w : World} {vs : List Value} (ha : ASRs P (fun _ => False) (fun k => k < w.heap.size) w c.ins x vs (fun _ => False)) :
  Calls P g vs.toArray w fun e w' => ∃ u, e = .returned u ∧ Below w.heap.size w w' ∧ ∃ Z' Fo us, u = outV us ∧ ASRs P (fun _ => False) Z' w' c.outs (c.dec r).1 us Fo := by
 refine (hv.2 x r hx (fun k => k < w.heap.size) (fun _ => False) (fun _ => False) w vs ha (fun _ h => h.elim) (fun _ h => h) (fun _ h => h.elim)).mono ?_
 rintro e w' ⟨u, rfl, Z', Fi, Fo, hp⟩
 obtain ⟨us, hu, ho⟩ := hp.out
 exact ⟨u, rfl, ⟨hp.os, hp.tape, hp.output, hp.size, fun k hk => hp.old k hk fun h => h⟩, Z', Fo, us, hu, ho⟩
theorem cell_lt {w : World} {a : Addr} {v : Value} (h : w.cell? a = some v) : a.block < w.heap.size := by
 unfold World.cell? at h
 cases hb : w.heap[a.block]? with
 | none => rw [hb] at h; cases h
 | some o => exact (Array.getElem?_eq_some_iff.1 hb).1
theorem view_raw {α : Type} {w : World} {sz : Nat} {R : α → List Value → Prop} {A : Option Addr} {c : Nat} {xs : List α} (hz : 0 < sz) (hc : xs.length ≤ c) (hm : xs.length ≤ 9223372036854775807)
  (h : 0 < xs.length → ∃ ad, A = some ad ∧ ∀ (j : Nat) (p : α), xs[j]? = some p → ∃ cs, cs.length = sz ∧ R p cs ∧ ∀ (i : Nat) (u : Value), cs[i]? = some u → w.cell? (ad.add (j * sz + i)) = some u) : ViewRep (fun k => k < w.heap.size) w sz R A c xs := by
 refine ⟨hc, hm, fun hl => ?_⟩
 obtain ⟨ad, rfl, hcell⟩ := h hl
 refine ⟨ad, rfl, ?_, hcell⟩
 obtain ⟨cs, h1, h2, h3⟩ := hcell 0 xs[0] (List.getElem?_eq_getElem hl)
 have := cell_lt (h3 0 cs[0] (List.getElem?_eq_getElem (by omega)))
 rwa [add_block] at this
theorem law_true {P : Program} {g : FuncId} {c : Con} (hv : Valid P g c) {x : lsd (flats c.ins)} {r : c.R} (hx : c.f x = some r) {w : World} {vs : List Value} (ha : ASRs P (fun _ => False) (fun k => k < w.heap.size) w c.ins x vs (fun _ => False)) (ho : c.outs = [.one (.v .bool)]) (hr : ∀ y : lsd (flats [.one (.v .bool)]), HEq y (c.dec r).1 → y.1 = true) :
  Calls P g vs.toArray w fun e w' => e = .returned (.bool true) ∧ Below w.heap.size w w' := by
 refine (valid_view hv hx ha).mono ?_
 rintro e w' ⟨u, rfl, hb, Z', Fo, us, rfl, hh⟩
 refine ⟨?_, hb⟩
 obtain ⟨ins, outs, R, f, dec⟩ := c
 have ho : outs = [.one (.v .bool)] := ho
 subst ho
 obtain ⟨v, vs', F0, F1, rfl, h1, h2, _⟩ := hh
 cases h2
 have h1 : [v] = [.bool (dec r).1.1] := h1
 have hb1 : (dec r).1.1 = true := hr _ HEq.rfl
 cases h1
 rw [hb1]
 rfl
end Go.Proofs.YthmcpmnhdbeahaaGreat.D
namespace Go.Proofs.YthmcpmnhdbeahaaGreat.D
open Go Go.RowKit Go.ChangeShapes Go.WideShapes Go.Joins Go.Deep
section
variable {H : Type} {enc : TypeId × Value → H} {P : Program} {w : World} {base : Nat} {held : Bool}
abbrev Zw (w : World) : Nat → Prop := fun k => k < w.heap.size
abbrev No : Nat → Prop := fun _ => False
theorem rep_ints {q : TypeId} (hn : nf q = false) {k : IntKind} {a : Addr} {len cap : Nat} {zs : List Int} (hl : len ≤ cap) (hm : cap ≤ maxLen) (hz : zs.length = cap) (hc : ∀ i, i < zs.length → w.cell? (a.add i) = some (.int k (zs.getD i 0))) (hw : ∀ n ∈ zs, (Lit.int k n).wf = true) :
  ∃ l : List Int, len = l.length ∧ l.length ≤ maxLen ∧ (∀ x ∈ l, (Lit.int k x).wf = true) ∧ Rep (Zw w) w false (.sl q (.int k)) l [.slice (some a) len cap] No := by
 have hlen : (zs.take len).length = len := by rw [List.length_take]; omega
 refine ⟨zs.take len, hlen.symm, by omega, fun x hx => hw x (List.mem_of_mem_take hx), some a, cap, by rw [hlen], ?_, fun h => by rw [hn] at h; cases h⟩
 refine view_raw Nat.one_pos (by show (zs.take len).length ≤ _; omega) (by show (zs.take len).length ≤ _; simp only [maxLen] at hm; omega) fun _ => ⟨a, rfl, fun j p hj => ?_⟩
 have hj : (zs.take len)[j]? = some p := hj
 have hjl : j < len := by
  have := (List.getElem?_eq_some_iff.1 hj).1
  omega
 refine ⟨[.int k p], rfl, rfl, fun i u hu => ?_⟩
 cases i with
 | zero =>
  simp only [List.getElem?_cons_zero, Option.some.injEq] at hu
  subst hu
  have h := hc j (by omega)
  have hp : zs.getD j 0 = p := by
   rw [List.getElem?_take] at hj
   simp only [hjl, if_true] at hj
   simp [List.getD, hj]
  rw [hp] at h
  simpa [Ty.size] using h
 | succ i => simp at hu
theorem rep_none {q : TypeId} {t : Ty} : Rep (Zw w) w false (.sl q t) ([] : List t.den) [.slice none 0 0] No :=
 ⟨none, 0, rfl, ⟨Nat.le_refl _, Nat.zero_le _, fun h => absurd h (by simp)⟩, fun _ _ => rfl⟩
theorem come_ints {t e : TypeId} {k : IntKind} {fuel : Nat} {v : Value} {x : DataW H × List MemPlace} (ht : P.underlying t = some (.slice e)) (he : P.underlying e = some (.int k)) (hc : P.cellsOf e = 1)
  (h : DataW.trod enc P w base (fun _ => true) held fuel t [v] = some x) (hn : nf e = false := by rfl) :
  ∃ l : List Int, l.length ≤ maxLen ∧ (∀ x ∈ l, (Lit.int k x).wf = true) ∧ Rep (Zw w) w false (.sl e (.int k)) l [v] No := by
 rcases open_ints ht he hc h with ⟨hcs, _⟩ | ⟨a, len, cap, zs, hcs, _, hl, hm, hz, _, hcell, hw⟩
 ·
  refine ⟨[], by simp, by simp, ?_⟩
  rw [hcs]
  exact rep_none
 ·
  simp only [if_true] at hz
  obtain ⟨l, h1, h2, h3, h4⟩ := rep_ints (q := e) hn hl hm hz hcell hw
  exact ⟨l, h2, h3, by rw [hcs]; exact h4⟩
theorem args_nil : ASRs P No (Zw w) w [] () [] No := rfl
theorem args_one {t : Ty} {x : t.den} {v : Value} {ins : List ASh} {y : lsd (flats ins)} {vs : List Value} (h : Rep (Zw w) w false t x [v] No) (hr : ASRs P No (Zw w) w ins y vs No) : ASRs P No (Zw w) w (.one (.v t) :: ins) (x, y) (v :: vs) No :=
 ⟨v, vs, No, No, rfl, h, hr, fun _ h => h, fun _ h => h, fun _ h => h.elim⟩
end
end Go.Proofs.YthmcpmnhdbeahaaGreat.D
namespace Go.Proofs.YthmcpmnhdbeahaaGreat.D
open Go Go.RowKit
theorem valid_int1 {P : Program} {g : FuncId} {k k' : IntKind} {F : Int → Option Int} (hc : Callable P g) (h : ∀ (x y : Int) (w : World), F x = some y → Calls P g #[.int k x] w fun e w' => e = .returned (.int k' y) ∧ w' = w) :
  Valid P g ⟨[.one (.v (.int k))], [.one (.v (.int k'))], Int, fun x => F x.1, fun r => ((r, ()), ())⟩ := by
 refine ⟨hc, fun x r hx Z B S w vs ha hS hZ hB => ?_⟩
 obtain ⟨v, vs', F0, F1, rfl, h1, h2, _⟩ := ha
 cases h2
 have h1 : [v] = [.int k x.1] := h1
 cases h1
 refine (h x.1 r w hx).mono ?_
 rintro e w' ⟨rfl, rfl⟩
 refine ⟨_, rfl, Z, fun _ => False, fun _ => False, ⟨⟨_, [], fun _ => False, fun _ => False, rfl, trivial, trivial, fun _ h => h, fun _ h => h, fun _ h => h.elim⟩, ⟨[.int k' r], rfl, _, [], fun _ => False, fun _ => False, rfl, rfl, rfl, fun _ h => h, fun _ h => h, fun _ h => h.elim⟩, fun _ h => h.elim, fun _ h => (h.elim id id : False).elim, fun _ h => h, fun k hk => ⟨.inl hk, hZ k hk⟩, rfl, rfl, rfl, Nat.le_refl _, fun _ _ _ => rfl⟩⟩
end Go.Proofs.YthmcpmnhdbeahaaGreat.D
namespace Go.Proofs.YthmcpmnhdbeahaaGreat.D
open Go Go.RowKit
end Go.Proofs.YthmcpmnhdbeahaaGreat.D
namespace Go.Proofs.YthmcpmnhdbeahaaGreat.D
noncomputable def fuel : Nat := Classical.choose (⟨64, rfl⟩ : ∃ n, n = 64)
theorem fuel_eq : fuel = 64 := Classical.choose_spec (⟨64, rfl⟩ : ∃ n, n = 64)
theorem valid_none {P : Go.Program} {g : Go.FuncId} (hc : Callable P g) {ins outs : List ASh} {R : Type} {dec : R → lsd (flats outs) × lsd (ios ins)} : Valid P g ⟨ins, outs, R, fun _ => none, dec⟩ := ⟨hc, fun x r h => by cases h⟩
end Go.Proofs.YthmcpmnhdbeahaaGreat.D

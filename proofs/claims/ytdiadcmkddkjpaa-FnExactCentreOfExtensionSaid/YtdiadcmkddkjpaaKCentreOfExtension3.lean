/- What the proof of the law CentreOfExtension stands on, part 3: words, each Go function's Lean function, and that the Go code comes to its answers; no condition. (Packed by wip/myprint/pack.py out of what the kit's printer wrote, its words among it, partly by our patches of it, and out of texts of this session.) -/
import Derived.Eval
import Derived.Test.YtdiadcmkddkjpaaProg
import Derived.Test.YtdiadcmkddkjpaaChecked
import Derived.KernelRfl
import Derived.Test.YtdiadcmkddkjpaaKCentreOfExtension2
set_option linter.unusedVariables false
set_option linter.unusedSimpArgs false
namespace Go.Proofs.Ytdiadcmkddkjpaa.D
open Go Go.RowKit
section
variable {P : Program} {B Z : Nat → Prop} {ρ : Rz} {ob : List (Nat × Ob)} {w : World} {β γ : Type} {KK : γ → List Nat → Option β} {r : β}
theorem alive_one {T : Nat} {o : Ob} (h : lk T ob = some o) : Alive ob [T] := fun U hU => by rw [List.mem_singleton.1 hU, h]; rfl
theorem lfDen_sound (hm : Mem P B ρ Z (look ob) w) : ∀ (s : LS) (l : Lf) (v : Value) (nd : List Nat) (K : s.den → List Nat → Pg γ), (lfDen s l K).run ob KK nd = some r → LR P B ρ Z w l v →
    ∃ x c nd', (K x c).run ob KK nd' = some r ∧ LSR P B Z w s x v (Of ρ c) ∧ Alive ob c
  | .v t, l, v, nd, K, h, hl => by
    obtain ⟨x, c, nd1, h, htell, hal⟩ := toDen_one hm h hl
    exact ⟨x, c, nd1, h, htell, hal⟩
  | .fn asx rt, l, v, nd, K, h, hl => by cases l <;> cases h
  | .own e m t, l, v, nd, K, h, hl => by
    cases l <;> first | (cases h; done) | skip
    case nil =>
      have hl : v = .slice none 0 0 := hl
      subst hl
      exact ⟨_, [], nd, h, ⟨[], World.ownsRow_nil w 0 e t.size, (fun k hk => by cases hk), fun _ _ => False, (fun j p hp => by simp at hp), (fun _ _ h => h.elim), fun _ _ _ _ h => h.elim⟩, Alive.nil⟩
    case own T =>
      simp only [lfDen, run_obj] at h
      obtain ⟨o, ho, h⟩ := h
      cases o with
      | box _ _ _ => cases h
      | hole _ _ _ _ _ => cases h
      | row e' m' t' xs =>
        simp only [run_chk] at h
        obtain ⟨hc, h⟩ := h
        rw [Bool.and_eq_true] at hc
        obtain ⟨he, hc⟩ := hc
        obtain rfl := Nat.eq_of_beq_eq_true he
        cases hq : Ty.eq? t' t with
        | none => rw [hq] at h; cases h
        | some hh =>
          rw [hq] at h
          obtain ⟨hh⟩ := hh
          subst hh
          obtain ⟨z, hz, rfl, hone⟩ := hl
          obtain ⟨z', hz', hr⟩ := hm.obj T _ ho
          obtain rfl : z' = z := Option.some.inj (hz'.symm.trans hz)
          exact ⟨xs, [T], _, h, row_as hr hz hc, alive_one ho⟩
theorem of_dis (hm : Mem P B ρ Z (look ob) w) {a b : List Nat} (ha : Alive ob a) (hb : Alive ob b) (hn : nodup (a ++ b) = true) : ∀ k, Of ρ a k → ¬ Of ρ b k := fun k hk => Of.sep hm ha hb (nodup_append hn).2.2 hk
theorem lfsDen_sound (hm : Mem P B ρ Z (look ob) w) : ∀ (ss : List LS) (ls : List Lf) (vs : List Value) (nd : List Nat) (K : lsd ss → List Nat → Pg γ), (lfsDen ss ls K).run ob KK nd = some r → LRs P B ρ Z w ls vs →
    ∃ x c nd', (K x c).run ob KK nd' = some r ∧ (nodup c = true → LSRs P B Z w ss x vs (Of ρ c)) ∧ Alive ob c
  | [], [], vs, nd, K, h, hl => ⟨(), [], nd, h, fun _ => hl, Alive.nil⟩
  | [], _ :: _, vs, nd, K, h, hl => by cases h
  | s :: ss, [], vs, nd, K, h, hl => by cases h
  | s :: ss, l :: ls, vs, nd, K, h, ⟨v, vs', e, h1, h2⟩ => by
    subst e
    obtain ⟨x, c, nd1, h, k1, k2⟩ := lfDen_sound hm s l v nd _ h h1
    obtain ⟨y, c', nd2, h, k3, k4⟩ := lfsDen_sound hm ss ls vs' nd1 _ h h2
    exact ⟨(x, y), c ++ c', nd2, h, fun hn => ⟨v, vs', _, _, rfl, k1, k3 (nodup_append hn).2.1, fun k hk => hk.left, fun k hk => hk.right, of_dis hm k2 k4 hn⟩, k2.append k4⟩
theorem box_den (hm : Mem P B ρ Z (look ob) w) {T : Nat} {bt : TypeId} {cells : List Lf} (ho : lk T ob = some (.box bt false cells)) {v : Value} {z0 : Rzv} (hz0 : ρ T = some z0) (hv : z0.hdr = v) : ∃ g vs, v = .pointer (some ⟨g, 0, none⟩) ∧ w.heap[g]? = some (.cells vs.toArray bt (0, 0)) ∧ LRs P B ρ Z w cells vs ∧ ∀ c, Alive ob c → nodup (T :: c) = true → Of ρ (T :: c) g ∧ ¬ Of ρ c g ∧ ∀ k, Of ρ c k → Of ρ (T :: c) k := by
  obtain ⟨z, hz, g, vs, h1, h2, h3, h4, h5, h6⟩ := hm.obj T _ ho
  obtain rfl : z = z0 := Option.some.inj (hz.symm.trans hz0)
  refine ⟨g, vs, hv ▸ h1, h2, h3, fun c hc hn => ⟨⟨T, z, List.mem_cons_self, hz, h5 rfl⟩, fun hk => ?_, fun k ⟨U, zu, k1, k2⟩ => ⟨U, zu, List.mem_cons_of_mem _ k1, k2⟩⟩⟩
  exact of_dis hm (alive_one ho) hc hn g ⟨T, z, List.mem_singleton.2 rfl, hz, h5 rfl⟩ hk
theorem resDen_sound (hm : Mem P B ρ Z (look ob) w) : ∀ (outs : List ASh) (avs : List AV) (us : List Value) (nd : List Nat) (K : lsd (flats outs) → List Nat → Pg γ), (resDen outs avs K).run ob KK nd = some r → AVs P B ρ Z w avs us →
    ∃ y c nd', (K y c).run ob KK nd' = some r ∧ (nodup c = true → ASRs P B Z w outs y us (Of ρ c)) ∧ Alive ob c
  | [], [], us, nd, K, h, hl => ⟨(), [], nd, h, fun _ => hl, Alive.nil⟩
  | [], _ :: _, us, nd, K, h, hl => by cases h
  | .one s :: outs, avs, us, nd, K, h, hl => by
    rcases avs with _ | ⟨av, avs⟩
    · cases h
    · cases av <;> first | (cases h; done) | skip
      rename_i l
      obtain ⟨v, vs', rfl, h1, h2⟩ := hl
      obtain ⟨x, c, nd1, h, k1, k2⟩ := lfDen_sound hm s l v nd _ h h1
      obtain ⟨y, c', nd2, h, k3, k4⟩ := resDen_sound hm outs avs vs' nd1 _ h h2
      exact ⟨_, c ++ c', nd2, h, fun hn => ⟨v, vs', _, _, rfl, k1, k3 (nodup_append hn).2.1, fun k hk => hk.left, fun k hk => hk.right, of_dis hm k2 k4 hn⟩, k2.append k4⟩
  | .eat _ _ _ :: outs, avs, us, nd, K, h, hl => by
    rcases avs with _ | ⟨av, avs⟩
    · cases h
    · cases av <;> cases h
  | .agg ss :: outs, avs, us, nd, K, h, hl => by
    rcases avs with _ | ⟨av, avs⟩
    · cases h
    · cases av <;> first | (cases h; done) | skip
      rename_i ls
      obtain ⟨v, vs', rfl, ⟨us', e, h1⟩, h2⟩ := hl
      obtain ⟨x, c, nd1, h, k1, k2⟩ := lfsDen_sound hm ss ls us' nd _ h h1
      obtain ⟨y, c', nd2, h, k3, k4⟩ := resDen_sound hm outs avs vs' nd1 _ h h2
      refine ⟨_, c ++ c', nd2, h, fun hn => ⟨v, vs', Of ρ c, Of ρ c', rfl, ?_, ?_, fun k hk => hk.left, fun k hk => hk.right, of_dis hm k2 k4 hn⟩, k2.append k4⟩
      · show ASR P B Z w (.agg ss) (lsdSplit ss (flats outs) _).1 v _
        rw [split_join]
        exact ⟨us', e, k1 (nodup_append hn).1⟩
      · show ASRs P B Z w outs (lsdSplit ss (flats outs) _).2 vs' _
        rw [split_join]
        exact k3 (nodup_append hn).2.1
  | .ptr ro t ss :: outs, avs, us, nd, K, h, hl => by
    rcases avs with _ | ⟨av, avs⟩
    · cases ro <;> cases h
    · cases ro with
      | true => cases av <;> cases h
      | false =>
        cases av <;> first | (cases h; done) | skip
        rename_i l
        cases l <;> first | (cases h; done) | skip
        rename_i T off
        cases off with
        | succ _ => cases h
        | zero =>
          obtain ⟨v, vs', rfl, ⟨z0, g0, hz0, hg0, hv⟩, h2⟩ := hl
          simp only [resDen, run_obj] at h
          obtain ⟨o, ho, h⟩ := h
          cases o with
          | row _ _ _ _ => cases h
          | hole _ _ _ _ _ => cases h
          | box bt ro cells =>
            cases ro with
            | true => cases h
            | false =>
              simp only [run_chk] at h
              obtain ⟨hb, h⟩ := h
              obtain rfl := Nat.eq_of_beq_eq_true hb
              obtain ⟨g, cs, e1, e2, e3, e4⟩ := box_den hm ho hz0 (v := v) (hg0.trans hv.symm)
              obtain ⟨x, c, nd1, h, k1, k2⟩ := lfsDen_sound hm ss cells cs _ _ h e3
              obtain ⟨y, c', nd2, h, k3, k4⟩ := resDen_sound hm outs avs vs' nd1 _ h h2
              have hal : Alive ob (T :: c) := fun U hU => (List.mem_cons.1 hU).elim (fun e => by rw [e, ho]; rfl) (k2 U)
              refine ⟨_, T :: c ++ c', nd2, h, fun hn => ⟨v, vs', Of ρ (T :: c), Of ρ c', rfl, ?_, ?_, fun k hk => hk.left, fun k hk => hk.right, of_dis hm hal k4 hn⟩, hal.append k4⟩
              · show ASR P B Z w (.ptr false _ ss) (lsdSplit ss (flats outs) _).1 v _
                rw [split_join]
                have hn1 := (nodup_append hn).1
                exact ⟨g, cs, Of ρ c, e1, e2, k1 (by simp only [nodup, Bool.and_eq_true] at hn1; exact hn1.2), e4 c k2 hn1⟩
              · show ASRs P B Z w outs (lsdSplit ss (flats outs) _).2 vs' _
                rw [split_join]
                exact k3 (nodup_append hn).2.1
theorem backDen_sound (hm : Mem P B ρ Z (look ob) w) : ∀ (s : LS) (v : Value) (ts Ts : List Nat) (nd : List Nat) (K : lsd s.back → List Nat → List Nat → Pg γ), (backDen s (ts ++ Ts) K).run ob KK nd = some r → BackLS ρ s v ts →
    ∃ x c nd', (K x Ts c).run ob KK nd' = some r ∧ IoLS Z w s v x (Of ρ c) ∧ Alive ob c
  | .v t, v, ts, Ts, nd, K, h, hb => by
    cases hb
    exact ⟨(), [], nd, h, trivial, Alive.nil⟩
  | .fn asx rt, v, ts, Ts, nd, K, h, hb => by
    cases hb
    exact ⟨(), [], nd, h, trivial, Alive.nil⟩
  | .own e m t, v, ts, Ts, nd, K, h, hb => by
    obtain ⟨T, z, rfl, hz, hv⟩ := hb
    simp only [List.singleton_append, backDen, run_obj] at h
    obtain ⟨o, ho, h⟩ := h
    cases o with
    | box _ _ _ => cases h
    | hole _ _ _ _ _ => cases h
    | row e' m' t' xs =>
      simp only [run_chk] at h
      obtain ⟨hc, h⟩ := h
      rw [Bool.and_eq_true] at hc
      obtain ⟨he, hc⟩ := hc
      obtain rfl := Nat.eq_of_beq_eq_true he
      cases hq : Ty.eq? t' t with
      | none => rw [hq] at h; cases h
      | some hh =>
        rw [hq] at h
        obtain ⟨hh⟩ := hh
        subst hh
        obtain ⟨z', hz', hr⟩ := hm.obj T _ ho
        obtain rfl : z' = z := Option.some.inj (hz'.symm.trans hz)
        subst hv
        exact ⟨(xs, ()), [T], _, h, row_as hr hz hc, alive_one ho⟩
theorem backsDen_sound (hm : Mem P B ρ Z (look ob) w) : ∀ (ss : List LS) (vs : List Value) (ts Ts : List Nat) (nd : List Nat) (K : lsd (backs ss) → List Nat → List Nat → Pg γ), (backsDen ss (ts ++ Ts) K).run ob KK nd = some r → BackLSs ρ ss vs ts →
    ∃ x c nd', (K x Ts c).run ob KK nd' = some r ∧ (nodup c = true → IoLSs Z w ss vs x (Of ρ c)) ∧ Alive ob c
  | [], vs, ts, Ts, nd, K, h, hb => by
    cases hb
    exact ⟨(), [], nd, h, fun _ => trivial, Alive.nil⟩
  | s :: ss, vs, ts, Ts, nd, K, h, ⟨v, vs', t1, t2, e1, e2, b1, b2⟩ => by
    subst e1
    subst e2
    rw [List.append_assoc] at h
    obtain ⟨x, c, nd1, h, k1, k2⟩ := backDen_sound hm s v t1 (t2 ++ Ts) nd _ h b1
    obtain ⟨y, c', nd2, h, k3, k4⟩ := backsDen_sound hm ss vs' t2 Ts nd1 _ h b2
    refine ⟨_, c ++ c', nd2, h, fun hn => ⟨v, vs', Of ρ c, Of ρ c', rfl, ?_, ?_, fun k hk => hk.left, fun k hk => hk.right, of_dis hm k2 k4 hn⟩, k2.append k4⟩
    · rw [split_join]; exact k1
    · rw [split_join]; exact k3 (nodup_append hn).2.1
theorem ioDen_sound (hm : Mem P B ρ Z (look ob) w) : ∀ (ins : List ASh) (vs : List Value) (Ts : List Nat) (nd : List Nat) (K : lsd (ios ins) → List Nat → Pg γ), (ioDen ins Ts K).run ob KK nd = some r → BackRs ρ ins vs Ts →
    ∃ x c nd', (K x c).run ob KK nd' = some r ∧ (nodup c = true → IoRs P B Z w ins vs x (Of ρ c)) ∧ Alive ob c
  | [], vs, Ts, nd, K, h, hb => by
    cases hb
    exact ⟨(), [], nd, h, fun _ => trivial, Alive.nil⟩
  | .one s :: ins, vs, Ts, nd, K, h, ⟨v, vs', t1, t2, e1, e2, b1, b2⟩ => by
    subst e1
    subst e2
    obtain ⟨x, c, nd1, h, k1, k2⟩ := backDen_sound hm s v t1 t2 nd _ h b1
    obtain ⟨y, c', nd2, h, k3, k4⟩ := ioDen_sound hm ins vs' t2 nd1 _ h b2
    refine ⟨_, c ++ c', nd2, h, fun hn => ⟨v, vs', Of ρ c, Of ρ c', rfl, ?_, ?_, fun k hk => hk.left, fun k hk => hk.right, of_dis hm k2 k4 hn⟩, k2.append k4⟩
    · show IoR P B Z w (.one s) v (lsdSplit s.back (ios ins) _).1 _
      rw [split_join]; exact k1
    · show IoRs P B Z w ins vs' (lsdSplit s.back (ios ins) _).2 _
      rw [split_join]; exact k3 (nodup_append hn).2.1
  | .agg ss :: ins, vs, Ts, nd, K, h, ⟨v, vs', t1, t2, e1, e2, ⟨us, e3, b1⟩, b2⟩ => by
    subst e1
    subst e2
    obtain ⟨x, c, nd1, h, k1, k2⟩ := backsDen_sound hm ss us t1 t2 nd _ h b1
    obtain ⟨y, c', nd2, h, k3, k4⟩ := ioDen_sound hm ins vs' t2 nd1 _ h b2
    refine ⟨_, c ++ c', nd2, h, fun hn => ⟨v, vs', Of ρ c, Of ρ c', rfl, ?_, ?_, fun k hk => hk.left, fun k hk => hk.right, of_dis hm k2 k4 hn⟩, k2.append k4⟩
    · show IoR P B Z w (.agg ss) v (lsdSplit (backs ss) (ios ins) _).1 _
      rw [split_join]; exact ⟨us, e3, k1 (nodup_append hn).1⟩
    · show IoRs P B Z w ins vs' (lsdSplit (backs ss) (ios ins) _).2 _
      rw [split_join]; exact k3 (nodup_append hn).2.1
  | .ptr true t ss :: ins, vs, Ts, nd, K, h, ⟨v, vs', t1, t2, e1, e2, b1, b2⟩ => by
    subst e1
    subst e2
    cases b1
    obtain ⟨y, c', nd2, h, k3, k4⟩ := ioDen_sound hm ins vs' t2 nd _ h b2
    exact ⟨y, c', nd2, h, fun hn => ⟨v, vs', fun _ => False, Of ρ c', rfl, trivial, k3 hn, fun k hk => hk.elim, fun k hk => hk, fun k hk => hk.elim⟩, k4⟩
  | .eat _ _ _ :: ins, vs, Ts, nd, K, h, ⟨v, vs', t1, t2, e1, e2, b1, b2⟩ => by
    subst e1
    subst e2
    cases b1
    obtain ⟨y, c', nd2, h, k3, k4⟩ := ioDen_sound hm ins vs' t2 nd _ h b2
    exact ⟨y, c', nd2, h, fun hn => ⟨v, vs', fun _ => False, Of ρ c', rfl, trivial, k3 hn, fun k hk => hk.elim, fun k hk => hk, fun k hk => hk.elim⟩, k4⟩
  | .ptr false t ss :: ins, vs, Ts, nd, K, h, ⟨v, vs', t1, t2, e1, e2, ⟨T, z0, e3, hz0, hv⟩, b2⟩ => by
    subst e1
    subst e2
    subst e3
    simp only [List.singleton_append, ioDen, run_obj] at h
    obtain ⟨o, ho, h⟩ := h
    cases o with
    | row _ _ _ _ => cases h
    | hole _ _ _ _ _ => cases h
    | box bt ro cells =>
      cases ro with
      | true => cases h
      | false =>
        simp only [run_chk] at h
        obtain ⟨hb, h⟩ := h
        obtain rfl := Nat.eq_of_beq_eq_true hb
        obtain ⟨g, cs, e1, e2, e3, e4⟩ := box_den hm ho hz0 hv
        obtain ⟨x, c, nd1, h, k1, k2⟩ := lfsDen_sound hm ss cells cs _ _ h e3
        obtain ⟨y, c', nd2, h, k3, k4⟩ := ioDen_sound hm ins vs' t2 nd1 _ h b2
        have hal : Alive ob (T :: c) := fun U hU => (List.mem_cons.1 hU).elim (fun e => by rw [e, ho]; rfl) (k2 U)
        refine ⟨_, T :: c ++ c', nd2, h, fun hn => ⟨v, vs', Of ρ (T :: c), Of ρ c', rfl, ?_, ?_, fun k hk => hk.left, fun k hk => hk.right, of_dis hm hal k4 hn⟩, hal.append k4⟩
        · show IoR P B Z w (.ptr false _ ss) v (lsdSplit ss (ios ins) _).1 _
          rw [split_join]
          have hn1 := (nodup_append hn).1
          exact ⟨g, cs, Of ρ c, e1, e2, k1 (by simp only [nodup, Bool.and_eq_true] at hn1; exact hn1.2), e4 c k2 hn1⟩
        · show IoRs P B Z w ins vs' (lsdSplit ss (ios ins) _).2 _
          rw [split_join]
          exact k3 (nodup_append hn).2.1
theorem BackLSs.mono {ρ' : Rz} : ∀ {ss : List LS} {vs : List Value} {Ts : List Nat}, (∀ T ∈ Ts, ∀ z, ρ T = some z → ∃ z', ρ' T = some z' ∧ z'.hdr = z.hdr) → BackLSs ρ ss vs Ts → BackLSs ρ' ss vs Ts
  | [], _, _, _, h => h
  | s :: ss, _, _, hh, ⟨v, vs', t1, t2, e1, e2, b1, b2⟩ => ⟨v, vs', t1, t2, e1, e2, backLS_mono (fun T hT => hh T (e2 ▸ List.mem_append_left _ hT)) b1, BackLSs.mono (fun T hT => hh T (e2 ▸ List.mem_append_right _ hT)) b2⟩
where
  backLS_mono {ρ' : Rz} {s : LS} {v : Value} {Ts : List Nat} (hh : ∀ T ∈ Ts, ∀ z, ρ T = some z → ∃ z', ρ' T = some z' ∧ z'.hdr = z.hdr) (h : BackLS ρ s v Ts) : BackLS ρ' s v Ts := by
    cases s with
    | v t => exact h
    | fn asx rt => exact h
    | own e m t =>
      obtain ⟨T, z, rfl, h1, h2⟩ := h
      obtain ⟨z', h3, h4⟩ := hh T (List.mem_singleton.2 rfl) z h1
      exact ⟨T, z', rfl, h3, h4.trans h2⟩
theorem BackRs.mono {ρ' : Rz} : ∀ {ins : List ASh} {vs : List Value} {Ts : List Nat}, (∀ T ∈ Ts, ∀ z, ρ T = some z → ∃ z', ρ' T = some z' ∧ z'.hdr = z.hdr) → BackRs ρ ins vs Ts → BackRs ρ' ins vs Ts
  | [], _, _, _, h => h
  | a :: ins, _, _, hh, ⟨v, vs', t1, t2, e1, e2, b1, b2⟩ => by
    have h1 : ∀ T ∈ t1, ∀ z, ρ T = some z → ∃ z', ρ' T = some z' ∧ z'.hdr = z.hdr := fun T hT => hh T (e2 ▸ List.mem_append_left _ hT)
    refine ⟨v, vs', t1, t2, e1, e2, ?_, BackRs.mono (fun T hT => hh T (e2 ▸ List.mem_append_right _ hT)) b2⟩
    cases a with
    | eat _ _ _ => exact b1
    | one s => exact BackLSs.mono.backLS_mono h1 b1
    | agg ss =>
      obtain ⟨us, k1, k2⟩ := b1
      exact ⟨us, k1, k2.mono h1⟩
    | ptr ro t ss =>
      cases ro with
      | true => exact b1
      | false =>
        obtain ⟨T, z, rfl, k1, k2⟩ := b1
        obtain ⟨z', k3, k4⟩ := h1 T (List.mem_singleton.2 rfl) z k1
        exact ⟨T, z', rfl, k3, k4.trans k2⟩
inductive Each {α δ : Type} (R : α → δ → Prop) : List α → List δ → Prop where
  | nil : Each R [] []
  | cons {a : α} {b : δ} {l : List α} {m : List δ} : R a b → Each R l m → Each R (a :: l) (b :: m)
def resOne (tmps : Array Value) : ResultVar → Sem Value
  | .tmp t => pure (tmps.getD t undef)
  | .cell a t => do loadVar t (← asAddr (tmps.getD a undef))
theorem results_eq (fn : Func) (tmps : Array Value) : results fn tmps = (do
    let vs ← fn.results.mapM (resOne tmps)
    pure (if h : vs.size = 1 then vs[0] else .tuple vs)) := rfl
theorem mapM_run {tmps : Array Value} : ∀ (l : List ResultVar) (us : List Value), Each (fun x u => (resOne tmps x).run P w = .ok u w) l us → (l.mapM (resOne tmps)).run P w = .ok us w
  | [], _, .nil => by simp
  | x :: l, _, .cons (b := u) h hs => by
    rw [List.mapM_cons]
    simp [h, mapM_run l _ hs]
theorem results_run {fn : Func} {tmps : Array Value} {us : List Value} (h : Each (fun x u => (resOne tmps x).run P w = .ok u w) fn.results.toList us) : (results fn tmps).run P w = .ok (outV us) w := by
  rw [results_eq, Array.mapM_eq_mapM_toList]
  simp only [Sem.run_bind, Sem.run_map, mapM_run _ _ h, Result.andThen]
  rcases us with _ | ⟨u, _ | ⟨u', us⟩⟩
  · simp [outV]
  · simp [outV]
  · simp [outV]
theorem resPg_sound (hm : Mem P B ρ Z (look ob) w) {E : Env} (hE : TtOk P E.tt) {fr : List (Nat × AV)} {a : Act} (hfr : ∀ t av, lk t fr = some av → AR P B ρ Z w av (a.eval (.tmp t))) : ∀ (res : List ResultVar) (nd : List Nat) (K : List AV → Pg γ), (resPg E fr res K).run ob KK nd = some r →
    ∃ avs us nd', (K avs).run ob KK nd' = some r ∧ AVs P B ρ Z w avs us ∧ Each (fun x u => (resOne a.tmps x).run P w = .ok u w) res us
  | [], nd, K, h => ⟨[], [], nd, h, rfl, .nil⟩
  | .tmp t :: res, nd, K, h => by
    unfold resPg at h
    split at h
    · rename_i v hv
      obtain ⟨avs, us, nd', h1, h2, h3⟩ := resPg_sound hm hE hfr res nd _ h
      exact ⟨v :: avs, _ :: us, nd', h1, ⟨_, us, rfl, hfr t v hv, h2⟩, .cons (by simp [resOne, Act.eval]) h3⟩
    · cases h
  | .cell b t :: res, nd, K, h => by
    unfold resPg at h
    split at h
    · rename_i T off i hb hi
      rw [run_obj] at h
      obtain ⟨o, ho, h⟩ := h
      cases o with
      | row _ _ _ _ => cases h
      | hole _ _ _ _ _ => cases h
      | box bt ro cells =>
        obtain ⟨z, hz, g, vs, h1, h2, h3, h4, h5, h6⟩ := hm.obj T _ ho
        have hev : a.eval (.tmp b) = .pointer (some ⟨g, off, none⟩) := by
          obtain ⟨z', g', k1, k2, k3⟩ := hfr b _ hb
          obtain rfl : z' = z := Option.some.inj (k1.symm.trans hz)
          rw [h1] at k2
          cases k2
          exact k3
        have hev : a.tmps.getD b undef = .pointer (some ⟨g, off, none⟩) := hev
        have hcell : ∀ (j : Nat) u, ((vs.drop off).take i.size)[j]? = some u → w.cell? ((⟨g, off, none⟩ : Addr).add j) = some u := fun j u hu => by
          rw [add_plain, cell_of_row w g (off + j) vs.toArray bt (0, 0) h2]
          simpa using take_get hu
        have hl := (h3.drop off).take i.size
        have ht := hE t i hi
        simp only at h
        split at h
        · rename_i fs hk
          rw [run_chk] at h
          obtain ⟨hn, h⟩ := h
          have hn := Nat.eq_of_beq_eq_true hn
          have hsz : ((vs.drop off).take i.size).length = i.size := by rw [hl.len, hn]
          have hr := run_loadCells_list (P := P) w ⟨g, off, none⟩ _ hcell
          rw [hsz] at hr
          obtain ⟨avs, us, nd', g1, g2, g3⟩ := resPg_sound hm hE hfr res _ _ h
          refine ⟨_ :: avs, .agg ((vs.drop off).take i.size).toArray :: us, nd', g1, ⟨_, us, rfl, ⟨_, rfl, hl⟩, g2⟩, .cons ?_ g3⟩
          simp [resOne, hev, asAddr, loadVar, run_isAgg_st ht w hk, run_size ht, hr]
        · rename_i hk
          split at h
          · rename_i l hls
            rw [hls] at hl
            obtain ⟨v, hv, hv'⟩ := hl.one_inv
            have hc0 := hcell 0 v (by rw [hv]; rfl)
            rw [add_zero] at hc0
            obtain ⟨avs, us, nd', g1, g2, g3⟩ := resPg_sound hm hE hfr res _ _ h
            refine ⟨_ :: avs, v :: us, nd', g1, ⟨_, us, rfl, hv', g2⟩, .cons ?_ g3⟩
            simp [resOne, hev, asAddr, loadVar, run_isAgg_no ht w (fun fs hf => hk fs hf), hc0]
          · cases h
    · cases h
end
end Go.Proofs.Ytdiadcmkddkjpaa.D
set_option linter.unusedVariables false
set_option linter.unusedSimpArgs false
namespace Go.Proofs.Ytdiadcmkddkjpaa.D
open Go Go.RowKit
structure FnOk (P : Program) (E : Env) (g : FuncId) (fn : Func) (f : Fn) : Prop where
  func : P.funcs[g]? = some fn
  body : fn.body = some f.body
  name : (fn.name == "runtime.NumGoroutine") = false
  res : fn.results.toList = f.res
  n : fn.ntmps = E.n
  len : f.ins.length ≤ E.n
  ro : roOk f.ins = true
  pin : (inTags f.ins 0).all (fun T => Nat.blt T E.pin) = true
section
variable {P : Program} {E : Env}
theorem entry_at {B Z S : Nat → Prop} {w : World} {f : Fn} {x : lsd (flats f.ins)} {vs : List Value} (hro : roOk f.ins = true) (hlen : f.ins.length ≤ E.n) (h : ASRs P B Z w f.ins x vs S) (hS : ∀ k, S k → ¬ Z k ∧ ¬ B k ∧ k < w.heap.size) (hZ : ∀ k, Z k → k < w.heap.size) (hB : ∀ k, B k → k < w.heap.size) :
    ∃ ρ0 : Rz, (∀ k, Own ρ0 (look (entry f.ins x).ob) k → S k) ∧ BackRs ρ0 f.ins vs (inTags f.ins 0) ∧ At P B E.n E.pin ρ0 Z (look (entry f.ins x).ob) w (entry f.ins x) { tmps := vs.toArray ++ Array.replicate (E.n - vs.toArray.size) undef, defers := [] } w := by
  obtain ⟨zl, k1, k2, k3, k4⟩ := mkIns_sound f.ins x vs S 0 0 hro h
  have e : entry f.ins x = ⟨(mkIns f.ins x 0 0).1, (mkIns f.ins x 0 0).2.1, (mkIns f.ins x 0 0).2.2⟩ := rfl
  rw [e]
  obtain ⟨c1, c2⟩ := k4 (fun T => lk T zl) fun _ _ h => h
  have hown : ∀ k, Own (fun T => lk T zl) (look (mkIns f.ins x 0 0).2.1) k → S k := fun k ⟨T, z, _, h2, h3⟩ => k1.sub T z h2 k h3
  have hvs : vs.length ≤ E.n := by rw [k3]; exact hlen
  refine ⟨fun T => lk T zl, hown, c2, ⟨fun T => lk T zl, Z, _, rfl, ⟨fun T o ho => ?_, fun T T' z z' k hne _ _ h1 h2 => k1.dis T T' z z' k hne h1 h2, fun k hk => ⟨(hS k (hown k hk)).1, (hS k (hown k hk)).2.2⟩, hZ, fun k hk => (hS k (hown k hk)).2.1, hB⟩, Bas.refl, fun t av hav => ?_, ?_, rfl, fun T (hT : (mkIns f.ins x 0 0).2.2 ≤ T) => lk_none fun hk => ?_⟩⟩
  · have hk : T ∈ keys zl := k1.key ▸ lk_keys ho
    rw [mem_keys] at hk
    cases hz : lk T zl with
    | none => rw [hz] at hk; cases hk
    | some z => exact ⟨z, rfl, k1.ors _ (fun _ _ h => h) T o z ho hz⟩
  · obtain ⟨i, v, h1, h2, h3⟩ := c1 t av hav
    rw [Nat.zero_add] at h1
    subst h1
    have hi := (List.getElem?_eq_some_iff.1 h2).1
    have : ({ tmps := vs.toArray ++ Array.replicate (E.n - vs.toArray.size) undef, defers := [] } : Act).eval (.tmp t) = v := by
      simp only [Act.eval, Array.getD_eq_getD_getElem?]
      rw [Array.getElem?_append_left (by simpa using hi)]
      simp [h2]
    rw [this]
    exact h3
  · simp
    omega
  · have := (k2.lo T hk).2
    omega
theorem exit_post {B Z S : Nat → Prop} {w w' : World} {f : Fn} {vs : List Value} {ρ0 : Rz} {ob0 : Obs} {σ : St} {a : Act} {yz : lsd (flats f.outs) × lsd (ios f.ins)} {fn : Func} (hE : EnvOk P E) (hres : fn.results.toList = f.res) (hpin : (inTags f.ins 0).all (fun T => Nat.blt T E.pin) = true)
    (hS : ∀ k, Own ρ0 ob0 k → S k) (hb : BackRs ρ0 f.ins vs (inTags f.ins 0)) (h : At P B E.n E.pin ρ0 Z ob0 w σ a w') (hc : collect E f σ = some yz) :
    a.defers = [] ∧ ∃ u, (results fn a.tmps).run P w' = .ok u w' ∧ ∃ Z' Fi Fo, PostR P B Z S w f.ins f.outs vs yz.1 yz.2 u w' Z' Fi Fo := by
  obtain ⟨ρ, Z', L, h1, hm, hbas, hfr, h5, h6, h7⟩ := h
  refine ⟨h6, ?_⟩
  unfold collect at hc
  obtain ⟨avs, us, nd1, hc, k1, k2⟩ := resPg_sound hm hE.tt (a := a) hfr _ _ _ hc
  obtain ⟨y, c, nd2, hc, k3, k4⟩ := resDen_sound hm _ _ us _ _ hc k1
  have hb' : BackRs ρ f.ins vs (inTags f.ins 0) := hb.mono fun T hT z hz => hbas.hdr T z (by
    rw [List.all_eq_true] at hpin
    simpa using hpin T hT) hz
  obtain ⟨z, c', nd3, hc, k5, k6⟩ := ioDen_sound hm _ vs _ _ _ hc hb'
  rw [run_chk] at hc
  obtain ⟨hn, hc⟩ := hc
  have hc : some (y, z) = some yz := hc
  cases hc
  obtain ⟨n1, n2, n3⟩ := nodup_append hn
  rw [← hres] at k2
  refine ⟨outV us, results_run k2, Z', Of ρ c', Of ρ c, k5 n2, ⟨us, rfl, k3 n1⟩, fun k hk hk' => of_dis hm k4 k6 hn k hk' hk, fun k hk => ?_, hbas.zm, fun k hk => ⟨?_, hm.zlt k hk⟩, hbas.os, hbas.tape, hbas.output, hbas.size, fun k hk hs => hbas.old k hk fun ho => hs (hS k ho)⟩
  · have ho : Own ρ (look σ.ob) k := hk.elim (fun h => h.own k6) fun h => h.own k4
    exact ⟨(hbas.own k ho).imp (hS k) id, (hm.zsep k ho).2, (hm.zsep k ho).1⟩
  · rcases hbas.zn k hk with h | h | h
    · exact .inl h
    · exact .inr (.inl (hS k h))
    · exact .inr (.inr h)
theorem fn_valid (hE : EnvOk P E) (hm : P.follows .mixedOrders = true) {g : FuncId} {fn : Func} {f : Fn} (h : FnOk P E g fn f) {R : Type} {enc : lsd (flats f.outs) × lsd (ios f.ins) → R} {dec : R → lsd (flats f.outs) × lsd (ios f.ins)} (hde : ∀ y, dec (enc y) = y) : Valid P g ⟨f.ins, f.outs, R, denF E f enc, dec⟩ := by
  refine ⟨⟨fn, h.func, h.name, by rw [h.body]; rfl⟩, fun x r hx Z B S w vs hargs hS hZ hB => ?_⟩
  obtain ⟨ρ0, e1, e2, e3⟩ := entry_at (E := E) (f := f) h.ro h.len hargs hS hZ hB
  refine calls_of_wp h.func h.body ?_
  rw [h.n]
  have out : ∀ {yz}, (collect E f yz).map enc = some r → ∃ y, collect E f yz = some y ∧ dec r = y := fun {σ} h => by
    cases hc : collect E f σ with
    | none => rw [hc] at h; cases h
    | some y =>
      rw [hc] at h
      cases h
      exact ⟨y, rfl, hde y⟩
  refine denC_sound hE hm f.body (retG f enc E) r (entry f.ins x) _ w _ hx e3 fun ex σ' a' w' hk hat => ?_
  cases ex with
  | normal =>
    obtain ⟨y, hy, e⟩ := out hk
    obtain ⟨d, u, hr, hp⟩ := exit_post (fn := fn) hE h.res h.pin e1 e2 hat hy
    exact ⟨d, u, hr, u, rfl, by show ∃ Z' Fi Fo, PostR P B Z S w f.ins f.outs vs (dec r).1 (dec r).2 u w' Z' Fi Fo; rw [e]; exact hp⟩
  | exit i => cases hk
  | ret =>
    obtain ⟨y, hy, e⟩ := out hk
    obtain ⟨d, u, hr, hp⟩ := exit_post (fn := fn) hE h.res h.pin e1 e2 hat hy
    exact ⟨d, u, hr, u, rfl, by show ∃ Z' Fi Fo, PostR P B Z S w f.ins f.outs vs (dec r).1 (dec r).2 u w' Z' Fi Fo; rw [e]; exact hp⟩
end
end Go.Proofs.Ytdiadcmkddkjpaa.D
set_option linter.unusedVariables false
set_option linter.unusedSimpArgs false
namespace Go.Proofs.Ytdiadcmkddkjpaa.D
open Go Go.RowKit
theorem run_bind {γ β δ : Type} (ob : List (Nat × Ob)) (K : γ → List Nat → Option β) (G : β → Option δ) : ∀ (pg : Pg γ) (nd : List Nat), pg.run ob (fun g n => (K g n).bind G) nd = (pg.run ob K nd).bind G := by
  intro pg
  induction pg with
  | fail => intro nd; rfl
  | ret g => intro nd; rfl
  | obj T f ih =>
    intro nd
    unfold Pg.run
    cases lk T ob with
    | none => rfl
    | some o => exact ih o _
  | test p d x y ihx ihy =>
    intro nd
    unfold Pg.run
    by_cases hp : p
    · rw [if_pos hp, if_pos hp]; exact ihx nd
    · rw [if_neg hp, if_neg hp]; exact ihy nd
  | call v f ih =>
    intro nd
    unfold Pg.run
    cases v with
    | none => rfl
    | some a => exact ih a nd
theorem goOp_bind {β δ : Type} (E : Env) (σ : St) (dec : List (Nat × Bool)) (o : Oper) (k : St → Trc → Option β) (G : β → Option δ) : goOp E σ dec o (fun s t => (k s t).bind G) = (goOp E σ dec o k).bind G := by
  unfold goOp
  rw [← run_bind]
  congr 1
  funext e nd
  split
  · cases newOk σ e _ e.add.length && dstOk E o.dst <;> rfl
  · rfl
theorem skOp_bind {β δ : Type} (E : Env) (o : Oper) (x : Option β) (G : β → Option δ) : skOp E o (x.bind G) = (skOp E o x).bind G := by
  unfold skOp
  cases dstOk E o.dst <;> rfl
theorem denOps_bind {β δ : Type} (E : Env) (all : List Oper) (K : St → List Trc → Option β) (G : β → Option δ) : ∀ (ops : List Oper) (σ : St) (dec : List (Nat × Bool)) (tr : List Trc), denOps E all (fun s t => (K s t).bind G) ops σ dec tr = (denOps E all K ops σ dec tr).bind G
  | [], σ, dec, tr => rfl
  | o :: r, σ, dec, tr => by
    have go : ∀ dec, goOp E σ dec o (fun s t => denOps E all (fun s t => (K s t).bind G) r s (rmD o.dst dec) (t :: tr)) = (goOp E σ dec o (fun s t => denOps E all K r s (rmD o.dst dec) (t :: tr))).bind G := fun dec => by
      rw [← goOp_bind]
      congr 1
      funext s t
      exact denOps_bind E all K G r s _ _
    have sk : ∀ dec, skOp E o (denOps E all (fun s t => (K s t).bind G) r (σ.skip o.dst) (rmD o.dst dec) (([], []) :: tr)) = (skOp E o (denOps E all K r (σ.skip o.dst) (rmD o.dst dec) (([], []) :: tr))).bind G := fun dec => by
      rw [← skOp_bind, denOps_bind E all K G r]
    unfold denOps
    split
    · exact go dec
    · split
      · rfl
      · split
        · rename_i b _
          cases b == _
          · exact sk dec
          · exact go dec
        · split
          · rename_i n p d _
            by_cases hp : p
            · rw [if_pos hp, if_pos hp]
              generalize (!n == _) = bb
              cases bb
              · exact sk _
              · exact go _
            · rw [if_neg hp, if_neg hp]
              generalize (n == _) = bb
              cases bb
              · exact sk _
              · exact go _
          · exact sk dec
          · rfl
theorem seqK_bind {β δ : Type} (k : St → Option β) (K : Ex → St → Option β) (G : β → Option δ) : (fun e s => (seqK k K e s).bind G) = seqK (fun s => (k s).bind G) (fun e s => (K e s).bind G) := by
  funext e s
  cases e <;> rfl
theorem blkK_bind {β δ : Type} (id : Nat) (K : Ex → St → Option β) (G : β → Option δ) : (fun e s => (blkK id K e s).bind G) = blkK id (fun e s => (K e s).bind G) := by
  funext e s
  cases e with
  | exit i =>
    show (bif Nat.beq i id then K .normal s else K (.exit i) s).bind G = bif Nat.beq i id then (K .normal s).bind G else (K (.exit i) s).bind G
    cases Nat.beq i id <;> rfl
  | _ => rfl
theorem denC_bind (E : Env) : ∀ (c : Code) {β δ : Type} (σ : St) (K : Ex → St → Option β) (G : β → Option δ), denC E c σ (fun e s => (K e s).bind G) = (denC E c σ K).bind G := by
  intro c
  induction c with
  | skip => intro β δ σ K G; simp only [denC]
  | region id ops draw =>
    intro β δ σ K G
    simp only [denC]
    rw [← denOps_bind]
    congr 1
    funext s tr
    cases draw
    · rfl
    · cases h : bern ops tr <;> simp
  | seq x y ihx ihy =>
    intro β δ σ K G
    simp only [denC]
    rw [← ihx, seqK_bind]
    congr 2
    funext s
    exact ihy s K G
  | cond c x y ihx ihy =>
    intro β δ σ K G
    simp only [denC]
    split
    · rename_i n p d _
      by_cases hp : p
      · rw [if_pos hp, if_pos hp]
        cases n
        · exact ihx σ K G
        · exact ihy σ K G
      · rw [if_neg hp, if_neg hp]
        cases n
        · exact ihy σ K G
        · exact ihx σ K G
    · rfl
  | block id c ih =>
    intro β δ σ K G
    simp only [denC]
    rw [← ih, blkK_bind]
  | loop c ih =>
    intro β δ σ K G
    simp only [denC]
    cases loopR (fun s => denC E c s (backK E (rid c))) (nrm E (rid c) σ) <;> rfl
  | exit id => intro β δ σ K G; simp only [denC]
  | ret => intro β δ σ K G; simp only [denC]
  | _ => intro β δ σ K G; simp [denC]
theorem denC_pure (E : Env) (c : Code) {β : Type} (σ : St) (K : Ex → St → Option β) : denC E c σ K = (denC E c σ fun e s => some (e, s)).bind fun p => K p.1 p.2 := by
  rw [← denC_bind]
  rfl
section
variable {f : St → Option (Ex × St)}
theorem iter_more : ∀ {n m : Nat} {σ : St} {p : Ex × St}, iter f n σ = some p → n ≤ m → iter f m σ = some p
  | 0, _, _, _, h, _ => by cases h
  | n + 1, 0, _, _, _, h => absurd h (Nat.not_succ_le_zero n)
  | n + 1, m + 1, σ, p, h, hm => by
    unfold iter at h ⊢
    split
    · rename_i s hs
      rw [hs] at h
      exact iter_more h (Nat.le_of_succ_le_succ hm)
    · rename_i r hr
      split at h
      · rename_i s hs
        exact absurd hs (fun hs => hr s hs)
      · exact h
theorem iter_loopR {n : Nat} {σ : St} {p : Ex × St} (h : iter f n σ = some p) : loopR f σ = some p := by
  have hx : ∃ n, (iter f n σ).isSome = true := ⟨n, by rw [h]; rfl⟩
  unfold loopR
  rw [dif_pos hx]
  have hc := Classical.choose_spec hx
  generalize Classical.choose hx = m at hc ⊢
  cases hm : iter f m σ with
  | none => rw [hm] at hc; cases hc
  | some q =>
    have h1 := iter_more h (Nat.le_max_left n m)
    have h2 := iter_more hm (Nat.le_max_right n m)
    rw [h1] at h2
    exact h2.symm
theorem loopR_iter {σ : St} {p : Ex × St} (h : loopR f σ = some p) : ∃ n, iter f n σ = some p := by
  unfold loopR at h
  split at h
  · exact ⟨_, h⟩
  · cases h
def back (f : St → Option (Ex × St)) (g : St → Option (Ex × St)) : Option (Ex × St) → Option (Ex × St)
  | some (.normal, s) => g s
  | r => r
theorem loopR_step (σ : St) : loopR f σ = back f (loopR f) (f σ) := by
  cases hl : back f (loopR f) (f σ) with
  | none =>
    cases hr : loopR f σ with
    | none => rfl
    | some p =>
      obtain ⟨n, hn⟩ := loopR_iter hr
      exfalso
      cases n with
      | zero => cases hn
      | succ n =>
        unfold iter at hn
        unfold back at hl
        split at hn
        · rename_i s hs
          rw [hs] at hl
          have := iter_loopR hn
          simp only at hl
          rw [this] at hl; cases hl
        · rename_i r hr'
          split at hl
          · rename_i s hs; exact hr' s hs
          · rw [hl] at hn; cases hn
  | some p =>
    unfold back at hl
    split at hl
    · rename_i s hs
      obtain ⟨n, hn⟩ := loopR_iter hl
      exact iter_loopR (n := n + 1) (by unfold iter; rw [hs]; exact hn)
    · rename_i r hr
      refine iter_loopR (n := 1) ?_
      unfold iter
      split
      · rename_i s hs; exact absurd hs (hr s)
      · exact hl
end
theorem loop_unfold (E : Env) (c : Code) {β : Type} (s : St) (K : Ex → St → Option β) : denC E (.loop c) s K = denC E c (nrm E (rid c) s) (seqK (fun s => denC E (.loop c) s K) K) := by
  have h1 : ∀ s, denC E (.loop c) s K = (loopR (fun s => denC E c s (backK E (rid c))) (nrm E (rid c) s)).bind fun p => K p.1 p.2 := fun s => by simp only [denC]
  rw [h1, loopR_step, denC_pure E c (nrm E (rid c) s) (seqK (fun s => denC E (.loop c) s K) K), denC_pure E c (nrm E (rid c) s) (backK E (rid c))]
  cases denC E c (nrm E (rid c) s) (fun e s => some (e, s)) with
  | none => rfl
  | some p =>
    obtain ⟨e, s'⟩ := p
    cases e with
    | normal => exact (h1 s').symm
    | exit i => rfl
    | ret => rfl
end Go.Proofs.Ytdiadcmkddkjpaa.D
set_option linter.unusedVariables false
namespace Go.Proofs.Ytdiadcmkddkjpaa.D
open Go Go.RowKit
def rd (xs : List Int) (i : Int) : Int := xs.getD i.toNat 0
def row (xs : List (List Int)) (i : Int) : List Int := xs.getD i.toNat []
def T (g : List (List Int)) (a b : Int) : Int := rd (row g a) b
section
variable {P : Program} {t : TypeId}
def stOf : TypeDesc → Option (Array Field)
  | .struct f => some f
  | _ => none
def plainB : TypeDesc → Bool
  | .struct _ => false
  | .array _ _ => false
  | _ => true
theorem kindSt {fs : List (Nat × TypeId)} (h1 : ((P.underlying t).bind stOf).map (fun fields => fields.toList.map fun f => (f.offset, f.type)) = some fs) (h2 : (((P.underlying t).bind stOf).bind fun fields => fields.toList.mapM fun f => (P.info? f.type).map fun i => (f.offset, i.size)).isSome = true) : KindOk P t (.st fs) := by
  cases hu : P.underlying t with
  | none => rw [hu] at h1; cases h1
  | some d =>
    rw [hu] at h1 h2
    cases d <;> first | (cases h1; done) | skip
    rename_i fields
    simp only [Option.bind_some, stOf, Option.map_some, Option.some.injEq] at h1 h2
    cases hm : fields.toList.mapM fun f => (P.info? f.type).map fun i => (f.offset, i.size) with
    | none => rw [hm] at h2; cases h2
    | some places => exact ⟨fields, hu, h1, places, hm⟩
theorem kindOther (h : ((P.underlying t).map plainB) = some true) : KindOk P t .other := by
  cases hu : P.underlying t with
  | none => rw [hu] at h; cases h
  | some d =>
    rw [hu] at h
    refine ⟨d, hu, ?_⟩
    cases d <;> first | trivial | cases h
theorem tiMk {k : TK} {size bytes : Nat} {zero : List Lf} {ty : Ty} (hk : KindOk P t k) (h1 : (P.info? t).map (fun i => (i.size, i.bytes)) = some (size, bytes)) (h2 : ((P.info? t).bind (·.zero)).bind (fun z => constLfs z.cells.toList) = some zero) (h3 : ((P.info? t).bind (·.zero)).map (fun z => z.cells.toList) = some (zcells ty)) : TiOk P t ⟨k, size, bytes, zero, ty, true⟩ := by
  refine ⟨hk, ?_⟩
  cases hi : P.info? t with
  | none => rw [hi] at h1; cases h1
  | some i =>
    rw [hi] at h1 h2 h3
    simp only [Option.map_some, Option.some.injEq, Prod.mk.injEq] at h1
    refine ⟨i, rfl, h1.1, h1.2, fun _ _ => ?_⟩
    cases hz : i.zero with
    | none => simp [hz] at h2
    | some z =>
      simp only [Option.bind_some, hz, Option.map_some, Option.some.injEq] at h2 h3
      exact ⟨z, rfl, h2, fun _ => h3⟩
theorem tiMk' {k : TK} {size bytes : Nat} {zero : List Lf} {ty : Ty} (hk : KindOk P t k) (h1 : (P.info? t).map (fun i => (i.size, i.bytes)) = some (size, bytes)) (h2 : zero.length ≠ size) : TiOk P t ⟨k, size, bytes, zero, ty, false⟩ := by
  refine ⟨hk, ?_⟩
  cases hi : P.info? t with
  | none => rw [hi] at h1; cases h1
  | some i =>
    rw [hi] at h1
    simp only [Option.map_some, Option.some.injEq, Prod.mk.injEq] at h1
    exact ⟨i, rfl, h1.1, h1.2, fun h => absurd h h2⟩
theorem ttNil : TtOk P [] := fun _ _ h => by cases h
theorem ttCons {i : TI} {r : List (Nat × TI)} (h : TiOk P t i) (hr : TtOk P r) : TtOk P ((t, i) :: r) := fun u j hj => by
  by_cases e : u = t
  · subst e
    simp [lk] at hj
    subst hj
    exact h
  · simp [lk, beq_ne e] at hj
    exact hr u j hj
theorem conNil : ConsOk P [] := fun _ _ h => by cases h
theorem conCons {g : FuncId} {c : Con} {r : List (Nat × Con)} (h : Valid P g c) (hr : ConsOk P r) : ConsOk P ((g, c) :: r) := fun u j hj => by
  by_cases e : u = g
  · subst e
    simp [lk] at hj
    subst hj
    exact h
  · simp [lk, beq_ne e] at hj
    exact hr u j hj
end
end Go.Proofs.Ytdiadcmkddkjpaa.D
set_option linter.unusedVariables false
namespace Go.Proofs.Ytdiadcmkddkjpaa.P
open Go Go.RowKit Go.Proofs.Ytdiadcmkddkjpaa.D
theorem ti2 : TiOk Try.prog 2 ⟨.int .i64, 1, 8, [.int .i64 0], (.int .i64), true⟩ := tiMk (show Try.prog.underlying 2 = some (.int .i64) by kernel_rfl) (by kernel_rfl) (by kernel_rfl) (by kernel_rfl)
theorem ti3 : TiOk Try.prog 3 ⟨.int .i64, 1, 8, [.int .i64 0], (.int .i64), true⟩ := tiMk (show Try.prog.underlying 3 = some (.int .i64) by kernel_rfl) (by kernel_rfl) (by kernel_rfl) (by kernel_rfl)
theorem ti4 : TiOk Try.prog 4 ⟨.bool, 1, 1, [fls], .bool, true⟩ := tiMk (show Try.prog.underlying 4 = some .bool by kernel_rfl) (by kernel_rfl) (by kernel_rfl) (by kernel_rfl)
theorem ti22 : TiOk Try.prog 22 ⟨.sl 25, 1, 24, [.nil], (.sl 25 (.sl 2 (.int .i64))), true⟩ := tiMk (show Try.prog.underlying 22 = some (.slice 25) by kernel_rfl) (by kernel_rfl) (by kernel_rfl) (by kernel_rfl)
theorem ti24 : TiOk Try.prog 24 ⟨.st [(0, 22)], 1, 24, [.nil], (.sl 25 (.sl 2 (.int .i64))), true⟩ := tiMk (kindSt (by kernel_rfl) (by kernel_rfl)) (by kernel_rfl) (by kernel_rfl) (by kernel_rfl)
theorem ti25 : TiOk Try.prog 25 ⟨.sl 2, 1, 24, [.nil], (.sl 2 (.int .i64)), true⟩ := tiMk (show Try.prog.underlying 25 = some (.slice 2) by kernel_rfl) (by kernel_rfl) (by kernel_rfl) (by kernel_rfl)
theorem ti27 : TiOk Try.prog 27 ⟨.st [(0, 2), (1, 25)], 2, 32, [.int .i64 0, .nil], (.pr (.int .i64) (.sl 2 (.int .i64))), true⟩ := tiMk (kindSt (by kernel_rfl) (by kernel_rfl)) (by kernel_rfl) (by kernel_rfl) (by kernel_rfl)
theorem ti32 : TiOk Try.prog 32 ⟨.st [(0, 22)], 1, 24, [.nil], (.sl 25 (.sl 2 (.int .i64))), true⟩ := tiMk (kindSt (by kernel_rfl) (by kernel_rfl)) (by kernel_rfl) (by kernel_rfl) (by kernel_rfl)
theorem ti34 : TiOk Try.prog 34 ⟨.st [(0, 2), (1, 25)], 2, 32, [.int .i64 0, .nil], (.pr (.int .i64) (.sl 2 (.int .i64))), true⟩ := tiMk (kindSt (by kernel_rfl) (by kernel_rfl)) (by kernel_rfl) (by kernel_rfl) (by kernel_rfl)
theorem ti45 : TiOk Try.prog 45 ⟨.st [(0, 2), (1, 25)], 2, 32, [.int .i64 0, .nil], (.pr (.int .i64) (.sl 2 (.int .i64))), true⟩ := tiMk (kindSt (by kernel_rfl) (by kernel_rfl)) (by kernel_rfl) (by kernel_rfl) (by kernel_rfl)
theorem ti47 : TiOk Try.prog 47 ⟨.st [(0, 2), (1, 25)], 2, 32, [.int .i64 0, .nil], (.pr (.int .i64) (.sl 2 (.int .i64))), true⟩ := tiMk (kindSt (by kernel_rfl) (by kernel_rfl)) (by kernel_rfl) (by kernel_rfl) (by kernel_rfl)
theorem ti73 : TiOk Try.prog 73 ⟨.other, 1, 8, [], (.int .i64), false⟩ := tiMk' (kindOther (by kernel_rfl)) (by kernel_rfl) (by decide)
theorem ti98 : TiOk Try.prog 98 ⟨.int .u64, 1, 8, [.int .u64 0], (.int .u64), true⟩ := tiMk (show Try.prog.underlying 98 = some (.int .u64) by kernel_rfl) (by kernel_rfl) (by kernel_rfl) (by kernel_rfl)
theorem ti107 : TiOk Try.prog 107 ⟨.sl 47, 1, 24, [.nil], (.sl 47 (.pr (.int .i64) (.sl 2 (.int .i64)))), true⟩ := tiMk (show Try.prog.underlying 107 = some (.slice 47) by kernel_rfl) (by kernel_rfl) (by kernel_rfl) (by kernel_rfl)
theorem ti115 : TiOk Try.prog 115 ⟨.sl 32, 1, 24, [.nil], (.sl 32 (.sl 25 (.sl 2 (.int .i64)))), true⟩ := tiMk (show Try.prog.underlying 115 = some (.slice 32) by kernel_rfl) (by kernel_rfl) (by kernel_rfl) (by kernel_rfl)
theorem ti116 : TiOk Try.prog 116 ⟨.sl 34, 1, 24, [.nil], (.sl 34 (.pr (.int .i64) (.sl 2 (.int .i64)))), true⟩ := tiMk (show Try.prog.underlying 116 = some (.slice 34) by kernel_rfl) (by kernel_rfl) (by kernel_rfl) (by kernel_rfl)
theorem ti121 : TiOk Try.prog 121 ⟨.sl 4, 1, 24, [.nil], (.sl 4 .bool), true⟩ := tiMk (show Try.prog.underlying 121 = some (.slice 4) by kernel_rfl) (by kernel_rfl) (by kernel_rfl) (by kernel_rfl)
theorem ti125 : TiOk Try.prog 125 ⟨.int .u64, 1, 8, [.int .u64 0], (.int .u64), true⟩ := tiMk (show Try.prog.underlying 125 = some (.int .u64) by kernel_rfl) (by kernel_rfl) (by kernel_rfl) (by kernel_rfl)
noncomputable def TT : List (Nat × TI) := [(2, ⟨.int .i64, 1, 8, [.int .i64 0], (.int .i64), true⟩), (3, ⟨.int .i64, 1, 8, [.int .i64 0], (.int .i64), true⟩), (4, ⟨.bool, 1, 1, [fls], .bool, true⟩), (22, ⟨.sl 25, 1, 24, [.nil], (.sl 25 (.sl 2 (.int .i64))), true⟩), (24, ⟨.st [(0, 22)], 1, 24, [.nil], (.sl 25 (.sl 2 (.int .i64))), true⟩), (25, ⟨.sl 2, 1, 24, [.nil], (.sl 2 (.int .i64)), true⟩), (27, ⟨.st [(0, 2), (1, 25)], 2, 32, [.int .i64 0, .nil], (.pr (.int .i64) (.sl 2 (.int .i64))), true⟩), (32, ⟨.st [(0, 22)], 1, 24, [.nil], (.sl 25 (.sl 2 (.int .i64))), true⟩), (34, ⟨.st [(0, 2), (1, 25)], 2, 32, [.int .i64 0, .nil], (.pr (.int .i64) (.sl 2 (.int .i64))), true⟩), (45, ⟨.st [(0, 2), (1, 25)], 2, 32, [.int .i64 0, .nil], (.pr (.int .i64) (.sl 2 (.int .i64))), true⟩), (47, ⟨.st [(0, 2), (1, 25)], 2, 32, [.int .i64 0, .nil], (.pr (.int .i64) (.sl 2 (.int .i64))), true⟩), (73, ⟨.other, 1, 8, [], (.int .i64), false⟩), (98, ⟨.int .u64, 1, 8, [.int .u64 0], (.int .u64), true⟩), (107, ⟨.sl 47, 1, 24, [.nil], (.sl 47 (.pr (.int .i64) (.sl 2 (.int .i64)))), true⟩), (115, ⟨.sl 32, 1, 24, [.nil], (.sl 32 (.sl 25 (.sl 2 (.int .i64)))), true⟩), (116, ⟨.sl 34, 1, 24, [.nil], (.sl 34 (.pr (.int .i64) (.sl 2 (.int .i64)))), true⟩), (121, ⟨.sl 4, 1, 24, [.nil], (.sl 4 .bool), true⟩), (125, ⟨.int .u64, 1, 8, [.int .u64 0], (.int .u64), true⟩)]
theorem ttOk : TtOk Try.prog TT := (ttCons ti2 (ttCons ti3 (ttCons ti4 (ttCons ti22 (ttCons ti24 (ttCons ti25 (ttCons ti27 (ttCons ti32 (ttCons ti34 (ttCons ti45 (ttCons ti47 (ttCons ti73 (ttCons ti98 (ttCons ti107 (ttCons ti115 (ttCons ti116 (ttCons ti121 (ttCons ti125 ttNil))))))))))))))))))
end Go.Proofs.Ytdiadcmkddkjpaa.P
set_option linter.unusedVariables false
namespace Go.Proofs.Ytdiadcmkddkjpaa.P
open Go Go.RowKit Go.Proofs.Ytdiadcmkddkjpaa.D
noncomputable def laws_szInt64S.E : Env := { tt := TT, con := [], frz := [], rows := [], live := [], n := 12, pin := 0, nils := [] }
noncomputable def laws_szInt64S.fn : D.Fn := { body := Try.f56.body.getD .skip, res := Try.f56.results.toList, ins := [.one (.v (.sl 2 (.int .i64))), .one (.v (.int .i64))], outs := [.one (.v (.int .i64))] }
def laws_szInt64S.enc (y : lsd (flats laws_szInt64S.fn.outs) × lsd (ios laws_szInt64S.fn.ins)) : Int := y.1.1
noncomputable def laws_szInt64S.f (l0 : List Int) (a1 : Int) : Option Int := denF laws_szInt64S.E laws_szInt64S.fn laws_szInt64S.enc (l0, a1, ())
set_option maxRecDepth 100000 in
theorem laws_szInt64S.f_eq (l0 : List Int) (a1 : Int) : laws_szInt64S.f l0 a1 = if (wrapI (a1 - (l0.length : Int))) < 0 then (some (-1)) else (some (wrapI (a1 - (l0.length : Int)))) := by kernel_rfl
noncomputable def laws_szInt64S.con : Con := ⟨laws_szInt64S.fn.ins, laws_szInt64S.fn.outs, Int, fun x => laws_szInt64S.f x.1 x.2.1, fun r => ((r, ()), (()))⟩
theorem laws_szInt64S.valid : Valid Try.prog 56 laws_szInt64S.con := fn_valid (f := laws_szInt64S.fn) (E := laws_szInt64S.E) (enc := laws_szInt64S.enc) ⟨ttOk, conNil⟩ (Checked.mixed Try.checked) ⟨Try.func56, by kernel_rfl, by kernel_rfl, by kernel_rfl, by kernel_rfl, by decide, by kernel_rfl, by kernel_rfl⟩ (fun _ => rfl)
end Go.Proofs.Ytdiadcmkddkjpaa.P
set_option linter.unusedVariables false
namespace Go.Proofs.Ytdiadcmkddkjpaa.P
open Go Go.RowKit Go.Proofs.Ytdiadcmkddkjpaa.D
noncomputable def laws_szInt64SS.E : Env := { tt := TT, con := [(56, laws_szInt64S.con)], frz := [], rows := [], live := [(5, [0, 1, 5])], n := 27, pin := 0, nils := [] }
noncomputable def laws_szInt64SS.fn : D.Fn := { body := Try.f55.body.getD .skip, res := Try.f55.results.toList, ins := [.one (.v (.sl 25 (.sl 2 (.int .i64)))), .one (.v (.int .i64))], outs := [.one (.v (.int .i64))] }
def laws_szInt64SS.enc (y : lsd (flats laws_szInt64SS.fn.outs) × lsd (ios laws_szInt64SS.fn.ins)) : Int := y.1.1
noncomputable def laws_szInt64SS.f (l0 : List (List Int)) (a1 : Int) : Option Int := denF laws_szInt64SS.E laws_szInt64SS.fn laws_szInt64SS.enc (l0, a1, ())
noncomputable def laws_szInt64SS.l0 (x0 : List (List Int)) (x1 : Int) (x5 : Int) : Option Int := denAt laws_szInt64SS.E laws_szInt64SS.fn laws_szInt64SS.enc [1, 1, 1, 0, 1, 0] { fr := [(0, .lf (.sl (.sl 2 (.int .i64)) x0)), (1, .lf (.int .i64 x1)), (5, .lf (.int .i64 x5))], ob := [], nx := 0 }
set_option maxRecDepth 100000 in
theorem laws_szInt64SS.f_eq (l0 : List (List Int)) (a1 : Int) : laws_szInt64SS.f l0 a1 = if (wrapI (a1 - (l0.length : Int))) < 0 then (some (-1)) else (laws_szInt64SS.l0 l0 (wrapI (a1 - (l0.length : Int))) 0) := by kernel_rfl
set_option maxRecDepth 100000 in
theorem laws_szInt64SS.l0_eq (x0 : List (List Int)) (x1 : Int) (x5 : Int) : laws_szInt64SS.l0 x0 x1 x5 = if x5 < (x0.length : Int) then (if 0 ≤ x5 then (if x5 < (x0.length : Int) then ((laws_szInt64S.f (row x0 x5) x1).bind fun t23 => if t23 < 0 then (some (-1)) else (laws_szInt64SS.l0 x0 t23 (wrapI (x5 + 1)))) else none) else none) else (some x1) := (loop_unfold _ _ _ _).trans (by kernel_rfl)
noncomputable def laws_szInt64SS.con : Con := ⟨laws_szInt64SS.fn.ins, laws_szInt64SS.fn.outs, Int, fun x => laws_szInt64SS.f x.1 x.2.1, fun r => ((r, ()), (()))⟩
theorem laws_szInt64SS.valid : Valid Try.prog 55 laws_szInt64SS.con := fn_valid (f := laws_szInt64SS.fn) (E := laws_szInt64SS.E) (enc := laws_szInt64SS.enc) ⟨ttOk, (conCons laws_szInt64S.valid conNil)⟩ (Checked.mixed Try.checked) ⟨Try.func55, by kernel_rfl, by kernel_rfl, by kernel_rfl, by kernel_rfl, by decide, by kernel_rfl, by kernel_rfl⟩ (fun _ => rfl)
end Go.Proofs.Ytdiadcmkddkjpaa.P
set_option linter.unusedVariables false
namespace Go.Proofs.Ytdiadcmkddkjpaa.P
open Go Go.RowKit Go.Proofs.Ytdiadcmkddkjpaa.D
noncomputable def laws_szGroup.E : Env := { tt := TT, con := [(55, laws_szInt64SS.con)], frz := [], rows := [], live := [], n := 12, pin := 0, nils := [] }
noncomputable def laws_szGroup.fn : D.Fn := { body := Try.f13.body.getD .skip, res := Try.f13.results.toList, ins := [.agg [.v (.sl 25 (.sl 2 (.int .i64)))], .one (.v (.int .i64))], outs := [.one (.v (.int .i64))] }
def laws_szGroup.enc (y : lsd (flats laws_szGroup.fn.outs) × lsd (ios laws_szGroup.fn.ins)) : Int := y.1.1
noncomputable def laws_szGroup.f (l0_0 : List (List Int)) (a1 : Int) : Option Int := denF laws_szGroup.E laws_szGroup.fn laws_szGroup.enc (l0_0, a1, ())
set_option maxRecDepth 100000 in
theorem laws_szGroup.f_eq (l0_0 : List (List Int)) (a1 : Int) : laws_szGroup.f l0_0 a1 = (laws_szInt64SS.f l0_0 a1).bind fun t8 => if t8 < 0 then (some (-1)) else (some t8) := by kernel_rfl
noncomputable def laws_szGroup.con : Con := ⟨laws_szGroup.fn.ins, laws_szGroup.fn.outs, Int, fun x => laws_szGroup.f x.1 x.2.1, fun r => ((r, ()), (()))⟩
theorem laws_szGroup.valid : Valid Try.prog 13 laws_szGroup.con := fn_valid (f := laws_szGroup.fn) (E := laws_szGroup.E) (enc := laws_szGroup.enc) ⟨ttOk, (conCons laws_szInt64SS.valid conNil)⟩ (Checked.mixed Try.checked) ⟨Try.func13, by kernel_rfl, by kernel_rfl, by kernel_rfl, by kernel_rfl, by decide, by kernel_rfl, by kernel_rfl⟩ (fun _ => rfl)
end Go.Proofs.Ytdiadcmkddkjpaa.P
set_option linter.unusedVariables false
namespace Go.Proofs.Ytdiadcmkddkjpaa.P
open Go Go.RowKit Go.Proofs.Ytdiadcmkddkjpaa.D
noncomputable def laws_szModule.E : Env := { tt := TT, con := [(56, laws_szInt64S.con)], frz := [], rows := [], live := [], n := 12, pin := 0, nils := [] }
noncomputable def laws_szModule.fn : D.Fn := { body := Try.f14.body.getD .skip, res := Try.f14.results.toList, ins := [.agg [.v (.int .i64), .v (.sl 2 (.int .i64))], .one (.v (.int .i64))], outs := [.one (.v (.int .i64))] }
def laws_szModule.enc (y : lsd (flats laws_szModule.fn.outs) × lsd (ios laws_szModule.fn.ins)) : Int := y.1.1
noncomputable def laws_szModule.f (a0_0 : Int) (l0_1 : List Int) (a1 : Int) : Option Int := denF laws_szModule.E laws_szModule.fn laws_szModule.enc (a0_0, l0_1, a1, ())
set_option maxRecDepth 100000 in
theorem laws_szModule.f_eq (a0_0 : Int) (l0_1 : List Int) (a1 : Int) : laws_szModule.f a0_0 l0_1 a1 = (laws_szInt64S.f l0_1 a1).bind fun t8 => if t8 < 0 then (some (-1)) else (some t8) := by kernel_rfl
noncomputable def laws_szModule.con : Con := ⟨laws_szModule.fn.ins, laws_szModule.fn.outs, Int, fun x => laws_szModule.f x.1 x.2.1 x.2.2.1, fun r => ((r, ()), (()))⟩
theorem laws_szModule.valid : Valid Try.prog 14 laws_szModule.con := fn_valid (f := laws_szModule.fn) (E := laws_szModule.E) (enc := laws_szModule.enc) ⟨ttOk, (conCons laws_szInt64S.valid conNil)⟩ (Checked.mixed Try.checked) ⟨Try.func14, by kernel_rfl, by kernel_rfl, by kernel_rfl, by kernel_rfl, by decide, by kernel_rfl, by kernel_rfl⟩ (fun _ => rfl)
end Go.Proofs.Ytdiadcmkddkjpaa.P
set_option linter.unusedVariables false
namespace Go.Proofs.Ytdiadcmkddkjpaa.P
open Go Go.RowKit Go.Proofs.Ytdiadcmkddkjpaa.D
noncomputable def laws_toInt64S.E : Env := { tt := TT, con := [], frz := [], rows := [], live := [(3, [0, 3, 4])], n := 22, pin := 0, nils := [] }
noncomputable def laws_toInt64S.fn : D.Fn := { body := Try.f18.body.getD .skip, res := Try.f18.results.toList, ins := [.one (.v (.sl 2 (.int .i64)))], outs := [.one (.own 2 true (.int .i64))] }
def laws_toInt64S.enc (y : lsd (flats laws_toInt64S.fn.outs) × lsd (ios laws_toInt64S.fn.ins)) : (List Int) := y.1.1
noncomputable def laws_toInt64S.f (l0 : List Int) : Option (List Int) := denF laws_toInt64S.E laws_toInt64S.fn laws_toInt64S.enc (l0, ())
noncomputable def laws_toInt64S.l0 (x0 : List Int) (x4 : Int) (r0 : List Int) : Option (List Int) := denAt laws_toInt64S.E laws_toInt64S.fn laws_toInt64S.enc [1, 1, 0, 1, 0] { fr := [(0, .lf (.sl (.int .i64) x0)), (3, .lf (.own 0)), (4, .lf (.int .i64 x4))], ob := [(0, .row 2 true (.int .i64) r0)], nx := 1 }
set_option maxRecDepth 100000 in
theorem laws_toInt64S.f_eq (l0 : List Int) : laws_toInt64S.f l0 = if (l0.length : Int) = (l0.length : Int) then (if 0 ≤ (l0.length : Int) then (if ((l0.length : Int) : Int).toNat ≤ 17592186044416 then (laws_toInt64S.l0 l0 0 (List.replicate ((l0.length : Int) : Int).toNat 0)) else none) else none) else none := by kernel_rfl
set_option maxRecDepth 100000 in
theorem laws_toInt64S.l0_eq (x0 : List Int) (x4 : Int) (r0 : List Int) : laws_toInt64S.l0 x0 x4 r0 = if x4 < (x0.length : Int) then (if 0 ≤ x4 then (if x4 < (x0.length : Int) then (if 0 ≤ x4 then (if x4 < (r0.length : Int) then (if 0 ≤ x4 then (if x4 < (r0.length : Int) then (laws_toInt64S.l0 x0 (wrapI (x4 + 1)) (r0.set (x4 : Int).toNat (rd x0 x4))) else none) else none) else none) else none) else none) else none) else (some r0) := (loop_unfold _ _ _ _).trans (by kernel_rfl)
noncomputable def laws_toInt64S.con : Con := ⟨laws_toInt64S.fn.ins, laws_toInt64S.fn.outs, (List Int), fun x => laws_toInt64S.f x.1, fun r => ((r, ()), (()))⟩
theorem laws_toInt64S.valid : Valid Try.prog 18 laws_toInt64S.con := fn_valid (f := laws_toInt64S.fn) (E := laws_toInt64S.E) (enc := laws_toInt64S.enc) ⟨ttOk, conNil⟩ (Checked.mixed Try.checked) ⟨Try.func18, by kernel_rfl, by kernel_rfl, by kernel_rfl, by kernel_rfl, by decide, by kernel_rfl, by kernel_rfl⟩ (fun _ => rfl)
end Go.Proofs.Ytdiadcmkddkjpaa.P
set_option linter.unusedVariables false
namespace Go.Proofs.Ytdiadcmkddkjpaa.P
open Go Go.RowKit Go.Proofs.Ytdiadcmkddkjpaa.D
noncomputable def laws_toInt64SS.E : Env := { tt := TT, con := [(18, laws_toInt64S.con)], frz := [], rows := [], live := [(3, [0, 3, 4])], n := 23, pin := 0, nils := [] }
noncomputable def laws_toInt64SS.fn : D.Fn := { body := Try.f59.body.getD .skip, res := Try.f59.results.toList, ins := [.one (.v (.sl 25 (.sl 2 (.int .i64))))], outs := [.one (.own 25 true (.sl 2 (.int .i64)))] }
def laws_toInt64SS.enc (y : lsd (flats laws_toInt64SS.fn.outs) × lsd (ios laws_toInt64SS.fn.ins)) : (List (List Int)) := y.1.1
noncomputable def laws_toInt64SS.f (l0 : List (List Int)) : Option (List (List Int)) := denF laws_toInt64SS.E laws_toInt64SS.fn laws_toInt64SS.enc (l0, ())
noncomputable def laws_toInt64SS.l0 (x0 : List (List Int)) (x4 : Int) (r0 : List (List Int)) : Option (List (List Int)) := denAt laws_toInt64SS.E laws_toInt64SS.fn laws_toInt64SS.enc [1, 1, 0, 1, 0] { fr := [(0, .lf (.sl (.sl 2 (.int .i64)) x0)), (3, .lf (.own 0)), (4, .lf (.int .i64 x4))], ob := [(0, .row 25 true (.sl 2 (.int .i64)) r0)], nx := 1 }
set_option maxRecDepth 100000 in
theorem laws_toInt64SS.f_eq (l0 : List (List Int)) : laws_toInt64SS.f l0 = if (l0.length : Int) = (l0.length : Int) then (if 0 ≤ (l0.length : Int) then (if ((l0.length : Int) : Int).toNat ≤ 5864062014805 then (laws_toInt64SS.l0 l0 0 (List.replicate ((l0.length : Int) : Int).toNat ([] : List Int))) else none) else none) else none := by kernel_rfl
set_option maxRecDepth 100000 in
theorem laws_toInt64SS.l0_eq (x0 : List (List Int)) (x4 : Int) (r0 : List (List Int)) : laws_toInt64SS.l0 x0 x4 r0 = if x4 < (x0.length : Int) then (if 0 ≤ x4 then (if x4 < (x0.length : Int) then ((laws_toInt64S.f (row x0 x4)).bind fun t20 => if 0 ≤ x4 then (if x4 < (r0.length : Int) then (if 0 ≤ x4 then (if x4 < (r0.length : Int) then (laws_toInt64SS.l0 x0 (wrapI (x4 + 1)) (r0.set (x4 : Int).toNat t20)) else none) else none) else none) else none) else none) else none) else (some r0) := (loop_unfold _ _ _ _).trans (by kernel_rfl)
noncomputable def laws_toInt64SS.con : Con := ⟨laws_toInt64SS.fn.ins, laws_toInt64SS.fn.outs, (List (List Int)), fun x => laws_toInt64SS.f x.1, fun r => ((r, ()), (()))⟩
theorem laws_toInt64SS.valid : Valid Try.prog 59 laws_toInt64SS.con := fn_valid (f := laws_toInt64SS.fn) (E := laws_toInt64SS.E) (enc := laws_toInt64SS.enc) ⟨ttOk, (conCons laws_toInt64S.valid conNil)⟩ (Checked.mixed Try.checked) ⟨Try.func59, by kernel_rfl, by kernel_rfl, by kernel_rfl, by kernel_rfl, by decide, by kernel_rfl, by kernel_rfl⟩ (fun _ => rfl)
end Go.Proofs.Ytdiadcmkddkjpaa.P
set_option linter.unusedVariables false
namespace Go.Proofs.Ytdiadcmkddkjpaa.P
open Go Go.RowKit Go.Proofs.Ytdiadcmkddkjpaa.D
noncomputable def laws_toGroup.E : Env := { tt := TT, con := [(59, laws_toInt64SS.con)], frz := [], rows := [], live := [], n := 9, pin := 0, nils := [] }
noncomputable def laws_toGroup.fn : D.Fn := { body := Try.f16.body.getD .skip, res := Try.f16.results.toList, ins := [.agg [.v (.sl 25 (.sl 2 (.int .i64)))]], outs := [.agg [.own 25 true (.sl 2 (.int .i64))]] }
def laws_toGroup.enc (y : lsd (flats laws_toGroup.fn.outs) × lsd (ios laws_toGroup.fn.ins)) : (List (List Int)) := y.1.1
noncomputable def laws_toGroup.f (l0_0 : List (List Int)) : Option (List (List Int)) := denF laws_toGroup.E laws_toGroup.fn laws_toGroup.enc (l0_0, ())
set_option maxRecDepth 100000 in
theorem laws_toGroup.f_eq (l0_0 : List (List Int)) : laws_toGroup.f l0_0 = (laws_toInt64SS.f l0_0).bind fun t6 => some t6 := by kernel_rfl
noncomputable def laws_toGroup.con : Con := ⟨laws_toGroup.fn.ins, laws_toGroup.fn.outs, (List (List Int)), fun x => laws_toGroup.f x.1, fun r => ((r, ()), (()))⟩
theorem laws_toGroup.valid : Valid Try.prog 16 laws_toGroup.con := fn_valid (f := laws_toGroup.fn) (E := laws_toGroup.E) (enc := laws_toGroup.enc) ⟨ttOk, (conCons laws_toInt64SS.valid conNil)⟩ (Checked.mixed Try.checked) ⟨Try.func16, by kernel_rfl, by kernel_rfl, by kernel_rfl, by kernel_rfl, by decide, by kernel_rfl, by kernel_rfl⟩ (fun _ => rfl)
end Go.Proofs.Ytdiadcmkddkjpaa.P
set_option linter.unusedVariables false
namespace Go.Proofs.Ytdiadcmkddkjpaa.P
open Go Go.RowKit Go.Proofs.Ytdiadcmkddkjpaa.D
noncomputable def laws_toModule.E : Env := { tt := TT, con := [(18, laws_toInt64S.con)], frz := [], rows := [], live := [], n := 12, pin := 0, nils := [] }
noncomputable def laws_toModule.fn : D.Fn := { body := Try.f17.body.getD .skip, res := Try.f17.results.toList, ins := [.agg [.v (.int .i64), .v (.sl 2 (.int .i64))]], outs := [.agg [.v (.int .i64), .own 2 true (.int .i64)]] }
def laws_toModule.enc (y : lsd (flats laws_toModule.fn.outs) × lsd (ios laws_toModule.fn.ins)) : Int × (List Int) := (y.1.1, y.1.2.1)
noncomputable def laws_toModule.f (a0_0 : Int) (l0_1 : List Int) : Option (Int × (List Int)) := denF laws_toModule.E laws_toModule.fn laws_toModule.enc (a0_0, l0_1, ())
set_option maxRecDepth 100000 in
theorem laws_toModule.f_eq (a0_0 : Int) (l0_1 : List Int) : laws_toModule.f a0_0 l0_1 = (laws_toInt64S.f l0_1).bind fun t9 => some (a0_0, t9) := by kernel_rfl
noncomputable def laws_toModule.con : Con := ⟨laws_toModule.fn.ins, laws_toModule.fn.outs, Int × (List Int), fun x => laws_toModule.f x.1 x.2.1, fun r => ((r.1, r.2, ()), (()))⟩
theorem laws_toModule.valid : Valid Try.prog 17 laws_toModule.con := fn_valid (f := laws_toModule.fn) (E := laws_toModule.E) (enc := laws_toModule.enc) ⟨ttOk, (conCons laws_toInt64S.valid conNil)⟩ (Checked.mixed Try.checked) ⟨Try.func17, by kernel_rfl, by kernel_rfl, by kernel_rfl, by kernel_rfl, by decide, by kernel_rfl, by kernel_rfl⟩ (fun _ => rfl)
end Go.Proofs.Ytdiadcmkddkjpaa.P
set_option linter.unusedVariables false
namespace Go.Proofs.Ytdiadcmkddkjpaa.P
open Go Go.RowKit Go.Proofs.Ytdiadcmkddkjpaa.D
noncomputable def laws_eqInt64S.E : Env := { tt := TT, con := [], frz := [], rows := [], live := [(4, [0, 1, 5])], n := 26, pin := 0, nils := [] }
noncomputable def laws_eqInt64S.fn : D.Fn := { body := Try.f20.body.getD .skip, res := Try.f20.results.toList, ins := [.one (.v (.sl 2 (.int .i64))), .one (.v (.sl 2 (.int .i64)))], outs := [.one (.v .bool)] }
def laws_eqInt64S.enc (y : lsd (flats laws_eqInt64S.fn.outs) × lsd (ios laws_eqInt64S.fn.ins)) : Bool := y.1.1
noncomputable def laws_eqInt64S.f (l0 : List Int) (l1 : List Int) : Option Bool := denF laws_eqInt64S.E laws_eqInt64S.fn laws_eqInt64S.enc (l0, l1, ())
noncomputable def laws_eqInt64S.l0 (x0 : List Int) (x1 : List Int) (x5 : Int) : Option Bool := denAt laws_eqInt64S.E laws_eqInt64S.fn laws_eqInt64S.enc [1, 1, 0, 1, 0] { fr := [(0, .lf (.sl (.int .i64) x0)), (1, .lf (.sl (.int .i64) x1)), (5, .lf (.int .i64 x5))], ob := [], nx := 0 }
set_option maxRecDepth 100000 in
theorem laws_eqInt64S.f_eq (l0 : List Int) (l1 : List Int) : laws_eqInt64S.f l0 l1 = if (l0.length : Int) = (l1.length : Int) then (laws_eqInt64S.l0 l0 l1 0) else (some false) := by kernel_rfl
set_option maxRecDepth 100000 in
theorem laws_eqInt64S.l0_eq (x0 : List Int) (x1 : List Int) (x5 : Int) : laws_eqInt64S.l0 x0 x1 x5 = if x5 < (x0.length : Int) then (if 0 ≤ x5 then (if x5 < (x0.length : Int) then (if 0 ≤ x5 then (if x5 < (x1.length : Int) then (if (rd x0 x5) = (rd x1 x5) then (laws_eqInt64S.l0 x0 x1 (wrapI (x5 + 1))) else (some false)) else none) else none) else none) else none) else (some true) := (loop_unfold _ _ _ _).trans (by kernel_rfl)
noncomputable def laws_eqInt64S.con : Con := ⟨laws_eqInt64S.fn.ins, laws_eqInt64S.fn.outs, Bool, fun x => laws_eqInt64S.f x.1 x.2.1, fun r => ((r, ()), (()))⟩
theorem laws_eqInt64S.valid : Valid Try.prog 20 laws_eqInt64S.con := fn_valid (f := laws_eqInt64S.fn) (E := laws_eqInt64S.E) (enc := laws_eqInt64S.enc) ⟨ttOk, conNil⟩ (Checked.mixed Try.checked) ⟨Try.func20, by kernel_rfl, by kernel_rfl, by kernel_rfl, by kernel_rfl, by decide, by kernel_rfl, by kernel_rfl⟩ (fun _ => rfl)
end Go.Proofs.Ytdiadcmkddkjpaa.P
set_option linter.unusedVariables false
namespace Go.Proofs.Ytdiadcmkddkjpaa.P
open Go Go.RowKit Go.Proofs.Ytdiadcmkddkjpaa.D
noncomputable def laws_eqInt64SS.E : Env := { tt := TT, con := [(20, laws_eqInt64S.con)], frz := [], rows := [], live := [(4, [0, 1, 5])], n := 27, pin := 0, nils := [] }
noncomputable def laws_eqInt64SS.fn : D.Fn := { body := Try.f41.body.getD .skip, res := Try.f41.results.toList, ins := [.one (.v (.sl 25 (.sl 2 (.int .i64)))), .one (.v (.sl 25 (.sl 2 (.int .i64))))], outs := [.one (.v .bool)] }
def laws_eqInt64SS.enc (y : lsd (flats laws_eqInt64SS.fn.outs) × lsd (ios laws_eqInt64SS.fn.ins)) : Bool := y.1.1
noncomputable def laws_eqInt64SS.f (l0 : List (List Int)) (l1 : List (List Int)) : Option Bool := denF laws_eqInt64SS.E laws_eqInt64SS.fn laws_eqInt64SS.enc (l0, l1, ())
noncomputable def laws_eqInt64SS.l0 (x0 : List (List Int)) (x1 : List (List Int)) (x5 : Int) : Option Bool := denAt laws_eqInt64SS.E laws_eqInt64SS.fn laws_eqInt64SS.enc [1, 1, 0, 1, 0] { fr := [(0, .lf (.sl (.sl 2 (.int .i64)) x0)), (1, .lf (.sl (.sl 2 (.int .i64)) x1)), (5, .lf (.int .i64 x5))], ob := [], nx := 0 }
set_option maxRecDepth 100000 in
theorem laws_eqInt64SS.f_eq (l0 : List (List Int)) (l1 : List (List Int)) : laws_eqInt64SS.f l0 l1 = if (l0.length : Int) = (l1.length : Int) then (laws_eqInt64SS.l0 l0 l1 0) else (some false) := by kernel_rfl
set_option maxRecDepth 100000 in
theorem laws_eqInt64SS.l0_eq (x0 : List (List Int)) (x1 : List (List Int)) (x5 : Int) : laws_eqInt64SS.l0 x0 x1 x5 = if x5 < (x0.length : Int) then (if 0 ≤ x5 then (if x5 < (x0.length : Int) then (if 0 ≤ x5 then (if x5 < (x1.length : Int) then ((laws_eqInt64S.f (row x0 x5) (row x1 x5)).bind fun t25 => if t25 = true then (laws_eqInt64SS.l0 x0 x1 (wrapI (x5 + 1))) else (some false)) else none) else none) else none) else none) else (some true) := (loop_unfold _ _ _ _).trans (by kernel_rfl)
noncomputable def laws_eqInt64SS.con : Con := ⟨laws_eqInt64SS.fn.ins, laws_eqInt64SS.fn.outs, Bool, fun x => laws_eqInt64SS.f x.1 x.2.1, fun r => ((r, ()), (()))⟩
theorem laws_eqInt64SS.valid : Valid Try.prog 41 laws_eqInt64SS.con := fn_valid (f := laws_eqInt64SS.fn) (E := laws_eqInt64SS.E) (enc := laws_eqInt64SS.enc) ⟨ttOk, (conCons laws_eqInt64S.valid conNil)⟩ (Checked.mixed Try.checked) ⟨Try.func41, by kernel_rfl, by kernel_rfl, by kernel_rfl, by kernel_rfl, by decide, by kernel_rfl, by kernel_rfl⟩ (fun _ => rfl)
end Go.Proofs.Ytdiadcmkddkjpaa.P
set_option linter.unusedVariables false
namespace Go.Proofs.Ytdiadcmkddkjpaa.P
open Go Go.RowKit Go.Proofs.Ytdiadcmkddkjpaa.D
noncomputable def laws_eqGroup.E : Env := { tt := TT, con := [(41, laws_eqInt64SS.con)], frz := [], rows := [], live := [], n := 11, pin := 0, nils := [] }
noncomputable def laws_eqGroup.fn : D.Fn := { body := Try.f21.body.getD .skip, res := Try.f21.results.toList, ins := [.agg [.v (.sl 25 (.sl 2 (.int .i64)))], .agg [.v (.sl 25 (.sl 2 (.int .i64)))]], outs := [.one (.v .bool)] }
def laws_eqGroup.enc (y : lsd (flats laws_eqGroup.fn.outs) × lsd (ios laws_eqGroup.fn.ins)) : Bool := y.1.1
noncomputable def laws_eqGroup.f (l0_0 : List (List Int)) (l1_0 : List (List Int)) : Option Bool := denF laws_eqGroup.E laws_eqGroup.fn laws_eqGroup.enc (l0_0, l1_0, ())
set_option maxRecDepth 100000 in
theorem laws_eqGroup.f_eq (l0_0 : List (List Int)) (l1_0 : List (List Int)) : laws_eqGroup.f l0_0 l1_0 = (laws_eqInt64SS.f l0_0 l1_0).bind fun t9 => if t9 = true then (some true) else (some false) := by kernel_rfl
noncomputable def laws_eqGroup.con : Con := ⟨laws_eqGroup.fn.ins, laws_eqGroup.fn.outs, Bool, fun x => laws_eqGroup.f x.1 x.2.1, fun r => ((r, ()), (()))⟩
theorem laws_eqGroup.valid : Valid Try.prog 21 laws_eqGroup.con := fn_valid (f := laws_eqGroup.fn) (E := laws_eqGroup.E) (enc := laws_eqGroup.enc) ⟨ttOk, (conCons laws_eqInt64SS.valid conNil)⟩ (Checked.mixed Try.checked) ⟨Try.func21, by kernel_rfl, by kernel_rfl, by kernel_rfl, by kernel_rfl, by decide, by kernel_rfl, by kernel_rfl⟩ (fun _ => rfl)
end Go.Proofs.Ytdiadcmkddkjpaa.P
set_option linter.unusedVariables false
namespace Go.Proofs.Ytdiadcmkddkjpaa.P
open Go Go.RowKit Go.Proofs.Ytdiadcmkddkjpaa.D
noncomputable def laws_eqModule.E : Env := { tt := TT, con := [(20, laws_eqInt64S.con)], frz := [], rows := [], live := [], n := 16, pin := 0, nils := [] }
noncomputable def laws_eqModule.fn : D.Fn := { body := Try.f22.body.getD .skip, res := Try.f22.results.toList, ins := [.agg [.v (.int .i64), .v (.sl 2 (.int .i64))], .agg [.v (.int .i64), .v (.sl 2 (.int .i64))]], outs := [.one (.v .bool)] }
def laws_eqModule.enc (y : lsd (flats laws_eqModule.fn.outs) × lsd (ios laws_eqModule.fn.ins)) : Bool := y.1.1
noncomputable def laws_eqModule.f (a0_0 : Int) (l0_1 : List Int) (a1_0 : Int) (l1_1 : List Int) : Option Bool := denF laws_eqModule.E laws_eqModule.fn laws_eqModule.enc (a0_0, l0_1, a1_0, l1_1, ())
set_option maxRecDepth 100000 in
theorem laws_eqModule.f_eq (a0_0 : Int) (l0_1 : List Int) (a1_0 : Int) (l1_1 : List Int) : laws_eqModule.f a0_0 l0_1 a1_0 l1_1 = if a0_0 = a1_0 then ((laws_eqInt64S.f l0_1 l1_1).bind fun t14 => if t14 = true then (some true) else (some false)) else (some false) := by kernel_rfl
noncomputable def laws_eqModule.con : Con := ⟨laws_eqModule.fn.ins, laws_eqModule.fn.outs, Bool, fun x => laws_eqModule.f x.1 x.2.1 x.2.2.1 x.2.2.2.1, fun r => ((r, ()), (()))⟩
theorem laws_eqModule.valid : Valid Try.prog 22 laws_eqModule.con := fn_valid (f := laws_eqModule.fn) (E := laws_eqModule.E) (enc := laws_eqModule.enc) ⟨ttOk, (conCons laws_eqInt64S.valid conNil)⟩ (Checked.mixed Try.checked) ⟨Try.func22, by kernel_rfl, by kernel_rfl, by kernel_rfl, by kernel_rfl, by decide, by kernel_rfl, by kernel_rfl⟩ (fun _ => rfl)
end Go.Proofs.Ytdiadcmkddkjpaa.P
set_option linter.unusedVariables false
namespace Go.Proofs.Ytdiadcmkddkjpaa.P
open Go Go.RowKit Go.Proofs.Ytdiadcmkddkjpaa.D
noncomputable def laws_markInt64S.E : Env := { tt := TT, con := [], frz := [], rows := [], live := [(2, [0, 1, 5])], n := 19, pin := 1, nils := [] }
noncomputable def laws_markInt64S.fn : D.Fn := { body := Try.f25.body.getD .skip, res := Try.f25.results.toList, ins := [.one (.own 2 true (.int .i64)), .one (.v (.int .i64))], outs := [.one (.v (.int .i64))] }
def laws_markInt64S.enc (y : lsd (flats laws_markInt64S.fn.outs) × lsd (ios laws_markInt64S.fn.ins)) : Int × (List Int) := (y.1.1, y.2.1)
noncomputable def laws_markInt64S.f (l0 : List Int) (a1 : Int) : Option (Int × (List Int)) := denF laws_markInt64S.E laws_markInt64S.fn laws_markInt64S.enc (l0, a1, ())
noncomputable def laws_markInt64S.l0 (x1 : Int) (x5 : Int) (r0 : List Int) : Option (Int × (List Int)) := denAt laws_markInt64S.E laws_markInt64S.fn laws_markInt64S.enc [1, 0, 1, 0] { fr := [(0, .lf (.own 0)), (1, .lf (.int .i64 x1)), (5, .lf (.int .i64 x5))], ob := [(0, .row 2 true (.int .i64) r0)], nx := 1 }
set_option maxRecDepth 100000 in
theorem laws_markInt64S.f_eq (l0 : List Int) (a1 : Int) : laws_markInt64S.f l0 a1 = laws_markInt64S.l0 a1 0 l0 := by kernel_rfl
set_option maxRecDepth 100000 in
theorem laws_markInt64S.l0_eq (x1 : Int) (x5 : Int) (r0 : List Int) : laws_markInt64S.l0 x1 x5 r0 = if x5 < (r0.length : Int) then (if 0 ≤ x5 then (if x5 < (r0.length : Int) then (if 0 ≤ x5 then (if x5 < (r0.length : Int) then (laws_markInt64S.l0 (wrapI (x1 + 1)) (wrapI (x5 + 1)) (r0.set (x5 : Int).toNat x1)) else none) else none) else none) else none) else (some (x1, r0)) := (loop_unfold _ _ _ _).trans (by kernel_rfl)
noncomputable def laws_markInt64S.con : Con := ⟨laws_markInt64S.fn.ins, laws_markInt64S.fn.outs, Int × (List Int), fun x => laws_markInt64S.f x.1 x.2.1, fun r => ((r.1, ()), (r.2, ()))⟩
theorem laws_markInt64S.valid : Valid Try.prog 25 laws_markInt64S.con := fn_valid (f := laws_markInt64S.fn) (E := laws_markInt64S.E) (enc := laws_markInt64S.enc) ⟨ttOk, conNil⟩ (Checked.mixed Try.checked) ⟨Try.func25, by kernel_rfl, by kernel_rfl, by kernel_rfl, by kernel_rfl, by decide, by kernel_rfl, by kernel_rfl⟩ (fun _ => rfl)
end Go.Proofs.Ytdiadcmkddkjpaa.P
set_option linter.unusedVariables false
namespace Go.Proofs.Ytdiadcmkddkjpaa.P
open Go Go.RowKit Go.Proofs.Ytdiadcmkddkjpaa.D
noncomputable def laws_markInt64SS.E : Env := { tt := TT, con := [(25, laws_markInt64S.con)], frz := [], rows := [], live := [(2, [0, 1, 5])], n := 19, pin := 1, nils := [] }
noncomputable def laws_markInt64SS.fn : D.Fn := { body := Try.f42.body.getD .skip, res := Try.f42.results.toList, ins := [.one (.own 25 true (.sl 2 (.int .i64))), .one (.v (.int .i64))], outs := [.one (.v (.int .i64))] }
def laws_markInt64SS.enc (y : lsd (flats laws_markInt64SS.fn.outs) × lsd (ios laws_markInt64SS.fn.ins)) : Int × (List (List Int)) := (y.1.1, y.2.1)
noncomputable def laws_markInt64SS.f (l0 : List (List Int)) (a1 : Int) : Option (Int × (List (List Int))) := denF laws_markInt64SS.E laws_markInt64SS.fn laws_markInt64SS.enc (l0, a1, ())
noncomputable def laws_markInt64SS.l0 (x1 : Int) (x5 : Int) (r0 : List (List Int)) : Option (Int × (List (List Int))) := denAt laws_markInt64SS.E laws_markInt64SS.fn laws_markInt64SS.enc [1, 0, 1, 0] { fr := [(0, .lf (.own 0)), (1, .lf (.int .i64 x1)), (5, .lf (.int .i64 x5))], ob := [(0, .row 25 true (.sl 2 (.int .i64)) r0)], nx := 1 }
set_option maxRecDepth 100000 in
theorem laws_markInt64SS.f_eq (l0 : List (List Int)) (a1 : Int) : laws_markInt64SS.f l0 a1 = laws_markInt64SS.l0 a1 0 l0 := by kernel_rfl
set_option maxRecDepth 100000 in
theorem laws_markInt64SS.l0_eq (x1 : Int) (x5 : Int) (r0 : List (List Int)) : laws_markInt64SS.l0 x1 x5 r0 = if x5 < (r0.length : Int) then (if 0 ≤ x5 then (if x5 < (r0.length : Int) then (if 0 ≤ x5 then (if x5 < (r0.length : Int) then ((laws_markInt64S.f (row r0 x5) x1).bind fun t17 => laws_markInt64SS.l0 t17.1 (wrapI (x5 + 1)) (r0.set (x5 : Int).toNat t17.2)) else none) else none) else none) else none) else (some (x1, r0)) := (loop_unfold _ _ _ _).trans (by kernel_rfl)
noncomputable def laws_markInt64SS.con : Con := ⟨laws_markInt64SS.fn.ins, laws_markInt64SS.fn.outs, Int × (List (List Int)), fun x => laws_markInt64SS.f x.1 x.2.1, fun r => ((r.1, ()), (r.2, ()))⟩
theorem laws_markInt64SS.valid : Valid Try.prog 42 laws_markInt64SS.con := fn_valid (f := laws_markInt64SS.fn) (E := laws_markInt64SS.E) (enc := laws_markInt64SS.enc) ⟨ttOk, (conCons laws_markInt64S.valid conNil)⟩ (Checked.mixed Try.checked) ⟨Try.func42, by kernel_rfl, by kernel_rfl, by kernel_rfl, by kernel_rfl, by decide, by kernel_rfl, by kernel_rfl⟩ (fun _ => rfl)
end Go.Proofs.Ytdiadcmkddkjpaa.P
set_option linter.unusedVariables false
namespace Go.Proofs.Ytdiadcmkddkjpaa.P
open Go Go.RowKit Go.Proofs.Ytdiadcmkddkjpaa.D
noncomputable def laws_markGroup.E : Env := { tt := TT, con := [(42, laws_markInt64SS.con)], frz := [], rows := [], live := [], n := 10, pin := 1, nils := [] }
noncomputable def laws_markGroup.fn : D.Fn := { body := Try.f23.body.getD .skip, res := Try.f23.results.toList, ins := [.agg [.own 25 true (.sl 2 (.int .i64))], .one (.v (.int .i64))], outs := [.one (.v (.int .i64))] }
def laws_markGroup.enc (y : lsd (flats laws_markGroup.fn.outs) × lsd (ios laws_markGroup.fn.ins)) : Int × (List (List Int)) := (y.1.1, y.2.1)
noncomputable def laws_markGroup.f (l0_0 : List (List Int)) (a1 : Int) : Option (Int × (List (List Int))) := denF laws_markGroup.E laws_markGroup.fn laws_markGroup.enc (l0_0, a1, ())
set_option maxRecDepth 100000 in
theorem laws_markGroup.f_eq (l0_0 : List (List Int)) (a1 : Int) : laws_markGroup.f l0_0 a1 = (laws_markInt64SS.f l0_0 a1).bind fun t8 => some (t8.1, t8.2) := by kernel_rfl
noncomputable def laws_markGroup.con : Con := ⟨laws_markGroup.fn.ins, laws_markGroup.fn.outs, Int × (List (List Int)), fun x => laws_markGroup.f x.1 x.2.1, fun r => ((r.1, ()), (r.2, ()))⟩
theorem laws_markGroup.valid : Valid Try.prog 23 laws_markGroup.con := fn_valid (f := laws_markGroup.fn) (E := laws_markGroup.E) (enc := laws_markGroup.enc) ⟨ttOk, (conCons laws_markInt64SS.valid conNil)⟩ (Checked.mixed Try.checked) ⟨Try.func23, by kernel_rfl, by kernel_rfl, by kernel_rfl, by kernel_rfl, by decide, by kernel_rfl, by kernel_rfl⟩ (fun _ => rfl)
end Go.Proofs.Ytdiadcmkddkjpaa.P
set_option linter.unusedVariables false
namespace Go.Proofs.Ytdiadcmkddkjpaa.P
open Go Go.RowKit Go.Proofs.Ytdiadcmkddkjpaa.D
noncomputable def laws_markModule.E : Env := { tt := TT, con := [(25, laws_markInt64S.con)], frz := [], rows := [], live := [], n := 10, pin := 1, nils := [] }
noncomputable def laws_markModule.fn : D.Fn := { body := Try.f24.body.getD .skip, res := Try.f24.results.toList, ins := [.agg [.v (.int .i64), .own 2 true (.int .i64)], .one (.v (.int .i64))], outs := [.one (.v (.int .i64))] }
def laws_markModule.enc (y : lsd (flats laws_markModule.fn.outs) × lsd (ios laws_markModule.fn.ins)) : Int × (List Int) := (y.1.1, y.2.1)
noncomputable def laws_markModule.f (a0_0 : Int) (l0_1 : List Int) (a1 : Int) : Option (Int × (List Int)) := denF laws_markModule.E laws_markModule.fn laws_markModule.enc (a0_0, l0_1, a1, ())
set_option maxRecDepth 100000 in
theorem laws_markModule.f_eq (a0_0 : Int) (l0_1 : List Int) (a1 : Int) : laws_markModule.f a0_0 l0_1 a1 = (laws_markInt64S.f l0_1 a1).bind fun t8 => some (t8.1, t8.2) := by kernel_rfl
noncomputable def laws_markModule.con : Con := ⟨laws_markModule.fn.ins, laws_markModule.fn.outs, Int × (List Int), fun x => laws_markModule.f x.1 x.2.1 x.2.2.1, fun r => ((r.1, ()), (r.2, ()))⟩
theorem laws_markModule.valid : Valid Try.prog 24 laws_markModule.con := fn_valid (f := laws_markModule.fn) (E := laws_markModule.E) (enc := laws_markModule.enc) ⟨ttOk, (conCons laws_markInt64S.valid conNil)⟩ (Checked.mixed Try.checked) ⟨Try.func24, by kernel_rfl, by kernel_rfl, by kernel_rfl, by kernel_rfl, by decide, by kernel_rfl, by kernel_rfl⟩ (fun _ => rfl)
end Go.Proofs.Ytdiadcmkddkjpaa.P
set_option linter.unusedVariables false
namespace Go.Proofs.Ytdiadcmkddkjpaa.P
open Go Go.RowKit Go.Proofs.Ytdiadcmkddkjpaa.D
noncomputable def laws_heldInt64S.E : Env := { tt := TT, con := [], frz := [], rows := [], live := [(2, [0, 1, 5])], n := 21, pin := 0, nils := [] }
noncomputable def laws_heldInt64S.fn : D.Fn := { body := Try.f26.body.getD .skip, res := Try.f26.results.toList, ins := [.one (.v (.sl 2 (.int .i64))), .one (.v (.int .i64))], outs := [.one (.v (.int .i64))] }
def laws_heldInt64S.enc (y : lsd (flats laws_heldInt64S.fn.outs) × lsd (ios laws_heldInt64S.fn.ins)) : Int := y.1.1
noncomputable def laws_heldInt64S.f (l0 : List Int) (a1 : Int) : Option Int := denF laws_heldInt64S.E laws_heldInt64S.fn laws_heldInt64S.enc (l0, a1, ())
noncomputable def laws_heldInt64S.l0 (x0 : List Int) (x1 : Int) (x5 : Int) : Option Int := denAt laws_heldInt64S.E laws_heldInt64S.fn laws_heldInt64S.enc [1, 0, 1, 0] { fr := [(0, .lf (.sl (.int .i64) x0)), (1, .lf (.int .i64 x1)), (5, .lf (.int .i64 x5))], ob := [], nx := 0 }
set_option maxRecDepth 100000 in
theorem laws_heldInt64S.f_eq (l0 : List Int) (a1 : Int) : laws_heldInt64S.f l0 a1 = laws_heldInt64S.l0 l0 a1 0 := by kernel_rfl
set_option maxRecDepth 100000 in
theorem laws_heldInt64S.l0_eq (x0 : List Int) (x1 : Int) (x5 : Int) : laws_heldInt64S.l0 x0 x1 x5 = if x5 < (x0.length : Int) then (if 0 ≤ x5 then (if x5 < (x0.length : Int) then (if (rd x0 x5) = x1 then (laws_heldInt64S.l0 x0 (wrapI (x1 + 1)) (wrapI (x5 + 1))) else (some (-1))) else none) else none) else (some x1) := (loop_unfold _ _ _ _).trans (by kernel_rfl)
noncomputable def laws_heldInt64S.con : Con := ⟨laws_heldInt64S.fn.ins, laws_heldInt64S.fn.outs, Int, fun x => laws_heldInt64S.f x.1 x.2.1, fun r => ((r, ()), (()))⟩
theorem laws_heldInt64S.valid : Valid Try.prog 26 laws_heldInt64S.con := fn_valid (f := laws_heldInt64S.fn) (E := laws_heldInt64S.E) (enc := laws_heldInt64S.enc) ⟨ttOk, conNil⟩ (Checked.mixed Try.checked) ⟨Try.func26, by kernel_rfl, by kernel_rfl, by kernel_rfl, by kernel_rfl, by decide, by kernel_rfl, by kernel_rfl⟩ (fun _ => rfl)
end Go.Proofs.Ytdiadcmkddkjpaa.P
set_option linter.unusedVariables false
namespace Go.Proofs.Ytdiadcmkddkjpaa.P
open Go Go.RowKit Go.Proofs.Ytdiadcmkddkjpaa.D
noncomputable def laws_szCochain.E : Env := { tt := TT, con := [(56, laws_szInt64S.con)], frz := [], rows := [], live := [], n := 12, pin := 0, nils := [] }
noncomputable def laws_szCochain.fn : D.Fn := { body := Try.f29.body.getD .skip, res := Try.f29.results.toList, ins := [.agg [.v (.int .i64), .v (.sl 2 (.int .i64))], .one (.v (.int .i64))], outs := [.one (.v (.int .i64))] }
def laws_szCochain.enc (y : lsd (flats laws_szCochain.fn.outs) × lsd (ios laws_szCochain.fn.ins)) : Int := y.1.1
noncomputable def laws_szCochain.f (a0_0 : Int) (l0_1 : List Int) (a1 : Int) : Option Int := denF laws_szCochain.E laws_szCochain.fn laws_szCochain.enc (a0_0, l0_1, a1, ())
set_option maxRecDepth 100000 in
theorem laws_szCochain.f_eq (a0_0 : Int) (l0_1 : List Int) (a1 : Int) : laws_szCochain.f a0_0 l0_1 a1 = (laws_szInt64S.f l0_1 a1).bind fun t8 => if t8 < 0 then (some (-1)) else (some t8) := by kernel_rfl
noncomputable def laws_szCochain.con : Con := ⟨laws_szCochain.fn.ins, laws_szCochain.fn.outs, Int, fun x => laws_szCochain.f x.1 x.2.1 x.2.2.1, fun r => ((r, ()), (()))⟩
theorem laws_szCochain.valid : Valid Try.prog 29 laws_szCochain.con := fn_valid (f := laws_szCochain.fn) (E := laws_szCochain.E) (enc := laws_szCochain.enc) ⟨ttOk, (conCons laws_szInt64S.valid conNil)⟩ (Checked.mixed Try.checked) ⟨Try.func29, by kernel_rfl, by kernel_rfl, by kernel_rfl, by kernel_rfl, by decide, by kernel_rfl, by kernel_rfl⟩ (fun _ => rfl)
end Go.Proofs.Ytdiadcmkddkjpaa.P
set_option linter.unusedVariables false
namespace Go.Proofs.Ytdiadcmkddkjpaa.P
open Go Go.RowKit Go.Proofs.Ytdiadcmkddkjpaa.D
noncomputable def laws_toCochain.E : Env := { tt := TT, con := [(18, laws_toInt64S.con)], frz := [], rows := [], live := [], n := 12, pin := 0, nils := [] }
noncomputable def laws_toCochain.fn : D.Fn := { body := Try.f31.body.getD .skip, res := Try.f31.results.toList, ins := [.agg [.v (.int .i64), .v (.sl 2 (.int .i64))]], outs := [.agg [.v (.int .i64), .own 2 true (.int .i64)]] }
def laws_toCochain.enc (y : lsd (flats laws_toCochain.fn.outs) × lsd (ios laws_toCochain.fn.ins)) : Int × (List Int) := (y.1.1, y.1.2.1)
noncomputable def laws_toCochain.f (a0_0 : Int) (l0_1 : List Int) : Option (Int × (List Int)) := denF laws_toCochain.E laws_toCochain.fn laws_toCochain.enc (a0_0, l0_1, ())
set_option maxRecDepth 100000 in
theorem laws_toCochain.f_eq (a0_0 : Int) (l0_1 : List Int) : laws_toCochain.f a0_0 l0_1 = (laws_toInt64S.f l0_1).bind fun t9 => some (a0_0, t9) := by kernel_rfl
noncomputable def laws_toCochain.con : Con := ⟨laws_toCochain.fn.ins, laws_toCochain.fn.outs, Int × (List Int), fun x => laws_toCochain.f x.1 x.2.1, fun r => ((r.1, r.2, ()), (()))⟩
theorem laws_toCochain.valid : Valid Try.prog 31 laws_toCochain.con := fn_valid (f := laws_toCochain.fn) (E := laws_toCochain.E) (enc := laws_toCochain.enc) ⟨ttOk, (conCons laws_toInt64S.valid conNil)⟩ (Checked.mixed Try.checked) ⟨Try.func31, by kernel_rfl, by kernel_rfl, by kernel_rfl, by kernel_rfl, by decide, by kernel_rfl, by kernel_rfl⟩ (fun _ => rfl)
end Go.Proofs.Ytdiadcmkddkjpaa.P
set_option linter.unusedVariables false
namespace Go.Proofs.Ytdiadcmkddkjpaa.P
open Go Go.RowKit Go.Proofs.Ytdiadcmkddkjpaa.D
noncomputable def laws_eqCochain.E : Env := { tt := TT, con := [(20, laws_eqInt64S.con)], frz := [], rows := [], live := [], n := 16, pin := 0, nils := [] }
noncomputable def laws_eqCochain.fn : D.Fn := { body := Try.f33.body.getD .skip, res := Try.f33.results.toList, ins := [.agg [.v (.int .i64), .v (.sl 2 (.int .i64))], .agg [.v (.int .i64), .v (.sl 2 (.int .i64))]], outs := [.one (.v .bool)] }
def laws_eqCochain.enc (y : lsd (flats laws_eqCochain.fn.outs) × lsd (ios laws_eqCochain.fn.ins)) : Bool := y.1.1
noncomputable def laws_eqCochain.f (a0_0 : Int) (l0_1 : List Int) (a1_0 : Int) (l1_1 : List Int) : Option Bool := denF laws_eqCochain.E laws_eqCochain.fn laws_eqCochain.enc (a0_0, l0_1, a1_0, l1_1, ())
set_option maxRecDepth 100000 in
theorem laws_eqCochain.f_eq (a0_0 : Int) (l0_1 : List Int) (a1_0 : Int) (l1_1 : List Int) : laws_eqCochain.f a0_0 l0_1 a1_0 l1_1 = if a0_0 = a1_0 then ((laws_eqInt64S.f l0_1 l1_1).bind fun t14 => if t14 = true then (some true) else (some false)) else (some false) := by kernel_rfl
noncomputable def laws_eqCochain.con : Con := ⟨laws_eqCochain.fn.ins, laws_eqCochain.fn.outs, Bool, fun x => laws_eqCochain.f x.1 x.2.1 x.2.2.1 x.2.2.2.1, fun r => ((r, ()), (()))⟩
theorem laws_eqCochain.valid : Valid Try.prog 33 laws_eqCochain.con := fn_valid (f := laws_eqCochain.fn) (E := laws_eqCochain.E) (enc := laws_eqCochain.enc) ⟨ttOk, (conCons laws_eqInt64S.valid conNil)⟩ (Checked.mixed Try.checked) ⟨Try.func33, by kernel_rfl, by kernel_rfl, by kernel_rfl, by kernel_rfl, by decide, by kernel_rfl, by kernel_rfl⟩ (fun _ => rfl)
end Go.Proofs.Ytdiadcmkddkjpaa.P
set_option linter.unusedVariables false
namespace Go.Proofs.Ytdiadcmkddkjpaa.P
open Go Go.RowKit Go.Proofs.Ytdiadcmkddkjpaa.D
noncomputable def laws_markCochain.E : Env := { tt := TT, con := [(25, laws_markInt64S.con)], frz := [], rows := [], live := [], n := 10, pin := 1, nils := [] }
noncomputable def laws_markCochain.fn : D.Fn := { body := Try.f34.body.getD .skip, res := Try.f34.results.toList, ins := [.agg [.v (.int .i64), .own 2 true (.int .i64)], .one (.v (.int .i64))], outs := [.one (.v (.int .i64))] }
def laws_markCochain.enc (y : lsd (flats laws_markCochain.fn.outs) × lsd (ios laws_markCochain.fn.ins)) : Int × (List Int) := (y.1.1, y.2.1)
noncomputable def laws_markCochain.f (a0_0 : Int) (l0_1 : List Int) (a1 : Int) : Option (Int × (List Int)) := denF laws_markCochain.E laws_markCochain.fn laws_markCochain.enc (a0_0, l0_1, a1, ())
set_option maxRecDepth 100000 in
theorem laws_markCochain.f_eq (a0_0 : Int) (l0_1 : List Int) (a1 : Int) : laws_markCochain.f a0_0 l0_1 a1 = (laws_markInt64S.f l0_1 a1).bind fun t8 => some (t8.1, t8.2) := by kernel_rfl
noncomputable def laws_markCochain.con : Con := ⟨laws_markCochain.fn.ins, laws_markCochain.fn.outs, Int × (List Int), fun x => laws_markCochain.f x.1 x.2.1 x.2.2.1, fun r => ((r.1, ()), (r.2, ()))⟩
theorem laws_markCochain.valid : Valid Try.prog 34 laws_markCochain.con := fn_valid (f := laws_markCochain.fn) (E := laws_markCochain.E) (enc := laws_markCochain.enc) ⟨ttOk, (conCons laws_markInt64S.valid conNil)⟩ (Checked.mixed Try.checked) ⟨Try.func34, by kernel_rfl, by kernel_rfl, by kernel_rfl, by kernel_rfl, by decide, by kernel_rfl, by kernel_rfl⟩ (fun _ => rfl)
end Go.Proofs.Ytdiadcmkddkjpaa.P
set_option linter.unusedVariables false
namespace Go.Proofs.Ytdiadcmkddkjpaa.P
open Go Go.RowKit Go.Proofs.Ytdiadcmkddkjpaa.D
noncomputable def spec_l01N.E : Env := { tt := TT, con := [], frz := [], rows := [], live := [], n := 6, pin := 0, nils := [] }
noncomputable def spec_l01N.fn : D.Fn := { body := Try.f58.body.getD .skip, res := Try.f58.results.toList, ins := [.agg [.v (.sl 25 (.sl 2 (.int .i64)))]], outs := [.one (.v (.int .i64))] }
def spec_l01N.enc (y : lsd (flats spec_l01N.fn.outs) × lsd (ios spec_l01N.fn.ins)) : Int := y.1.1
noncomputable def spec_l01N.f (l0_0 : List (List Int)) : Option Int := denF spec_l01N.E spec_l01N.fn spec_l01N.enc (l0_0, ())
set_option maxRecDepth 100000 in
theorem spec_l01N.f_eq (l0_0 : List (List Int)) : spec_l01N.f l0_0 = some (l0_0.length : Int) := by kernel_rfl
noncomputable def spec_l01N.con : Con := ⟨spec_l01N.fn.ins, spec_l01N.fn.outs, Int, fun x => spec_l01N.f x.1, fun r => ((r, ()), (()))⟩
theorem spec_l01N.valid : Valid Try.prog 58 spec_l01N.con := fn_valid (f := spec_l01N.fn) (E := spec_l01N.E) (enc := spec_l01N.enc) ⟨ttOk, conNil⟩ (Checked.mixed Try.checked) ⟨Try.func58, by kernel_rfl, by kernel_rfl, by kernel_rfl, by kernel_rfl, by decide, by kernel_rfl, by kernel_rfl⟩ (fun _ => rfl)
end Go.Proofs.Ytdiadcmkddkjpaa.P
set_option linter.unusedVariables false
namespace Go.Proofs.Ytdiadcmkddkjpaa.P
open Go Go.RowKit Go.Proofs.Ytdiadcmkddkjpaa.D
noncomputable def spec_l01In.E : Env := { tt := TT, con := [], frz := [], rows := [], live := [], n := 15, pin := 0, nils := [] }
noncomputable def spec_l01In.fn : D.Fn := { body := Try.f97.body.getD .skip, res := Try.f97.results.toList, ins := [.one (.v (.int .i64)), .one (.v (.int .i64)), .one (.v (.int .i64))], outs := [.one (.v .bool)] }
def spec_l01In.enc (y : lsd (flats spec_l01In.fn.outs) × lsd (ios spec_l01In.fn.ins)) : Bool := y.1.1
noncomputable def spec_l01In.f (a0 : Int) (a1 : Int) (a2 : Int) : Option Bool := denF spec_l01In.E spec_l01In.fn spec_l01In.enc (a0, a1, a2, ())
set_option maxRecDepth 100000 in
theorem spec_l01In.f_eq (a0 : Int) (a1 : Int) (a2 : Int) : spec_l01In.f a0 a1 a2 = if a0 ≥ a1 then (some (decide (a0 ≤ a2))) else (some false) := by kernel_rfl
noncomputable def spec_l01In.con : Con := ⟨spec_l01In.fn.ins, spec_l01In.fn.outs, Bool, fun x => spec_l01In.f x.1 x.2.1 x.2.2.1, fun r => ((r, ()), (()))⟩
theorem spec_l01In.valid : Valid Try.prog 97 spec_l01In.con := fn_valid (f := spec_l01In.fn) (E := spec_l01In.E) (enc := spec_l01In.enc) ⟨ttOk, conNil⟩ (Checked.mixed Try.checked) ⟨Try.func97, by kernel_rfl, by kernel_rfl, by kernel_rfl, by kernel_rfl, by decide, by kernel_rfl, by kernel_rfl⟩ (fun _ => rfl)
end Go.Proofs.Ytdiadcmkddkjpaa.P
set_option linter.unusedVariables false
namespace Go.Proofs.Ytdiadcmkddkjpaa.P
open Go Go.RowKit Go.Proofs.Ytdiadcmkddkjpaa.D
noncomputable def spec_l01Is.E : Env := { tt := TT, con := [(97, spec_l01In.con)], frz := [], rows := [], live := [(5, [1, 3, 4]), (10, [1, 3, 4, 5]), (15, [1, 3, 6]), (21, [1, 3, 6, 7, 8]), (25, [1, 3, 6, 7, 8, 9])], n := 137, pin := 0, nils := [7] }
noncomputable def spec_l01Is.fn : D.Fn := { body := Try.f76.body.getD .skip, res := Try.f76.results.toList, ins := [.agg [.v (.sl 25 (.sl 2 (.int .i64)))]], outs := [.one (.v .bool)] }
def spec_l01Is.enc (y : lsd (flats spec_l01Is.fn.outs) × lsd (ios spec_l01Is.fn.ins)) : Bool := y.1.1
noncomputable def spec_l01Is.f (l0_0 : List (List Int)) : Option Bool := denF spec_l01Is.E spec_l01Is.fn spec_l01Is.enc (l0_0, ())
noncomputable def spec_l01Is.l0 (x3 : Int) (x4 : Int) (b0_0 : List (List Int)) : Option Bool := denAt spec_l01Is.E spec_l01Is.fn spec_l01Is.enc [1, 1, 1, 0, 1, 0] { fr := [(1, .lf (.box 0 0)), (3, .lf (.int .i64 x3)), (4, .lf (.int .i64 x4))], ob := [(0, .box 32 false [.sl (.sl 2 (.int .i64)) b0_0])], nx := 1 }
noncomputable def spec_l01Is.l1 (x3 : Int) (x4 : Int) (x5 : Int) (b0_0 : List (List Int)) : Option Bool := denAt spec_l01Is.E spec_l01Is.fn spec_l01Is.enc [1, 1, 1, 0, 1, 0, 0, 1, 0, 0, 1, 1, 0] { fr := [(1, .lf (.box 0 0)), (3, .lf (.int .i64 x3)), (4, .lf (.int .i64 x4)), (5, .lf (.int .i64 x5))], ob := [(0, .box 32 false [.sl (.sl 2 (.int .i64)) b0_0])], nx := 1 }
noncomputable def spec_l01Is.l2 (x3 : Int) (x6 : Int) (b0_0 : List (List Int)) : Option Bool := denAt spec_l01Is.E spec_l01Is.fn spec_l01Is.enc [1, 1, 1, 1, 0, 1, 0] { fr := [(1, .lf (.box 0 0)), (3, .lf (.int .i64 x3)), (6, .lf (.int .i64 x6))], ob := [(0, .box 32 false [.sl (.sl 2 (.int .i64)) b0_0])], nx := 1 }
noncomputable def spec_l01Is.l3 (x3 : Int) (x6 : Int) (x7 : Bool) (x8 : Int) (b0_0 : List (List Int)) : Option Bool := denAt spec_l01Is.E spec_l01Is.fn spec_l01Is.enc [1, 1, 1, 1, 0, 1, 0, 0, 1, 0, 0, 1, 1, 0, 1, 0] { fr := [(1, .lf (.box 0 0)), (3, .lf (.int .i64 x3)), (6, .lf (.int .i64 x6)), (7, .lf (boolLf x7)), (8, .lf (.int .i64 x8))], ob := [(0, .box 32 false [.sl (.sl 2 (.int .i64)) b0_0])], nx := 1 }
noncomputable def spec_l01Is.l4 (x3 : Int) (x6 : Int) (x7 : Bool) (x8 : Int) (x9 : Int) (b0_0 : List (List Int)) : Option Bool := denAt spec_l01Is.E spec_l01Is.fn spec_l01Is.enc [1, 1, 1, 1, 0, 1, 0, 0, 1, 0, 0, 1, 1, 0, 1, 0, 0, 1, 0, 0, 1, 1, 0] { fr := [(1, .lf (.box 0 0)), (3, .lf (.int .i64 x3)), (6, .lf (.int .i64 x6)), (7, .lf (boolLf x7)), (8, .lf (.int .i64 x8)), (9, .lf (.int .i64 x9))], ob := [(0, .box 32 false [.sl (.sl 2 (.int .i64)) b0_0])], nx := 1 }
set_option maxRecDepth 100000 in
theorem spec_l01Is.f_eq (l0_0 : List (List Int)) : spec_l01Is.f l0_0 = (spec_l01In.f (l0_0.length : Int) 1 8).bind fun t14 => if t14 = true then (spec_l01Is.l0 (l0_0.length : Int) 0 l0_0) else (some false) := by kernel_rfl
set_option maxRecDepth 100000 in
theorem spec_l01Is.l0_eq (x3 : Int) (x4 : Int) (b0_0 : List (List Int)) : spec_l01Is.l0 x3 x4 b0_0 = if x4 < x3 then (if 0 ≤ x4 then (if x4 < (b0_0.length : Int) then (if ((row b0_0 x4).length : Int) = x3 then (spec_l01Is.l1 x3 x4 0 b0_0) else (some false)) else none) else none) else (spec_l01Is.l2 x3 0 b0_0) := (loop_unfold _ _ _ _).trans (by kernel_rfl)
set_option maxRecDepth 100000 in
theorem spec_l01Is.l1_eq (x3 : Int) (x4 : Int) (x5 : Int) (b0_0 : List (List Int)) : spec_l01Is.l1 x3 x4 x5 b0_0 = if x5 < x3 then (if 0 ≤ x4 then (if x4 < (b0_0.length : Int) then (if 0 ≤ x5 then (if x5 < ((row b0_0 x4).length : Int) then ((spec_l01In.f (T b0_0 x4 x5) 0 (wrapI (x3 - 1))).bind fun t44 => if t44 = true then (spec_l01Is.l1 x3 x4 (wrapI (x5 + 1)) b0_0) else (some false)) else none) else none) else none) else none) else (spec_l01Is.l0 x3 (wrapI (x4 + 1)) b0_0) := (loop_unfold _ _ _ _).trans (by kernel_rfl)
set_option maxRecDepth 100000 in
theorem spec_l01Is.l2_eq (x3 : Int) (x6 : Int) (b0_0 : List (List Int)) : spec_l01Is.l2 x3 x6 b0_0 = if x6 < x3 then (if 0 < (b0_0.length : Int) then (if 0 ≤ x6 then (if x6 < ((row b0_0 0).length : Int) then (if (T b0_0 0 x6) = x6 then (if 0 ≤ x6 then (if x6 < (b0_0.length : Int) then (if 0 < ((row b0_0 x6).length : Int) then (if (T b0_0 x6 0) = x6 then (spec_l01Is.l3 x3 x6 false 0 b0_0) else (some false)) else none) else none) else none) else (some false)) else none) else none) else none) else (some true) := (loop_unfold _ _ _ _).trans (by kernel_rfl)
set_option maxRecDepth 100000 in
theorem spec_l01Is.l3_eq (x3 : Int) (x6 : Int) (x7 : Bool) (x8 : Int) (b0_0 : List (List Int)) : spec_l01Is.l3 x3 x6 x7 x8 b0_0 = if x8 < x3 then (if x7 = true then (spec_l01Is.l4 x3 x6 true x8 0 b0_0) else (if 0 ≤ x6 then (if x6 < (b0_0.length : Int) then (if 0 ≤ x8 then (if x8 < ((row b0_0 x6).length : Int) then (if (T b0_0 x6 x8) = 0 then (if 0 ≤ x8 then (if x8 < (b0_0.length : Int) then (if 0 ≤ x6 then (if x6 < ((row b0_0 x8).length : Int) then (spec_l01Is.l4 x3 x6 (decide ((T b0_0 x8 x6) = 0)) x8 0 b0_0) else none) else none) else none) else none) else (spec_l01Is.l4 x3 x6 false x8 0 b0_0)) else none) else none) else none) else none)) else (if x7 = true then (spec_l01Is.l2 x3 (wrapI (x6 + 1)) b0_0) else (some false)) := (loop_unfold _ _ _ _).trans (by kernel_rfl)
set_option maxRecDepth 100000 in
theorem spec_l01Is.l4_eq (x3 : Int) (x6 : Int) (x7 : Bool) (x8 : Int) (x9 : Int) (b0_0 : List (List Int)) : spec_l01Is.l4 x3 x6 x7 x8 x9 b0_0 = if x9 < x3 then (if 0 ≤ x6 then (if x6 < (b0_0.length : Int) then (if 0 ≤ x8 then (if x8 < ((row b0_0 x6).length : Int) then (if 0 ≤ T b0_0 x6 x8 then (if T b0_0 x6 x8 < (b0_0.length : Int) then (if 0 ≤ x9 then (if x9 < ((row b0_0 (T b0_0 x6 x8)).length : Int) then (if 0 ≤ x6 then (if x6 < (b0_0.length : Int) then (if 0 ≤ x8 then (if x8 < (b0_0.length : Int) then (if 0 ≤ x9 then (if x9 < ((row b0_0 x8).length : Int) then (if 0 ≤ T b0_0 x8 x9 then (if T b0_0 x8 x9 < ((row b0_0 x6).length : Int) then (if (T b0_0 (T b0_0 x6 x8) x9) = (T b0_0 x6 (T b0_0 x8 x9)) then (spec_l01Is.l4 x3 x6 x7 x8 (wrapI (x9 + 1)) b0_0) else (some false)) else none) else none) else none) else none) else none) else none) else none) else none) else none) else none) else none) else none) else none) else none) else none) else none) else (spec_l01Is.l3 x3 x6 x7 (wrapI (x8 + 1)) b0_0) := (loop_unfold _ _ _ _).trans (by kernel_rfl)
noncomputable def spec_l01Is.con : Con := ⟨spec_l01Is.fn.ins, spec_l01Is.fn.outs, Bool, fun x => spec_l01Is.f x.1, fun r => ((r, ()), (()))⟩
theorem spec_l01Is.valid : Valid Try.prog 76 spec_l01Is.con := fn_valid (f := spec_l01Is.fn) (E := spec_l01Is.E) (enc := spec_l01Is.enc) ⟨ttOk, (conCons spec_l01In.valid conNil)⟩ (Checked.mixed Try.checked) ⟨Try.func76, by kernel_rfl, by kernel_rfl, by kernel_rfl, by kernel_rfl, by decide, by kernel_rfl, by kernel_rfl⟩ (fun _ => rfl)
end Go.Proofs.Ytdiadcmkddkjpaa.P
set_option linter.unusedVariables false
namespace Go.Proofs.Ytdiadcmkddkjpaa.P
open Go Go.RowKit Go.Proofs.Ytdiadcmkddkjpaa.D
noncomputable def spec_l01Gcd.E : Env := { tt := TT, con := [], frz := [], rows := [], live := [(1, [0, 1])], n := 17, pin := 0, nils := [] }
noncomputable def spec_l01Gcd.fn : D.Fn := { body := Try.f143.body.getD .skip, res := Try.f143.results.toList, ins := [.one (.v (.int .i64)), .one (.v (.int .i64))], outs := [.one (.v (.int .i64))] }
def spec_l01Gcd.enc (y : lsd (flats spec_l01Gcd.fn.outs) × lsd (ios spec_l01Gcd.fn.ins)) : Int := y.1.1
noncomputable def spec_l01Gcd.f (a0 : Int) (a1 : Int) : Option Int := denF spec_l01Gcd.E spec_l01Gcd.fn spec_l01Gcd.enc (a0, a1, ())
noncomputable def spec_l01Gcd.l0 (x0 : Int) (x1 : Int) : Option Int := denAt spec_l01Gcd.E spec_l01Gcd.fn spec_l01Gcd.enc [1, 0, 0] { fr := [(0, .lf (.int .i64 x0)), (1, .lf (.int .i64 x1))], ob := [], nx := 0 }
set_option maxRecDepth 100000 in
theorem spec_l01Gcd.f_eq (a0 : Int) (a1 : Int) : spec_l01Gcd.f a0 a1 = spec_l01Gcd.l0 a0 a1 := by kernel_rfl
set_option maxRecDepth 100000 in
theorem spec_l01Gcd.l0_eq (x0 : Int) (x1 : Int) : spec_l01Gcd.l0 x0 x1 = if x1 = 0 then (some (if (wrapI (0 - x0)) > x0 then (wrapI (0 - x0)) else x0)) else (if x1 = 0 then none else (spec_l01Gcd.l0 x1 ((x0 : Int).tmod x1))) := (loop_unfold _ _ _ _).trans (by kernel_rfl)
noncomputable def spec_l01Gcd.con : Con := ⟨spec_l01Gcd.fn.ins, spec_l01Gcd.fn.outs, Int, fun x => spec_l01Gcd.f x.1 x.2.1, fun r => ((r, ()), (()))⟩
theorem spec_l01Gcd.valid : Valid Try.prog 143 spec_l01Gcd.con := fn_valid (f := spec_l01Gcd.fn) (E := spec_l01Gcd.E) (enc := spec_l01Gcd.enc) ⟨ttOk, conNil⟩ (Checked.mixed Try.checked) ⟨Try.func143, by kernel_rfl, by kernel_rfl, by kernel_rfl, by kernel_rfl, by decide, by kernel_rfl, by kernel_rfl⟩ (fun _ => rfl)
end Go.Proofs.Ytdiadcmkddkjpaa.P
set_option linter.unusedVariables false
namespace Go.Proofs.Ytdiadcmkddkjpaa.P
open Go Go.RowKit Go.Proofs.Ytdiadcmkddkjpaa.D
noncomputable def spec_l02Is.E : Env := { tt := TT, con := [(97, spec_l01In.con), (143, spec_l01Gcd.con)], frz := [], rows := [], live := [(4, [2, 3, 5]), (9, [2, 3, 6]), (12, [2, 3, 6, 7])], n := 90, pin := 0, nils := [] }
noncomputable def spec_l02Is.fn : D.Fn := { body := Try.f112.body.getD .skip, res := Try.f112.results.toList, ins := [.agg [.v (.sl 25 (.sl 2 (.int .i64)))], .agg [.v (.int .i64), .v (.sl 2 (.int .i64))]], outs := [.one (.v .bool)] }
def spec_l02Is.enc (y : lsd (flats spec_l02Is.fn.outs) × lsd (ios spec_l02Is.fn.ins)) : Bool := y.1.1
noncomputable def spec_l02Is.f (l0_0 : List (List Int)) (a1_0 : Int) (l1_1 : List Int) : Option Bool := denF spec_l02Is.E spec_l02Is.fn spec_l02Is.enc (l0_0, a1_0, l1_1, ())
noncomputable def spec_l02Is.l0 (x5 : Int) (b0_0 : List (List Int)) (b1_0 : Int) (b1_1 : List Int) : Option Bool := denAt spec_l02Is.E spec_l02Is.fn spec_l02Is.enc [1, 1, 0, 1, 0] { fr := [(2, .lf (.box 0 0)), (3, .lf (.box 1 0)), (5, .lf (.int .i64 x5))], ob := [(0, .box 32 false [.sl (.sl 2 (.int .i64)) b0_0]), (1, .box 34 false [.int .i64 b1_0, .sl (.int .i64) b1_1])], nx := 2 }
noncomputable def spec_l02Is.l1 (x6 : Int) (b0_0 : List (List Int)) (b1_0 : Int) (b1_1 : List Int) : Option Bool := denAt spec_l02Is.E spec_l02Is.fn spec_l02Is.enc [1, 1, 1, 0, 1, 0] { fr := [(2, .lf (.box 0 0)), (3, .lf (.box 1 0)), (6, .lf (.int .i64 x6))], ob := [(0, .box 32 false [.sl (.sl 2 (.int .i64)) b0_0]), (1, .box 34 false [.int .i64 b1_0, .sl (.int .i64) b1_1])], nx := 2 }
noncomputable def spec_l02Is.l2 (x6 : Int) (x7 : Int) (b0_0 : List (List Int)) (b1_0 : Int) (b1_1 : List Int) : Option Bool := denAt spec_l02Is.E spec_l02Is.fn spec_l02Is.enc [1, 1, 1, 0, 1, 0, 0, 1, 0, 0, 1, 0] { fr := [(2, .lf (.box 0 0)), (3, .lf (.box 1 0)), (6, .lf (.int .i64 x6)), (7, .lf (.int .i64 x7))], ob := [(0, .box 32 false [.sl (.sl 2 (.int .i64)) b0_0]), (1, .box 34 false [.int .i64 b1_0, .sl (.int .i64) b1_1])], nx := 2 }
set_option maxRecDepth 100000 in
theorem spec_l02Is.f_eq (l0_0 : List (List Int)) (a1_0 : Int) (l1_1 : List Int) : spec_l02Is.f l0_0 a1_0 l1_1 = (spec_l01In.f a1_0 2 12).bind fun t10 => if t10 = true then (if (l1_1.length : Int) = (l0_0.length : Int) then (spec_l02Is.l0 0 l0_0 a1_0 l1_1) else (some false)) else (some false) := by kernel_rfl
set_option maxRecDepth 100000 in
theorem spec_l02Is.l0_eq (x5 : Int) (b0_0 : List (List Int)) (b1_0 : Int) (b1_1 : List Int) : spec_l02Is.l0 x5 b0_0 b1_0 b1_1 = if x5 < (b1_1.length : Int) then (if 0 ≤ x5 then (if x5 < (b1_1.length : Int) then ((spec_l01In.f (rd b1_1 x5) 1 (wrapI (b1_0 - 1))).bind fun t36 => if t36 = true then (if 0 ≤ x5 then (if x5 < (b1_1.length : Int) then ((spec_l01Gcd.f (rd b1_1 x5) b1_0).bind fun t46 => if t46 = 1 then (spec_l02Is.l0 (wrapI (x5 + 1)) b0_0 b1_0 b1_1) else (some false)) else none) else none) else (some false)) else none) else none) else (spec_l02Is.l1 0 b0_0 b1_0 b1_1) := (loop_unfold _ _ _ _).trans (by kernel_rfl)
set_option maxRecDepth 100000 in
theorem spec_l02Is.l1_eq (x6 : Int) (b0_0 : List (List Int)) (b1_0 : Int) (b1_1 : List Int) : spec_l02Is.l1 x6 b0_0 b1_0 b1_1 = if x6 < (b1_1.length : Int) then (spec_l02Is.l2 x6 0 b0_0 b1_0 b1_1) else (some true) := (loop_unfold _ _ _ _).trans (by kernel_rfl)
set_option maxRecDepth 100000 in
theorem spec_l02Is.l2_eq (x6 : Int) (x7 : Int) (b0_0 : List (List Int)) (b1_0 : Int) (b1_1 : List Int) : spec_l02Is.l2 x6 x7 b0_0 b1_0 b1_1 = if x7 < (b1_1.length : Int) then (if 0 ≤ x6 then (if x6 < (b0_0.length : Int) then (if 0 ≤ x7 then (if x7 < ((row b0_0 x6).length : Int) then (if 0 ≤ T b0_0 x6 x7 then (if T b0_0 x6 x7 < (b1_1.length : Int) then (if 0 ≤ x6 then (if x6 < (b1_1.length : Int) then (if 0 ≤ x7 then (if x7 < (b1_1.length : Int) then (if b1_0 = 0 then none else (if (rd b1_1 (T b0_0 x6 x7)) = ((wrapI ((rd b1_1 x6) * (rd b1_1 x7)) : Int).tmod b1_0) then (spec_l02Is.l2 x6 (wrapI (x7 + 1)) b0_0 b1_0 b1_1) else (some false))) else none) else none) else none) else none) else none) else none) else none) else none) else none) else none) else (spec_l02Is.l1 (wrapI (x6 + 1)) b0_0 b1_0 b1_1) := (loop_unfold _ _ _ _).trans (by kernel_rfl)
noncomputable def spec_l02Is.con : Con := ⟨spec_l02Is.fn.ins, spec_l02Is.fn.outs, Bool, fun x => spec_l02Is.f x.1 x.2.1 x.2.2.1, fun r => ((r, ()), (()))⟩
theorem spec_l02Is.valid : Valid Try.prog 112 spec_l02Is.con := fn_valid (f := spec_l02Is.fn) (E := spec_l02Is.E) (enc := spec_l02Is.enc) ⟨ttOk, (conCons spec_l01In.valid (conCons spec_l01Gcd.valid conNil))⟩ (Checked.mixed Try.checked) ⟨Try.func112, by kernel_rfl, by kernel_rfl, by kernel_rfl, by kernel_rfl, by decide, by kernel_rfl, by kernel_rfl⟩ (fun _ => rfl)
end Go.Proofs.Ytdiadcmkddkjpaa.P
set_option linter.unusedVariables false
namespace Go.Proofs.Ytdiadcmkddkjpaa.P
open Go Go.RowKit Go.Proofs.Ytdiadcmkddkjpaa.D
noncomputable def spec_l03Cells.E : Env := { tt := TT, con := [(58, spec_l01N.con)], frz := [], rows := [], live := [(2, [1, 2, 5])], n := 16, pin := 0, nils := [] }
noncomputable def spec_l03Cells.fn : D.Fn := { body := Try.f115.body.getD .skip, res := Try.f115.results.toList, ins := [.agg [.v (.sl 25 (.sl 2 (.int .i64)))], .one (.v (.int .i64))], outs := [.one (.v (.int .i64))] }
def spec_l03Cells.enc (y : lsd (flats spec_l03Cells.fn.outs) × lsd (ios spec_l03Cells.fn.ins)) : Int := y.1.1
noncomputable def spec_l03Cells.f (l0_0 : List (List Int)) (a1 : Int) : Option Int := denF spec_l03Cells.E spec_l03Cells.fn spec_l03Cells.enc (l0_0, a1, ())
noncomputable def spec_l03Cells.l0 (x1 : Int) (x5 : Int) (b0_0 : List (List Int)) : Option Int := denAt spec_l03Cells.E spec_l03Cells.fn spec_l03Cells.enc [1, 1, 0, 0] { fr := [(1, .lf (.int .i64 x1)), (2, .lf (.box 0 0)), (5, .lf (.int .i64 x5))], ob := [(0, .box 32 false [.sl (.sl 2 (.int .i64)) b0_0])], nx := 1 }
set_option maxRecDepth 100000 in
theorem spec_l03Cells.f_eq (l0_0 : List (List Int)) (a1 : Int) : spec_l03Cells.f l0_0 a1 = spec_l03Cells.l0 a1 1 l0_0 := by kernel_rfl
set_option maxRecDepth 100000 in
theorem spec_l03Cells.l0_eq (x1 : Int) (x5 : Int) (b0_0 : List (List Int)) : spec_l03Cells.l0 x1 x5 b0_0 = if x1 > 0 then ((spec_l01N.f b0_0).bind fun t12 => spec_l03Cells.l0 (wrapI (x1 - 1)) (wrapI (x5 * (wrapI (t12 - 1)))) b0_0) else (some x5) := (loop_unfold _ _ _ _).trans (by kernel_rfl)
noncomputable def spec_l03Cells.con : Con := ⟨spec_l03Cells.fn.ins, spec_l03Cells.fn.outs, Int, fun x => spec_l03Cells.f x.1 x.2.1, fun r => ((r, ()), (()))⟩
theorem spec_l03Cells.valid : Valid Try.prog 115 spec_l03Cells.con := fn_valid (f := spec_l03Cells.fn) (E := spec_l03Cells.E) (enc := spec_l03Cells.enc) ⟨ttOk, (conCons spec_l01N.valid conNil)⟩ (Checked.mixed Try.checked) ⟨Try.func115, by kernel_rfl, by kernel_rfl, by kernel_rfl, by kernel_rfl, by decide, by kernel_rfl, by kernel_rfl⟩ (fun _ => rfl)
end Go.Proofs.Ytdiadcmkddkjpaa.P
set_option linter.unusedVariables false
namespace Go.Proofs.Ytdiadcmkddkjpaa.P
open Go Go.RowKit Go.Proofs.Ytdiadcmkddkjpaa.D
noncomputable def spec_l03Is.E : Env := { tt := TT, con := [(97, spec_l01In.con), (115, spec_l03Cells.con)], frz := [], rows := [], live := [(4, [4, 5, 7])], n := 39, pin := 0, nils := [] }
noncomputable def spec_l03Is.fn : D.Fn := { body := Try.f113.body.getD .skip, res := Try.f113.results.toList, ins := [.agg [.v (.sl 25 (.sl 2 (.int .i64)))], .agg [.v (.int .i64), .v (.sl 2 (.int .i64))], .agg [.v (.int .i64), .v (.sl 2 (.int .i64))]], outs := [.one (.v .bool)] }
def spec_l03Is.enc (y : lsd (flats spec_l03Is.fn.outs) × lsd (ios spec_l03Is.fn.ins)) : Bool := y.1.1
noncomputable def spec_l03Is.f (l0_0 : List (List Int)) (a1_0 : Int) (l1_1 : List Int) (a2_0 : Int) (l2_1 : List Int) : Option Bool := denF spec_l03Is.E spec_l03Is.fn spec_l03Is.enc (l0_0, a1_0, l1_1, a2_0, l2_1, ())
noncomputable def spec_l03Is.l0 (x7 : Int) (b0_0 : Int) (b0_1 : List Int) (b1_0 : Int) (b1_1 : List Int) : Option Bool := denAt spec_l03Is.E spec_l03Is.fn spec_l03Is.enc [1, 1, 0, 1, 0] { fr := [(4, .lf (.box 0 0)), (5, .lf (.box 1 0)), (7, .lf (.int .i64 x7))], ob := [(0, .box 34 false [.int .i64 b0_0, .sl (.int .i64) b0_1]), (1, .box 47 false [.int .i64 b1_0, .sl (.int .i64) b1_1])], nx := 2 }
set_option maxRecDepth 100000 in
theorem spec_l03Is.f_eq (l0_0 : List (List Int)) (a1_0 : Int) (l1_1 : List Int) (a2_0 : Int) (l2_1 : List Int) : spec_l03Is.f l0_0 a1_0 l1_1 a2_0 l2_1 = (spec_l01In.f a2_0 0 3).bind fun t10 => if t10 = true then ((spec_l03Cells.f l0_0 a2_0).bind fun t19 => if (l2_1.length : Int) = t19 then (spec_l03Is.l0 0 a1_0 l1_1 a2_0 l2_1) else (some false)) else (some false) := by kernel_rfl
set_option maxRecDepth 100000 in
theorem spec_l03Is.l0_eq (x7 : Int) (b0_0 : Int) (b0_1 : List Int) (b1_0 : Int) (b1_1 : List Int) : spec_l03Is.l0 x7 b0_0 b0_1 b1_0 b1_1 = if x7 < (b1_1.length : Int) then (if 0 ≤ x7 then (if x7 < (b1_1.length : Int) then ((spec_l01In.f (rd b1_1 x7) 0 (wrapI (b0_0 - 1))).bind fun t37 => if t37 = true then (spec_l03Is.l0 (wrapI (x7 + 1)) b0_0 b0_1 b1_0 b1_1) else (some false)) else none) else none) else (some true) := (loop_unfold _ _ _ _).trans (by kernel_rfl)
noncomputable def spec_l03Is.con : Con := ⟨spec_l03Is.fn.ins, spec_l03Is.fn.outs, Bool, fun x => spec_l03Is.f x.1 x.2.1 x.2.2.1 x.2.2.2.1 x.2.2.2.2.1, fun r => ((r, ()), (()))⟩
theorem spec_l03Is.valid : Valid Try.prog 113 spec_l03Is.con := fn_valid (f := spec_l03Is.fn) (E := spec_l03Is.E) (enc := spec_l03Is.enc) ⟨ttOk, (conCons spec_l01In.valid (conCons spec_l03Cells.valid conNil))⟩ (Checked.mixed Try.checked) ⟨Try.func113, by kernel_rfl, by kernel_rfl, by kernel_rfl, by kernel_rfl, by decide, by kernel_rfl, by kernel_rfl⟩ (fun _ => rfl)
end Go.Proofs.Ytdiadcmkddkjpaa.P
set_option linter.unusedVariables false
namespace Go.Proofs.Ytdiadcmkddkjpaa.P
open Go Go.RowKit Go.Proofs.Ytdiadcmkddkjpaa.D
noncomputable def spec_l03Code.E : Env := { tt := TT, con := [(76, spec_l01Is.con), (112, spec_l02Is.con), (113, spec_l03Is.con)], frz := [], rows := [], live := [(4, [2, 3, 4, 7])], n := 31, pin := 0, nils := [] }
noncomputable def spec_l03Code.fn : D.Fn := { body := Try.f63.body.getD .skip, res := Try.f63.results.toList, ins := [.agg [.v (.sl 25 (.sl 2 (.int .i64)))], .agg [.v (.int .i64), .v (.sl 2 (.int .i64))], .one (.v (.sl 47 (.pr (.int .i64) (.sl 2 (.int .i64)))))], outs := [.one (.v (.int .i64))] }
def spec_l03Code.enc (y : lsd (flats spec_l03Code.fn.outs) × lsd (ios spec_l03Code.fn.ins)) : Int := y.1.1
noncomputable def spec_l03Code.f (l0_0 : List (List Int)) (a1_0 : Int) (l1_1 : List Int) (l2 : List (Int × (List Int))) : Option Int := denF spec_l03Code.E spec_l03Code.fn spec_l03Code.enc (l0_0, a1_0, l1_1, l2, ())
noncomputable def spec_l03Code.l0 (x2 : List (Int × (List Int))) (x7 : Int) (b0_0 : List (List Int)) (b1_0 : Int) (b1_1 : List Int) : Option Int := denAt spec_l03Code.E spec_l03Code.fn spec_l03Code.enc [1, 1, 0, 1, 0] { fr := [(2, .lf (.sl (.pr (.int .i64) (.sl 2 (.int .i64))) x2)), (3, .lf (.box 0 0)), (4, .lf (.box 1 0)), (7, .lf (.int .i64 x7))], ob := [(0, .box 32 false [.sl (.sl 2 (.int .i64)) b0_0]), (1, .box 34 false [.int .i64 b1_0, .sl (.int .i64) b1_1])], nx := 2 }
set_option maxRecDepth 100000 in
theorem spec_l03Code.f_eq (l0_0 : List (List Int)) (a1_0 : Int) (l1_1 : List Int) (l2 : List (Int × (List Int))) : spec_l03Code.f l0_0 a1_0 l1_1 l2 = (spec_l01Is.f l0_0).bind fun t9 => if t9 = true then ((spec_l02Is.f l0_0 a1_0 l1_1).bind fun t14 => if t14 = true then (spec_l03Code.l0 l2 0 l0_0 a1_0 l1_1) else (some 1)) else (some 1) := by kernel_rfl
set_option maxRecDepth 100000 in
theorem spec_l03Code.l0_eq (x2 : List (Int × (List Int))) (x7 : Int) (b0_0 : List (List Int)) (b1_0 : Int) (b1_1 : List Int) : spec_l03Code.l0 x2 x7 b0_0 b1_0 b1_1 = if x7 < (x2.length : Int) then (if 0 ≤ x7 then (if x7 < (x2.length : Int) then ((spec_l03Is.f b0_0 b1_0 b1_1 ((Ty.rd (.pr (.int .i64) (.sl 2 (.int .i64))) x2 x7).1) ((Ty.rd (.pr (.int .i64) (.sl 2 (.int .i64))) x2 x7).2)).bind fun t29 => if t29 = true then (spec_l03Code.l0 x2 (wrapI (x7 + 1)) b0_0 b1_0 b1_1) else (some 1)) else none) else none) else (some 0) := (loop_unfold _ _ _ _).trans (by kernel_rfl)
noncomputable def spec_l03Code.con : Con := ⟨spec_l03Code.fn.ins, spec_l03Code.fn.outs, Int, fun x => spec_l03Code.f x.1 x.2.1 x.2.2.1 x.2.2.2.1, fun r => ((r, ()), (()))⟩
theorem spec_l03Code.valid : Valid Try.prog 63 spec_l03Code.con := fn_valid (f := spec_l03Code.fn) (E := spec_l03Code.E) (enc := spec_l03Code.enc) ⟨ttOk, (conCons spec_l01Is.valid (conCons spec_l02Is.valid (conCons spec_l03Is.valid conNil)))⟩ (Checked.mixed Try.checked) ⟨Try.func63, by kernel_rfl, by kernel_rfl, by kernel_rfl, by kernel_rfl, by decide, by kernel_rfl, by kernel_rfl⟩ (fun _ => rfl)
end Go.Proofs.Ytdiadcmkddkjpaa.P
set_option linter.unusedVariables false
namespace Go.Proofs.Ytdiadcmkddkjpaa.P
open Go Go.RowKit Go.Proofs.Ytdiadcmkddkjpaa.D
noncomputable def spec_l03List.E : Env := { tt := TT, con := [(58, spec_l01N.con)], frz := [], rows := [], live := [(3, [2, 7, 8, 9])], n := 32, pin := 0, nils := [] }
noncomputable def spec_l03List.fn : D.Fn := { body := Try.f116.body.getD .skip, res := Try.f116.results.toList, ins := [.agg [.v (.sl 25 (.sl 2 (.int .i64)))], .one (.v (.int .i64)), .one (.v (.int .i64))], outs := [.one (.own 2 true (.int .i64))] }
def spec_l03List.enc (y : lsd (flats spec_l03List.fn.outs) × lsd (ios spec_l03List.fn.ins)) : (List Int) := y.1.1
noncomputable def spec_l03List.f (l0_0 : List (List Int)) (a1 : Int) (a2 : Int) : Option (List Int) := denF spec_l03List.E spec_l03List.fn spec_l03List.enc (l0_0, a1, a2, ())
noncomputable def spec_l03List.l0 (x2 : Int) (x8 : Int) (x9 : Int) (r0 : List Int) : Option (List Int) := denAt spec_l03List.E spec_l03List.fn spec_l03List.enc [1, 1, 0, 1, 0] { fr := [(2, .lf (.int .i64 x2)), (7, .lf (.own 0)), (8, .lf (.int .i64 x8)), (9, .lf (.int .i64 x9))], ob := [(0, .row 2 true (.int .i64) r0)], nx := 1 }
set_option maxRecDepth 100000 in
theorem spec_l03List.f_eq (l0_0 : List (List Int)) (a1 : Int) (a2 : Int) : spec_l03List.f l0_0 a1 a2 = if a1 = a1 then (if 0 ≤ a1 then (if (a1 : Int).toNat ≤ 17592186044416 then ((spec_l01N.f l0_0).bind fun t13 => spec_l03List.l0 a2 (wrapI (t13 - 1)) (wrapI (a1 - 1)) (List.replicate (a1 : Int).toNat 0)) else none) else none) else none := by kernel_rfl
set_option maxRecDepth 100000 in
theorem spec_l03List.l0_eq (x2 : Int) (x8 : Int) (x9 : Int) (r0 : List Int) : spec_l03List.l0 x2 x8 x9 r0 = if x9 ≥ 0 then (if x8 = 0 then none else (if 0 ≤ x9 then (if x9 < (r0.length : Int) then (if 0 ≤ x9 then (if x9 < (r0.length : Int) then (if x8 = 0 then none else (spec_l03List.l0 (wrapI ((x2 : Int).tdiv x8)) x8 (wrapI (x9 - 1)) (r0.set (x9 : Int).toNat (wrapI (((x2 : Int).tmod x8) + 1))))) else none) else none) else none) else none)) else (some r0) := (loop_unfold _ _ _ _).trans (by kernel_rfl)
noncomputable def spec_l03List.con : Con := ⟨spec_l03List.fn.ins, spec_l03List.fn.outs, (List Int), fun x => spec_l03List.f x.1 x.2.1 x.2.2.1, fun r => ((r, ()), (()))⟩
theorem spec_l03List.valid : Valid Try.prog 116 spec_l03List.con := fn_valid (f := spec_l03List.fn) (E := spec_l03List.E) (enc := spec_l03List.enc) ⟨ttOk, (conCons spec_l01N.valid conNil)⟩ (Checked.mixed Try.checked) ⟨Try.func116, by kernel_rfl, by kernel_rfl, by kernel_rfl, by kernel_rfl, by decide, by kernel_rfl, by kernel_rfl⟩ (fun _ => rfl)
end Go.Proofs.Ytdiadcmkddkjpaa.P
set_option linter.unusedVariables false
namespace Go.Proofs.Ytdiadcmkddkjpaa.P
open Go Go.RowKit Go.Proofs.Ytdiadcmkddkjpaa.D
noncomputable def spec_l01Mod.E : Env := { tt := TT, con := [], frz := [], rows := [], live := [], n := 12, pin := 0, nils := [] }
noncomputable def spec_l01Mod.fn : D.Fn := { body := Try.f100.body.getD .skip, res := Try.f100.results.toList, ins := [.one (.v (.int .i64)), .one (.v (.int .i64))], outs := [.one (.v (.int .i64))] }
def spec_l01Mod.enc (y : lsd (flats spec_l01Mod.fn.outs) × lsd (ios spec_l01Mod.fn.ins)) : Int := y.1.1
noncomputable def spec_l01Mod.f (a0 : Int) (a1 : Int) : Option Int := denF spec_l01Mod.E spec_l01Mod.fn spec_l01Mod.enc (a0, a1, ())
set_option maxRecDepth 100000 in
theorem spec_l01Mod.f_eq (a0 : Int) (a1 : Int) : spec_l01Mod.f a0 a1 = if a1 = 0 then none else (if a1 = 0 then none else (some ((wrapI (((a0 : Int).tmod a1) + a1) : Int).tmod a1))) := by kernel_rfl
noncomputable def spec_l01Mod.con : Con := ⟨spec_l01Mod.fn.ins, spec_l01Mod.fn.outs, Int, fun x => spec_l01Mod.f x.1 x.2.1, fun r => ((r, ()), (()))⟩
theorem spec_l01Mod.valid : Valid Try.prog 100 spec_l01Mod.con := fn_valid (f := spec_l01Mod.fn) (E := spec_l01Mod.E) (enc := spec_l01Mod.enc) ⟨ttOk, conNil⟩ (Checked.mixed Try.checked) ⟨Try.func100, by kernel_rfl, by kernel_rfl, by kernel_rfl, by kernel_rfl, by decide, by kernel_rfl, by kernel_rfl⟩ (fun _ => rfl)
end Go.Proofs.Ytdiadcmkddkjpaa.P
set_option linter.unusedVariables false
namespace Go.Proofs.Ytdiadcmkddkjpaa.P
open Go Go.RowKit Go.Proofs.Ytdiadcmkddkjpaa.D
noncomputable def spec_l03At.E : Env := { tt := TT, con := [(58, spec_l01N.con)], frz := [], rows := [], live := [(3, [2, 3, 4, 7, 8])], n := 36, pin := 0, nils := [] }
noncomputable def spec_l03At.fn : D.Fn := { body := Try.f117.body.getD .skip, res := Try.f117.results.toList, ins := [.agg [.v (.sl 25 (.sl 2 (.int .i64)))], .agg [.v (.int .i64), .v (.sl 2 (.int .i64))], .one (.v (.sl 2 (.int .i64)))], outs := [.one (.v (.int .i64))] }
def spec_l03At.enc (y : lsd (flats spec_l03At.fn.outs) × lsd (ios spec_l03At.fn.ins)) : Int := y.1.1
noncomputable def spec_l03At.f (l0_0 : List (List Int)) (a1_0 : Int) (l1_1 : List Int) (l2 : List Int) : Option Int := denF spec_l03At.E spec_l03At.fn spec_l03At.enc (l0_0, a1_0, l1_1, l2, ())
noncomputable def spec_l03At.l0 (x2 : List Int) (x7 : Int) (x8 : Int) (b0_0 : List (List Int)) (b1_0 : Int) (b1_1 : List Int) : Option Int := denAt spec_l03At.E spec_l03At.fn spec_l03At.enc [1, 1, 0, 1, 0] { fr := [(2, .lf (.sl (.int .i64) x2)), (3, .lf (.box 0 0)), (4, .lf (.box 1 0)), (7, .lf (.int .i64 x7)), (8, .lf (.int .i64 x8))], ob := [(0, .box 32 false [.sl (.sl 2 (.int .i64)) b0_0]), (1, .box 47 false [.int .i64 b1_0, .sl (.int .i64) b1_1])], nx := 2 }
set_option maxRecDepth 100000 in
theorem spec_l03At.f_eq (l0_0 : List (List Int)) (a1_0 : Int) (l1_1 : List Int) (l2 : List Int) : spec_l03At.f l0_0 a1_0 l1_1 l2 = spec_l03At.l0 l2 0 0 l0_0 a1_0 l1_1 := by kernel_rfl
set_option maxRecDepth 100000 in
theorem spec_l03At.l0_eq (x2 : List Int) (x7 : Int) (x8 : Int) (b0_0 : List (List Int)) (b1_0 : Int) (b1_1 : List Int) : spec_l03At.l0 x2 x7 x8 b0_0 b1_0 b1_1 = if x8 < (x2.length : Int) then (if 0 ≤ x8 then (if x8 < (x2.length : Int) then (if (rd x2 x8) = 0 then (some 0) else ((spec_l01N.f b0_0).bind fun t22 => if 0 ≤ x8 then (if x8 < (x2.length : Int) then (spec_l03At.l0 x2 (wrapI ((wrapI ((wrapI (x7 * (wrapI (t22 - 1)))) + (rd x2 x8))) - 1)) (wrapI (x8 + 1)) b0_0 b1_0 b1_1) else none) else none)) else none) else none) else (if 0 ≤ x7 then (if x7 < (b1_1.length : Int) then (some (rd b1_1 x7)) else none) else none) := (loop_unfold _ _ _ _).trans (by kernel_rfl)
noncomputable def spec_l03At.con : Con := ⟨spec_l03At.fn.ins, spec_l03At.fn.outs, Int, fun x => spec_l03At.f x.1 x.2.1 x.2.2.1 x.2.2.2.1, fun r => ((r, ()), (()))⟩
theorem spec_l03At.valid : Valid Try.prog 117 spec_l03At.con := fn_valid (f := spec_l03At.fn) (E := spec_l03At.E) (enc := spec_l03At.enc) ⟨ttOk, (conCons spec_l01N.valid conNil)⟩ (Checked.mixed Try.checked) ⟨Try.func117, by kernel_rfl, by kernel_rfl, by kernel_rfl, by kernel_rfl, by decide, by kernel_rfl, by kernel_rfl⟩ (fun _ => rfl)
end Go.Proofs.Ytdiadcmkddkjpaa.P
set_option linter.unusedVariables false
namespace Go.Proofs.Ytdiadcmkddkjpaa.P
open Go Go.RowKit Go.Proofs.Ytdiadcmkddkjpaa.D
noncomputable def spec_l01Own.E : Env := { tt := TT, con := [], frz := [], rows := [], live := [], n := 6, pin := 0, nils := [] }
noncomputable def spec_l01Own.fn : D.Fn := { body := Try.f163.body.getD .skip, res := Try.f163.results.toList, ins := [.one (.v (.sl 2 (.int .i64)))], outs := [.one (.own 2 true (.int .i64))] }
def spec_l01Own.enc (y : lsd (flats spec_l01Own.fn.outs) × lsd (ios spec_l01Own.fn.ins)) : (List Int) := y.1.1
noncomputable def spec_l01Own.f (l0 : List Int) : Option (List Int) := denF spec_l01Own.E spec_l01Own.fn spec_l01Own.enc (l0, ())
set_option maxRecDepth 100000 in
theorem spec_l01Own.f_eq (l0 : List Int) : spec_l01Own.f l0 = if ([] : List Int).length + l0.length ≤ 17592186044416 then (some (([] : List Int) ++ l0)) else none := by kernel_rfl
noncomputable def spec_l01Own.con : Con := ⟨spec_l01Own.fn.ins, spec_l01Own.fn.outs, (List Int), fun x => spec_l01Own.f x.1, fun r => ((r, ()), (()))⟩
theorem spec_l01Own.valid : Valid Try.prog 163 spec_l01Own.con := fn_valid (f := spec_l01Own.fn) (E := spec_l01Own.E) (enc := spec_l01Own.enc) ⟨ttOk, conNil⟩ (Checked.mixed Try.checked) ⟨Try.func163, by kernel_rfl, by kernel_rfl, by kernel_rfl, by kernel_rfl, by decide, by kernel_rfl, by kernel_rfl⟩ (fun _ => rfl)
end Go.Proofs.Ytdiadcmkddkjpaa.P
set_option linter.unusedVariables false
namespace Go.Proofs.Ytdiadcmkddkjpaa.P
open Go Go.RowKit Go.Proofs.Ytdiadcmkddkjpaa.D
noncomputable def spec_l03Side.E : Env := { tt := TT, con := [(117, spec_l03At.con), (163, spec_l01Own.con), (100, spec_l01Mod.con)], frz := [], rows := [], live := [(4, [3, 4, 5, 6, 9, 10, 11, 12])], n := 85, pin := 0, nils := [] }
noncomputable def spec_l03Side.fn : D.Fn := { body := Try.f149.body.getD .skip, res := Try.f149.results.toList, ins := [.agg [.v (.sl 25 (.sl 2 (.int .i64)))], .agg [.v (.int .i64), .v (.sl 2 (.int .i64))], .agg [.v (.int .i64), .v (.sl 2 (.int .i64))], .one (.v (.sl 2 (.int .i64)))], outs := [.one (.v (.int .i64))] }
def spec_l03Side.enc (y : lsd (flats spec_l03Side.fn.outs) × lsd (ios spec_l03Side.fn.ins)) : Int := y.1.1
noncomputable def spec_l03Side.f (l0_0 : List (List Int)) (a1_0 : Int) (l1_1 : List Int) (a2_0 : Int) (l2_1 : List Int) (l3 : List Int) : Option Int := denF spec_l03Side.E spec_l03Side.fn spec_l03Side.enc (l0_0, a1_0, l1_1, a2_0, l2_1, l3, ())
noncomputable def spec_l03Side.l0 (x3 : List Int) (x9 : Int) (x10 : Int) (x11 : Int) (x12 : Int) (b0_0 : List (List Int)) (b1_0 : Int) (b1_1 : List Int) (b2_0 : Int) (b2_1 : List Int) : Option Int := denAt spec_l03Side.E spec_l03Side.fn spec_l03Side.enc [1, 1, 1, 0, 1, 0] { fr := [(3, .lf (.sl (.int .i64) x3)), (4, .lf (.box 0 0)), (5, .lf (.box 1 0)), (6, .lf (.box 2 0)), (9, .lf (.int .i64 x9)), (10, .lf (.int .i64 x10)), (11, .lf (.int .i64 x11)), (12, .lf (.int .i64 x12))], ob := [(0, .box 32 false [.sl (.sl 2 (.int .i64)) b0_0]), (1, .box 34 false [.int .i64 b1_0, .sl (.int .i64) b1_1]), (2, .box 47 false [.int .i64 b2_0, .sl (.int .i64) b2_1])], nx := 3 }
set_option maxRecDepth 100000 in
theorem spec_l03Side.f_eq (l0_0 : List (List Int)) (a1_0 : Int) (l1_1 : List Int) (a2_0 : Int) (l2_1 : List Int) (l3 : List Int) : spec_l03Side.f l0_0 a1_0 l1_1 a2_0 l2_1 l3 = if 0 < (l3.length : Int) then (if 0 ≤ rd l3 0 then (if rd l3 0 < (l1_1.length : Int) then (if 1 ≤ (l3.length : Int) then ((spec_l03At.f l0_0 a2_0 l2_1 (l3.drop (1 : Int).toNat)).bind fun t28 => spec_l03Side.l0 l3 (wrapI ((l3.length : Int) - 1)) (wrapI ((rd l1_1 (rd l3 0)) * t28)) (-1) 0 l0_0 a1_0 l1_1 a2_0 l2_1) else none) else none) else none) else none := by kernel_rfl
set_option maxRecDepth 100000 in
theorem spec_l03Side.l0_eq (x3 : List Int) (x9 : Int) (x10 : Int) (x11 : Int) (x12 : Int) (b0_0 : List (List Int)) (b1_0 : Int) (b1_1 : List Int) (b2_0 : Int) (b2_1 : List Int) : spec_l03Side.l0 x3 x9 x10 x11 x12 b0_0 b1_0 b1_1 b2_0 b2_1 = if x12 < x9 then (if 0 ≤ x12 then (if x12 ≤ (x3.length : Int) then ((spec_l01Own.f (x3.take (x12 : Int).toNat)).bind fun t38 => if 0 ≤ x12 then (if x12 < (x3.length : Int) then (if 0 ≤ rd x3 x12 then (if rd x3 x12 < (b0_0.length : Int) then (if 0 ≤ wrapI (x12 + 1) then (if wrapI (x12 + 1) < (x3.length : Int) then (if 0 ≤ rd x3 (wrapI (x12 + 1)) then (if rd x3 (wrapI (x12 + 1)) < ((row b0_0 (rd x3 x12)).length : Int) then (if t38.length + ([T b0_0 (rd x3 x12) (rd x3 (wrapI (x12 + 1)))] : List Int).length ≤ 17592186044416 then (if 0 ≤ wrapI (x12 + 2) then (if wrapI (x12 + 2) ≤ (x3.length : Int) then (if (t38 ++ ([T b0_0 (rd x3 x12) (rd x3 (wrapI (x12 + 1)))] : List Int)).length + (x3.drop (wrapI (x12 + 2) : Int).toNat).length ≤ 17592186044416 then ((spec_l03At.f b0_0 b2_0 b2_1 ((t38 ++ ([T b0_0 (rd x3 x12) (rd x3 (wrapI (x12 + 1)))] : List Int)) ++ (x3.drop (wrapI (x12 + 2) : Int).toNat))).bind fun t67 => spec_l03Side.l0 x3 x9 (wrapI (x10 + (wrapI (x11 * t67)))) (wrapI (0 - x11)) (wrapI (x12 + 1)) b0_0 b1_0 b1_1 b2_0 b2_1) else none) else none) else none) else none) else none) else none) else none) else none) else none) else none) else none) else none) else none) else none) else (if 0 ≤ x9 then (if x9 ≤ (x3.length : Int) then ((spec_l03At.f b0_0 b2_0 b2_1 (x3.take (x9 : Int).toNat)).bind fun t79 => (spec_l01Mod.f (wrapI (x10 + (wrapI (x11 * t79)))) b1_0).bind fun t84 => some t84) else none) else none) := (loop_unfold _ _ _ _).trans (by kernel_rfl)
noncomputable def spec_l03Side.con : Con := ⟨spec_l03Side.fn.ins, spec_l03Side.fn.outs, Int, fun x => spec_l03Side.f x.1 x.2.1 x.2.2.1 x.2.2.2.1 x.2.2.2.2.1 x.2.2.2.2.2.1, fun r => ((r, ()), (()))⟩
theorem spec_l03Side.valid : Valid Try.prog 149 spec_l03Side.con := fn_valid (f := spec_l03Side.fn) (E := spec_l03Side.E) (enc := spec_l03Side.enc) ⟨ttOk, (conCons spec_l03At.valid (conCons spec_l01Own.valid (conCons spec_l01Mod.valid conNil)))⟩ (Checked.mixed Try.checked) ⟨Try.func149, by kernel_rfl, by kernel_rfl, by kernel_rfl, by kernel_rfl, by decide, by kernel_rfl, by kernel_rfl⟩ (fun _ => rfl)
end Go.Proofs.Ytdiadcmkddkjpaa.P
set_option linter.unusedVariables false
namespace Go.Proofs.Ytdiadcmkddkjpaa.P
open Go Go.RowKit Go.Proofs.Ytdiadcmkddkjpaa.D
noncomputable def spec_l03Cocycle.E : Env := { tt := TT, con := [(115, spec_l03Cells.con), (116, spec_l03List.con), (149, spec_l03Side.con)], frz := [], rows := [], live := [(2, [3, 4, 5, 7])], n := 28, pin := 0, nils := [] }
noncomputable def spec_l03Cocycle.fn : D.Fn := { body := Try.f129.body.getD .skip, res := Try.f129.results.toList, ins := [.agg [.v (.sl 25 (.sl 2 (.int .i64)))], .agg [.v (.int .i64), .v (.sl 2 (.int .i64))], .agg [.v (.int .i64), .v (.sl 2 (.int .i64))]], outs := [.one (.v .bool)] }
def spec_l03Cocycle.enc (y : lsd (flats spec_l03Cocycle.fn.outs) × lsd (ios spec_l03Cocycle.fn.ins)) : Bool := y.1.1
noncomputable def spec_l03Cocycle.f (l0_0 : List (List Int)) (a1_0 : Int) (l1_1 : List Int) (a2_0 : Int) (l2_1 : List Int) : Option Bool := denF spec_l03Cocycle.E spec_l03Cocycle.fn spec_l03Cocycle.enc (l0_0, a1_0, l1_1, a2_0, l2_1, ())
noncomputable def spec_l03Cocycle.l0 (x7 : Int) (b0_0 : List (List Int)) (b1_0 : Int) (b1_1 : List Int) (b2_0 : Int) (b2_1 : List Int) : Option Bool := denAt spec_l03Cocycle.E spec_l03Cocycle.fn spec_l03Cocycle.enc [1, 0, 1, 0] { fr := [(3, .lf (.box 0 0)), (4, .lf (.box 1 0)), (5, .lf (.box 2 0)), (7, .lf (.int .i64 x7))], ob := [(0, .box 32 false [.sl (.sl 2 (.int .i64)) b0_0]), (1, .box 34 false [.int .i64 b1_0, .sl (.int .i64) b1_1]), (2, .box 47 false [.int .i64 b2_0, .sl (.int .i64) b2_1])], nx := 3 }
set_option maxRecDepth 100000 in
theorem spec_l03Cocycle.f_eq (l0_0 : List (List Int)) (a1_0 : Int) (l1_1 : List Int) (a2_0 : Int) (l2_1 : List Int) : spec_l03Cocycle.f l0_0 a1_0 l1_1 a2_0 l2_1 = spec_l03Cocycle.l0 0 l0_0 a1_0 l1_1 a2_0 l2_1 := by kernel_rfl
set_option maxRecDepth 100000 in
theorem spec_l03Cocycle.l0_eq (x7 : Int) (b0_0 : List (List Int)) (b1_0 : Int) (b1_1 : List Int) (b2_0 : Int) (b2_1 : List Int) : spec_l03Cocycle.l0 x7 b0_0 b1_0 b1_1 b2_0 b2_1 = (spec_l03Cells.f b0_0 (wrapI (b2_0 + 1))).bind fun t13 => if x7 < t13 then ((spec_l03List.f b0_0 (wrapI (b2_0 + 1)) x7).bind fun t25 => (spec_l03Side.f b0_0 b1_0 b1_1 b2_0 b2_1 t25).bind fun t26 => if t26 = 0 then (spec_l03Cocycle.l0 (wrapI (x7 + 1)) b0_0 b1_0 b1_1 b2_0 b2_1) else (some false)) else (some true) := (loop_unfold _ _ _ _).trans (by kernel_rfl)
noncomputable def spec_l03Cocycle.con : Con := ⟨spec_l03Cocycle.fn.ins, spec_l03Cocycle.fn.outs, Bool, fun x => spec_l03Cocycle.f x.1 x.2.1 x.2.2.1 x.2.2.2.1 x.2.2.2.2.1, fun r => ((r, ()), (()))⟩
theorem spec_l03Cocycle.valid : Valid Try.prog 129 spec_l03Cocycle.con := fn_valid (f := spec_l03Cocycle.fn) (E := spec_l03Cocycle.E) (enc := spec_l03Cocycle.enc) ⟨ttOk, (conCons spec_l03Cells.valid (conCons spec_l03List.valid (conCons spec_l03Side.valid conNil)))⟩ (Checked.mixed Try.checked) ⟨Try.func129, by kernel_rfl, by kernel_rfl, by kernel_rfl, by kernel_rfl, by decide, by kernel_rfl, by kernel_rfl⟩ (fun _ => rfl)
end Go.Proofs.Ytdiadcmkddkjpaa.P
set_option linter.unusedVariables false
namespace Go.Proofs.Ytdiadcmkddkjpaa.P
open Go Go.RowKit Go.Proofs.Ytdiadcmkddkjpaa.D
noncomputable def spec_l06Given.E : Env := { tt := TT, con := [(63, spec_l03Code.con), (58, spec_l01N.con), (129, spec_l03Cocycle.con)], frz := [], rows := [13], live := [], n := 36, pin := 0, nils := [] }
noncomputable def spec_l06Given.fn : D.Fn := { body := Try.f85.body.getD .skip, res := Try.f85.results.toList, ins := [.agg [.v (.sl 25 (.sl 2 (.int .i64)))], .agg [.v (.int .i64), .v (.sl 2 (.int .i64))], .agg [.v (.int .i64), .v (.sl 2 (.int .i64))], .one (.v (.int .i64))], outs := [.one (.v (.int .i64))] }
def spec_l06Given.enc (y : lsd (flats spec_l06Given.fn.outs) × lsd (ios spec_l06Given.fn.ins)) : Int := y.1.1
noncomputable def spec_l06Given.f (l0_0 : List (List Int)) (a1_0 : Int) (l1_1 : List Int) (a2_0 : Int) (l2_1 : List Int) (a3 : Int) : Option Int := denF spec_l06Given.E spec_l06Given.fn spec_l06Given.enc (l0_0, a1_0, l1_1, a2_0, l2_1, a3, ())
set_option maxRecDepth 100000 in
theorem spec_l06Given.f_eq (l0_0 : List (List Int)) (a1_0 : Int) (l1_1 : List Int) (a2_0 : Int) (l2_1 : List Int) (a3 : Int) : spec_l06Given.f l0_0 a1_0 l1_1 a2_0 l2_1 a3 = (spec_l03Code.f l0_0 a1_0 l1_1 ([(a2_0, l2_1)] : List (Int × (List Int)))).bind fun t14 => if t14 = 0 then (if a2_0 = 2 then ((spec_l01N.f l0_0).bind fun t24 => if (wrapI (t24 * a1_0)) > a3 then (some 3) else ((spec_l03Cocycle.f l0_0 a1_0 l1_1 a2_0 l2_1).bind fun t34 => if t34 = true then (some 0) else (some 5))) else (some 2)) else (some t14) := by kernel_rfl
noncomputable def spec_l06Given.con : Con := ⟨spec_l06Given.fn.ins, spec_l06Given.fn.outs, Int, fun x => spec_l06Given.f x.1 x.2.1 x.2.2.1 x.2.2.2.1 x.2.2.2.2.1 x.2.2.2.2.2.1, fun r => ((r, ()), (()))⟩
theorem spec_l06Given.valid : Valid Try.prog 85 spec_l06Given.con := fn_valid (f := spec_l06Given.fn) (E := spec_l06Given.E) (enc := spec_l06Given.enc) ⟨ttOk, (conCons spec_l03Code.valid (conCons spec_l01N.valid (conCons spec_l03Cocycle.valid conNil)))⟩ (Checked.mixed Try.checked) ⟨Try.func85, by kernel_rfl, by kernel_rfl, by kernel_rfl, by kernel_rfl, by decide, by kernel_rfl, by kernel_rfl⟩ (fun _ => rfl)
end Go.Proofs.Ytdiadcmkddkjpaa.P
set_option linter.unusedVariables false
namespace Go.Proofs.Ytdiadcmkddkjpaa.P
open Go Go.RowKit Go.Proofs.Ytdiadcmkddkjpaa.D
noncomputable def spec_l06Table.E : Env := { tt := TT, con := [(58, spec_l01N.con), (117, spec_l03At.con)], frz := [], rows := [], live := [(3, [3, 4, 5, 7, 8, 9]), (7, [3, 4, 5, 7, 8, 9, 10, 11])], n := 86, pin := 0, nils := [] }
noncomputable def spec_l06Table.fn : D.Fn := { body := Try.f86.body.getD .skip, res := Try.f86.results.toList, ins := [.agg [.v (.sl 25 (.sl 2 (.int .i64)))], .agg [.v (.int .i64), .v (.sl 2 (.int .i64))], .agg [.v (.int .i64), .v (.sl 2 (.int .i64))]], outs := [.one (.own 25 true (.sl 2 (.int .i64)))] }
def spec_l06Table.enc (y : lsd (flats spec_l06Table.fn.outs) × lsd (ios spec_l06Table.fn.ins)) : (List (List Int)) := y.1.1
noncomputable def spec_l06Table.f (l0_0 : List (List Int)) (a1_0 : Int) (l1_1 : List Int) (a2_0 : Int) (l2_1 : List Int) : Option (List (List Int)) := denF spec_l06Table.E spec_l06Table.fn spec_l06Table.enc (l0_0, a1_0, l1_1, a2_0, l2_1, ())
noncomputable def spec_l06Table.l0 (x7 : Int) (x9 : Int) (b0_0 : List (List Int)) (b1_0 : Int) (b1_1 : List Int) (b2_0 : Int) (b2_1 : List Int) (r3 : List (List Int)) : Option (List (List Int)) := denAt spec_l06Table.E spec_l06Table.fn spec_l06Table.enc [1, 1, 0, 1, 0] { fr := [(3, .lf (.box 0 0)), (4, .lf (.box 1 0)), (5, .lf (.box 2 0)), (7, .lf (.int .i64 x7)), (8, .lf (.own 3)), (9, .lf (.int .i64 x9))], ob := [(0, .box 32 false [.sl (.sl 2 (.int .i64)) b0_0]), (1, .box 34 false [.int .i64 b1_0, .sl (.int .i64) b1_1]), (2, .box 47 false [.int .i64 b2_0, .sl (.int .i64) b2_1]), (3, .row 25 true (.sl 2 (.int .i64)) r3)], nx := 4 }
noncomputable def spec_l06Table.l1 (x7 : Int) (x9 : Int) (x11 : Int) (b0_0 : List (List Int)) (b1_0 : Int) (b1_1 : List Int) (b2_0 : Int) (b2_1 : List Int) (r3 : List (List Int)) (r4 : List Int) : Option (List (List Int)) := denAt spec_l06Table.E spec_l06Table.fn spec_l06Table.enc [1, 1, 0, 1, 0, 0, 1, 0, 0, 1, 0, 1, 0] { fr := [(3, .lf (.box 0 0)), (4, .lf (.box 1 0)), (5, .lf (.box 2 0)), (7, .lf (.int .i64 x7)), (8, .lf (.own 3)), (9, .lf (.int .i64 x9)), (10, .lf (.own 4)), (11, .lf (.int .i64 x11))], ob := [(0, .box 32 false [.sl (.sl 2 (.int .i64)) b0_0]), (1, .box 34 false [.int .i64 b1_0, .sl (.int .i64) b1_1]), (2, .box 47 false [.int .i64 b2_0, .sl (.int .i64) b2_1]), (3, .row 25 true (.sl 2 (.int .i64)) r3), (4, .row 2 true (.int .i64) r4)], nx := 5 }
set_option maxRecDepth 100000 in
theorem spec_l06Table.f_eq (l0_0 : List (List Int)) (a1_0 : Int) (l1_1 : List Int) (a2_0 : Int) (l2_1 : List Int) : spec_l06Table.f l0_0 a1_0 l1_1 a2_0 l2_1 = (spec_l01N.f l0_0).bind fun t16 => spec_l06Table.l0 (wrapI (t16 * a1_0)) 0 l0_0 a1_0 l1_1 a2_0 l2_1 ([] : List (List Int)) := by kernel_rfl
set_option maxRecDepth 100000 in
theorem spec_l06Table.l0_eq (x7 : Int) (x9 : Int) (b0_0 : List (List Int)) (b1_0 : Int) (b1_1 : List Int) (b2_0 : Int) (b2_1 : List Int) (r3 : List (List Int)) : spec_l06Table.l0 x7 x9 b0_0 b1_0 b1_1 b2_0 b2_1 r3 = if x9 < x7 then (spec_l06Table.l1 x7 x9 0 b0_0 b1_0 b1_1 b2_0 b2_1 r3 ([] : List Int)) else (some r3) := (loop_unfold _ _ _ _).trans (by kernel_rfl)
set_option maxRecDepth 100000 in
theorem spec_l06Table.l1_eq (x7 : Int) (x9 : Int) (x11 : Int) (b0_0 : List (List Int)) (b1_0 : Int) (b1_1 : List Int) (b2_0 : Int) (b2_1 : List Int) (r3 : List (List Int)) (r4 : List Int) : spec_l06Table.l1 x7 x9 x11 b0_0 b1_0 b1_1 b2_0 b2_1 r3 r4 = if x11 < x7 then (if b1_0 = 0 then none else (if b1_0 = 0 then none else (if b1_0 = 0 then none else (if 0 ≤ wrapI ((x9 : Int).tdiv b1_0) then (if wrapI ((x9 : Int).tdiv b1_0) < (b1_1.length : Int) then (if b1_0 = 0 then none else ((spec_l03At.f b0_0 b2_0 b2_1 ([wrapI ((x9 : Int).tdiv b1_0), wrapI ((x11 : Int).tdiv b1_0)] : List Int)).bind fun t60 => if b1_0 = 0 then none else (if 0 ≤ wrapI ((x9 : Int).tdiv b1_0) then (if wrapI ((x9 : Int).tdiv b1_0) < (b0_0.length : Int) then (if 0 ≤ wrapI ((x11 : Int).tdiv b1_0) then (if wrapI ((x11 : Int).tdiv b1_0) < ((row b0_0 (wrapI ((x9 : Int).tdiv b1_0))).length : Int) then (if r4.length + ([wrapI ((wrapI (b1_0 * (T b0_0 (wrapI ((x9 : Int).tdiv b1_0)) (wrapI ((x11 : Int).tdiv b1_0))))) + ((wrapI ((wrapI (((x9 : Int).tmod b1_0) + (wrapI ((rd b1_1 (wrapI ((x9 : Int).tdiv b1_0))) * ((x11 : Int).tmod b1_0))))) + t60) : Int).tmod b1_0))] : List Int).length ≤ 17592186044416 then (spec_l06Table.l1 x7 x9 (wrapI (x11 + 1)) b0_0 b1_0 b1_1 b2_0 b2_1 r3 (r4 ++ ([wrapI ((wrapI (b1_0 * (T b0_0 (wrapI ((x9 : Int).tdiv b1_0)) (wrapI ((x11 : Int).tdiv b1_0))))) + ((wrapI ((wrapI (((x9 : Int).tmod b1_0) + (wrapI ((rd b1_1 (wrapI ((x9 : Int).tdiv b1_0))) * ((x11 : Int).tmod b1_0))))) + t60) : Int).tmod b1_0))] : List Int))) else none) else none) else none) else none) else none))) else none) else none)))) else (if r3.length + ([r4] : List (List Int)).length ≤ 5864062014805 then (spec_l06Table.l0 x7 (wrapI (x9 + 1)) b0_0 b1_0 b1_1 b2_0 b2_1 (r3 ++ ([r4] : List (List Int)))) else none) := (loop_unfold _ _ _ _).trans (by kernel_rfl)
noncomputable def spec_l06Table.con : Con := ⟨spec_l06Table.fn.ins, spec_l06Table.fn.outs, (List (List Int)), fun x => spec_l06Table.f x.1 x.2.1 x.2.2.1 x.2.2.2.1 x.2.2.2.2.1, fun r => ((r, ()), (()))⟩
theorem spec_l06Table.valid : Valid Try.prog 86 spec_l06Table.con := fn_valid (f := spec_l06Table.fn) (E := spec_l06Table.E) (enc := spec_l06Table.enc) ⟨ttOk, (conCons spec_l01N.valid (conCons spec_l03At.valid conNil))⟩ (Checked.mixed Try.checked) ⟨Try.func86, by kernel_rfl, by kernel_rfl, by kernel_rfl, by kernel_rfl, by decide, by kernel_rfl, by kernel_rfl⟩ (fun _ => rfl)
end Go.Proofs.Ytdiadcmkddkjpaa.P
set_option linter.unusedVariables false
namespace Go.Proofs.Ytdiadcmkddkjpaa.P
open Go Go.RowKit Go.Proofs.Ytdiadcmkddkjpaa.D
noncomputable def spec_CentreOfExtension.E : Env := { tt := TT, con := [(85, spec_l06Given.con), (86, spec_l06Table.con)], frz := [24], rows := [], live := [(6, [9, 10, 11]), (10, [9, 10, 11, 12, 13])], n := 62, pin := 0, nils := [12] }
noncomputable def spec_CentreOfExtension.fn : D.Fn := { body := Try.f49.body.getD .skip, res := Try.f49.results.toList, ins := [.agg [.v (.sl 25 (.sl 2 (.int .i64)))], .agg [.v (.int .i64), .v (.sl 2 (.int .i64))], .agg [.v (.int .i64), .v (.sl 2 (.int .i64))]], outs := [.one (.own 2 true (.int .i64)), .one (.v (.int .i64))] }
def spec_CentreOfExtension.enc (y : lsd (flats spec_CentreOfExtension.fn.outs) × lsd (ios spec_CentreOfExtension.fn.ins)) : (List Int) × Int := (y.1.1, y.1.2.1)
noncomputable def spec_CentreOfExtension.f (l0_0 : List (List Int)) (a1_0 : Int) (l1_1 : List Int) (a2_0 : Int) (l2_1 : List Int) : Option ((List Int) × Int) := denF spec_CentreOfExtension.E spec_CentreOfExtension.fn spec_CentreOfExtension.enc (l0_0, a1_0, l1_1, a2_0, l2_1, ())
noncomputable def spec_CentreOfExtension.l0 (x9 : List (List Int)) (x11 : Int) (r0 : List Int) : Option ((List Int) × Int) := denAt spec_CentreOfExtension.E spec_CentreOfExtension.fn spec_CentreOfExtension.enc [1, 1, 1, 0, 1, 0] { fr := [(9, .lf (.sl (.sl 2 (.int .i64)) x9)), (10, .lf (.own 0)), (11, .lf (.int .i64 x11))], ob := [(0, .row 2 true (.int .i64) r0)], nx := 1 }
noncomputable def spec_CentreOfExtension.l1 (x9 : List (List Int)) (x11 : Int) (x12 : Bool) (x13 : Int) (r0 : List Int) : Option ((List Int) × Int) := denAt spec_CentreOfExtension.E spec_CentreOfExtension.fn spec_CentreOfExtension.enc [1, 1, 1, 0, 1, 0, 0, 1, 0, 0, 1, 0, 1, 0] { fr := [(9, .lf (.sl (.sl 2 (.int .i64)) x9)), (10, .lf (.own 0)), (11, .lf (.int .i64 x11)), (12, .lf (boolLf x12)), (13, .lf (.int .i64 x13))], ob := [(0, .row 2 true (.int .i64) r0)], nx := 1 }
set_option maxRecDepth 100000 in
theorem spec_CentreOfExtension.f_eq (l0_0 : List (List Int)) (a1_0 : Int) (l1_1 : List Int) (a2_0 : Int) (l2_1 : List Int) : spec_CentreOfExtension.f l0_0 a1_0 l1_1 a2_0 l2_1 = (spec_l06Given.f l0_0 a1_0 l1_1 a2_0 l2_1 64).bind fun t17 => if t17 = 0 then ((spec_l06Table.f l0_0 a1_0 l1_1 a2_0 l2_1).bind fun t24 => spec_CentreOfExtension.l0 t24 0 ([] : List Int)) else (some (([] : List Int), t17)) := by kernel_rfl
set_option maxRecDepth 100000 in
theorem spec_CentreOfExtension.l0_eq (x9 : List (List Int)) (x11 : Int) (r0 : List Int) : spec_CentreOfExtension.l0 x9 x11 r0 = if x11 < (x9.length : Int) then (spec_CentreOfExtension.l1 x9 x11 true 0 r0) else (some (r0, 0)) := (loop_unfold _ _ _ _).trans (by kernel_rfl)
set_option maxRecDepth 100000 in
theorem spec_CentreOfExtension.l1_eq (x9 : List (List Int)) (x11 : Int) (x12 : Bool) (x13 : Int) (r0 : List Int) : spec_CentreOfExtension.l1 x9 x11 x12 x13 r0 = if x13 < (x9.length : Int) then (if x12 = true then (if 0 ≤ x11 then (if x11 < (x9.length : Int) then (if 0 ≤ x13 then (if x13 < ((row x9 x11).length : Int) then (if 0 ≤ x13 then (if x13 < (x9.length : Int) then (if 0 ≤ x11 then (if x11 < ((row x9 x13).length : Int) then (spec_CentreOfExtension.l1 x9 x11 (decide ((T x9 x11 x13) = (T x9 x13 x11))) (wrapI (x13 + 1)) r0) else none) else none) else none) else none) else none) else none) else none) else none) else (spec_CentreOfExtension.l1 x9 x11 false (wrapI (x13 + 1)) r0)) else (if x12 = true then (if r0.length + ([x11] : List Int).length ≤ 17592186044416 then (spec_CentreOfExtension.l0 x9 (wrapI (x11 + 1)) (r0 ++ ([x11] : List Int))) else none) else (spec_CentreOfExtension.l0 x9 (wrapI (x11 + 1)) r0)) := (loop_unfold _ _ _ _).trans (by kernel_rfl)
noncomputable def spec_CentreOfExtension.con : Con := ⟨spec_CentreOfExtension.fn.ins, spec_CentreOfExtension.fn.outs, (List Int) × Int, fun x => spec_CentreOfExtension.f x.1 x.2.1 x.2.2.1 x.2.2.2.1 x.2.2.2.2.1, fun r => ((r.1, r.2, ()), (()))⟩
theorem spec_CentreOfExtension.valid : Valid Try.prog 49 spec_CentreOfExtension.con := fn_valid (f := spec_CentreOfExtension.fn) (E := spec_CentreOfExtension.E) (enc := spec_CentreOfExtension.enc) ⟨ttOk, (conCons spec_l06Given.valid (conCons spec_l06Table.valid conNil))⟩ (Checked.mixed Try.checked) ⟨Try.func49, by kernel_rfl, by kernel_rfl, by kernel_rfl, by kernel_rfl, by decide, by kernel_rfl, by kernel_rfl⟩ (fun _ => rfl)
end Go.Proofs.Ytdiadcmkddkjpaa.P
set_option linter.unusedVariables false
namespace Go.Proofs.Ytdiadcmkddkjpaa.P
open Go Go.RowKit Go.Proofs.Ytdiadcmkddkjpaa.D
noncomputable def impl_areIn.E : Env := { tt := TT, con := [], frz := [], rows := [], live := [(2, [0, 7, 8, 9])], n := 21, pin := 0, nils := [] }
noncomputable def impl_areIn.fn : D.Fn := { body := Try.f67.body.getD .skip, res := Try.f67.results.toList, ins := [.one (.v (.int .i64)), .one (.v (.sl 2 (.int .i64)))], outs := [.one (.v .bool)] }
def impl_areIn.enc (y : lsd (flats impl_areIn.fn.outs) × lsd (ios impl_areIn.fn.ins)) : Bool := y.1.1
noncomputable def impl_areIn.f (a0 : Int) (l1 : List Int) : Option Bool := denF impl_areIn.E impl_areIn.fn impl_areIn.enc (a0, l1, ())
noncomputable def impl_areIn.l0 (x0 : Int) (x7 : List Int) (x8 : Int) (x9 : Int) : Option Bool := denAt impl_areIn.E impl_areIn.fn impl_areIn.enc [1, 0, 1, 0] { fr := [(0, .lf (.int .i64 x0)), (7, .lf (.sl (.int .i64) x7)), (8, .lf (.int .i64 x8)), (9, .lf (.int .i64 x9))], ob := [], nx := 0 }
set_option maxRecDepth 100000 in
theorem impl_areIn.f_eq (a0 : Int) (l1 : List Int) : impl_areIn.f a0 l1 = impl_areIn.l0 a0 l1 (l1.length : Int) 0 := by kernel_rfl
set_option maxRecDepth 100000 in
theorem impl_areIn.l0_eq (x0 : Int) (x7 : List Int) (x8 : Int) (x9 : Int) : impl_areIn.l0 x0 x7 x8 x9 = if x9 < x8 then (if 0 ≤ x9 then (if x9 < (x7.length : Int) then (if (rd x7 x9) < 0 then (some false) else (if (rd x7 x9) ≥ x0 then (some false) else (impl_areIn.l0 x0 x7 x8 (wrapI (x9 + 1))))) else none) else none) else (some true) := (loop_unfold _ _ _ _).trans (by kernel_rfl)
noncomputable def impl_areIn.con : Con := ⟨impl_areIn.fn.ins, impl_areIn.fn.outs, Bool, fun x => impl_areIn.f x.1 x.2.1, fun r => ((r, ()), (()))⟩
theorem impl_areIn.valid : Valid Try.prog 67 impl_areIn.con := fn_valid (f := impl_areIn.fn) (E := impl_areIn.E) (enc := impl_areIn.enc) ⟨ttOk, conNil⟩ (Checked.mixed Try.checked) ⟨Try.func67, by kernel_rfl, by kernel_rfl, by kernel_rfl, by kernel_rfl, by decide, by kernel_rfl, by kernel_rfl⟩ (fun _ => rfl)
end Go.Proofs.Ytdiadcmkddkjpaa.P
set_option linter.unusedVariables false
namespace Go.Proofs.Ytdiadcmkddkjpaa.P
open Go Go.RowKit Go.Proofs.Ytdiadcmkddkjpaa.D
noncomputable def impl_order.E : Env := { tt := TT, con := [], frz := [], rows := [], live := [], n := 6, pin := 0, nils := [] }
noncomputable def impl_order.fn : D.Fn := { body := Try.f68.body.getD .skip, res := Try.f68.results.toList, ins := [.agg [.v (.sl 25 (.sl 2 (.int .i64)))]], outs := [.one (.v (.int .i64))] }
def impl_order.enc (y : lsd (flats impl_order.fn.outs) × lsd (ios impl_order.fn.ins)) : Int := y.1.1
noncomputable def impl_order.f (l0_0 : List (List Int)) : Option Int := denF impl_order.E impl_order.fn impl_order.enc (l0_0, ())
set_option maxRecDepth 100000 in
theorem impl_order.f_eq (l0_0 : List (List Int)) : impl_order.f l0_0 = some (l0_0.length : Int) := by kernel_rfl
noncomputable def impl_order.con : Con := ⟨impl_order.fn.ins, impl_order.fn.outs, Int, fun x => impl_order.f x.1, fun r => ((r, ()), (()))⟩
theorem impl_order.valid : Valid Try.prog 68 impl_order.con := fn_valid (f := impl_order.fn) (E := impl_order.E) (enc := impl_order.enc) ⟨ttOk, conNil⟩ (Checked.mixed Try.checked) ⟨Try.func68, by kernel_rfl, by kernel_rfl, by kernel_rfl, by kernel_rfl, by decide, by kernel_rfl, by kernel_rfl⟩ (fun _ => rfl)
end Go.Proofs.Ytdiadcmkddkjpaa.P
set_option linter.unusedVariables false
namespace Go.Proofs.Ytdiadcmkddkjpaa.P
open Go Go.RowKit Go.Proofs.Ytdiadcmkddkjpaa.D
noncomputable def slices_Index_int64.E : Env := { tt := TT, con := [], frz := [], rows := [], live := [(2, [0, 1, 7, 8])], n := 19, pin := 0, nils := [] }
noncomputable def slices_Index_int64.fn : D.Fn := { body := Try.f118.body.getD .skip, res := Try.f118.results.toList, ins := [.one (.v (.sl 2 (.int .i64))), .one (.v (.int .i64))], outs := [.one (.v (.int .i64))] }
def slices_Index_int64.enc (y : lsd (flats slices_Index_int64.fn.outs) × lsd (ios slices_Index_int64.fn.ins)) : Int := y.1.1
noncomputable def slices_Index_int64.f (l0 : List Int) (a1 : Int) : Option Int := denF slices_Index_int64.E slices_Index_int64.fn slices_Index_int64.enc (l0, a1, ())
noncomputable def slices_Index_int64.l0 (x0 : List Int) (x1 : Int) (x7 : Int) (x8 : Int) : Option Int := denAt slices_Index_int64.E slices_Index_int64.fn slices_Index_int64.enc [1, 0, 1, 0] { fr := [(0, .lf (.sl (.int .i64) x0)), (1, .lf (.int .i64 x1)), (7, .lf (.int .i64 x7)), (8, .lf (.int .i64 x8))], ob := [], nx := 0 }
set_option maxRecDepth 100000 in
theorem slices_Index_int64.f_eq (l0 : List Int) (a1 : Int) : slices_Index_int64.f l0 a1 = slices_Index_int64.l0 l0 a1 (l0.length : Int) 0 := by kernel_rfl
set_option maxRecDepth 100000 in
theorem slices_Index_int64.l0_eq (x0 : List Int) (x1 : Int) (x7 : Int) (x8 : Int) : slices_Index_int64.l0 x0 x1 x7 x8 = if x8 < x7 then (if 0 ≤ x8 then (if x8 < (x0.length : Int) then (if x1 = (rd x0 x8) then (some x8) else (slices_Index_int64.l0 x0 x1 x7 (wrapI (x8 + 1)))) else none) else none) else (some (-1)) := (loop_unfold _ _ _ _).trans (by kernel_rfl)
noncomputable def slices_Index_int64.con : Con := ⟨slices_Index_int64.fn.ins, slices_Index_int64.fn.outs, Int, fun x => slices_Index_int64.f x.1 x.2.1, fun r => ((r, ()), (()))⟩
theorem slices_Index_int64.valid : Valid Try.prog 118 slices_Index_int64.con := fn_valid (f := slices_Index_int64.fn) (E := slices_Index_int64.E) (enc := slices_Index_int64.enc) ⟨ttOk, conNil⟩ (Checked.mixed Try.checked) ⟨Try.func118, by kernel_rfl, by kernel_rfl, by kernel_rfl, by kernel_rfl, by decide, by kernel_rfl, by kernel_rfl⟩ (fun _ => rfl)
end Go.Proofs.Ytdiadcmkddkjpaa.P
set_option linter.unusedVariables false
namespace Go.Proofs.Ytdiadcmkddkjpaa.P
open Go Go.RowKit Go.Proofs.Ytdiadcmkddkjpaa.D
noncomputable def slices_Contains_int64.E : Env := { tt := TT, con := [(118, slices_Index_int64.con)], frz := [], rows := [], live := [], n := 9, pin := 0, nils := [] }
noncomputable def slices_Contains_int64.fn : D.Fn := { body := Try.f136.body.getD .skip, res := Try.f136.results.toList, ins := [.one (.v (.sl 2 (.int .i64))), .one (.v (.int .i64))], outs := [.one (.v .bool)] }
def slices_Contains_int64.enc (y : lsd (flats slices_Contains_int64.fn.outs) × lsd (ios slices_Contains_int64.fn.ins)) : Bool := y.1.1
noncomputable def slices_Contains_int64.f (l0 : List Int) (a1 : Int) : Option Bool := denF slices_Contains_int64.E slices_Contains_int64.fn slices_Contains_int64.enc (l0, a1, ())
set_option maxRecDepth 100000 in
theorem slices_Contains_int64.f_eq (l0 : List Int) (a1 : Int) : slices_Contains_int64.f l0 a1 = (slices_Index_int64.f l0 a1).bind fun t7 => some (decide (t7 ≥ 0)) := by kernel_rfl
noncomputable def slices_Contains_int64.con : Con := ⟨slices_Contains_int64.fn.ins, slices_Contains_int64.fn.outs, Bool, fun x => slices_Contains_int64.f x.1 x.2.1, fun r => ((r, ()), (()))⟩
theorem slices_Contains_int64.valid : Valid Try.prog 136 slices_Contains_int64.con := fn_valid (f := slices_Contains_int64.fn) (E := slices_Contains_int64.E) (enc := slices_Contains_int64.enc) ⟨ttOk, (conCons slices_Index_int64.valid conNil)⟩ (Checked.mixed Try.checked) ⟨Try.func136, by kernel_rfl, by kernel_rfl, by kernel_rfl, by kernel_rfl, by decide, by kernel_rfl, by kernel_rfl⟩ (fun _ => rfl)
end Go.Proofs.Ytdiadcmkddkjpaa.P
set_option linter.unusedVariables false
namespace Go.Proofs.Ytdiadcmkddkjpaa.P
open Go Go.RowKit Go.Proofs.Ytdiadcmkddkjpaa.D
noncomputable def impl_IsGroup.E : Env := { tt := TT, con := [(68, impl_order.con), (67, impl_areIn.con), (136, slices_Contains_int64.con)], frz := [], rows := [], live := [(5, [1, 3, 18, 19, 20]), (11, [1, 3, 35, 36]), (16, [1, 3, 6, 35, 36, 68, 69]), (19, [1, 3, 6, 7, 35, 36, 68, 69, 72, 73])], n := 110, pin := 0, nils := [] }
noncomputable def impl_IsGroup.fn : D.Fn := { body := Try.f94.body.getD .skip, res := Try.f94.results.toList, ins := [.agg [.v (.sl 25 (.sl 2 (.int .i64)))]], outs := [.one (.v .bool)] }
def impl_IsGroup.enc (y : lsd (flats impl_IsGroup.fn.outs) × lsd (ios impl_IsGroup.fn.ins)) : Bool := y.1.1
noncomputable def impl_IsGroup.f (l0_0 : List (List Int)) : Option Bool := denF impl_IsGroup.E impl_IsGroup.fn impl_IsGroup.enc (l0_0, ())
noncomputable def impl_IsGroup.l0 (x3 : Int) (x18 : List (List Int)) (x19 : Int) (x20 : Int) (b0_0 : List (List Int)) : Option Bool := denAt impl_IsGroup.E impl_IsGroup.fn impl_IsGroup.enc [1, 1, 1, 0, 1, 0] { fr := [(1, .lf (.box 0 0)), (3, .lf (.int .i64 x3)), (18, .lf (.sl (.sl 2 (.int .i64)) x18)), (19, .lf (.int .i64 x19)), (20, .lf (.int .i64 x20))], ob := [(0, .box 32 false [.sl (.sl 2 (.int .i64)) b0_0])], nx := 1 }
noncomputable def impl_IsGroup.l1 (x3 : Int) (x35 : Int) (x36 : Int) (b0_0 : List (List Int)) : Option Bool := denAt impl_IsGroup.E impl_IsGroup.fn impl_IsGroup.enc [1, 1, 1, 1, 0, 1, 0] { fr := [(1, .lf (.box 0 0)), (3, .lf (.int .i64 x3)), (35, .lf (.int .i64 x35)), (36, .lf (.int .i64 x36))], ob := [(0, .box 32 false [.sl (.sl 2 (.int .i64)) b0_0])], nx := 1 }
noncomputable def impl_IsGroup.l2 (x3 : Int) (x6 : Int) (x35 : Int) (x36 : Int) (x68 : Int) (x69 : Int) (b0_0 : List (List Int)) : Option Bool := denAt impl_IsGroup.E impl_IsGroup.fn impl_IsGroup.enc [1, 1, 1, 1, 0, 1, 0, 0, 1, 1, 0, 0, 1, 1, 1, 0] { fr := [(1, .lf (.box 0 0)), (3, .lf (.int .i64 x3)), (6, .lf (.int .i64 x6)), (35, .lf (.int .i64 x35)), (36, .lf (.int .i64 x36)), (68, .lf (.int .i64 x68)), (69, .lf (.int .i64 x69))], ob := [(0, .box 32 false [.sl (.sl 2 (.int .i64)) b0_0])], nx := 1 }
noncomputable def impl_IsGroup.l3 (x3 : Int) (x6 : Int) (x7 : Int) (x35 : Int) (x36 : Int) (x68 : Int) (x69 : Int) (x72 : Int) (x73 : Int) (b0_0 : List (List Int)) : Option Bool := denAt impl_IsGroup.E impl_IsGroup.fn impl_IsGroup.enc [1, 1, 1, 1, 0, 1, 0, 0, 1, 1, 0, 0, 1, 1, 1, 0, 0, 1, 1, 0, 0, 1, 1, 0] { fr := [(1, .lf (.box 0 0)), (3, .lf (.int .i64 x3)), (6, .lf (.int .i64 x6)), (7, .lf (.int .i64 x7)), (35, .lf (.int .i64 x35)), (36, .lf (.int .i64 x36)), (68, .lf (.int .i64 x68)), (69, .lf (.int .i64 x69)), (72, .lf (.int .i64 x72)), (73, .lf (.int .i64 x73))], ob := [(0, .box 32 false [.sl (.sl 2 (.int .i64)) b0_0])], nx := 1 }
set_option maxRecDepth 100000 in
theorem impl_IsGroup.f_eq (l0_0 : List (List Int)) : impl_IsGroup.f l0_0 = (impl_order.f l0_0).bind fun t10 => if t10 < 1 then (some false) else (if t10 > 8 then (some false) else (impl_IsGroup.l0 t10 l0_0 (l0_0.length : Int) 0 l0_0)) := by kernel_rfl
set_option maxRecDepth 100000 in
theorem impl_IsGroup.l0_eq (x3 : Int) (x18 : List (List Int)) (x19 : Int) (x20 : Int) (b0_0 : List (List Int)) : impl_IsGroup.l0 x3 x18 x19 x20 b0_0 = if x20 < x19 then (if 0 ≤ x20 then (if x20 < (x18.length : Int) then (if ((row x18 x20).length : Int) = x3 then ((impl_areIn.f x3 (row x18 x20)).bind fun t31 => if t31 = true then (impl_IsGroup.l0 x3 x18 x19 (wrapI (x20 + 1)) b0_0) else (some false)) else (some false)) else none) else none) else (impl_IsGroup.l1 x3 x3 0 b0_0) := (loop_unfold _ _ _ _).trans (by kernel_rfl)
set_option maxRecDepth 100000 in
theorem impl_IsGroup.l1_eq (x3 : Int) (x35 : Int) (x36 : Int) (b0_0 : List (List Int)) : impl_IsGroup.l1 x3 x35 x36 b0_0 = if x36 < x35 then (if 0 < (b0_0.length : Int) then (if 0 ≤ x36 then (if x36 < ((row b0_0 0).length : Int) then (if (T b0_0 0 x36) = x36 then (if 0 ≤ x36 then (if x36 < (b0_0.length : Int) then (if 0 < ((row b0_0 x36).length : Int) then (if (T b0_0 x36 0) = x36 then (if 0 ≤ x36 then (if x36 < (b0_0.length : Int) then ((slices_Contains_int64.f (row b0_0 x36) 0).bind fun t65 => if t65 = true then (impl_IsGroup.l2 x3 x36 x35 x36 x3 0 b0_0) else (some false)) else none) else none) else (some false)) else none) else none) else none) else (some false)) else none) else none) else none) else (some true) := (loop_unfold _ _ _ _).trans (by kernel_rfl)
set_option maxRecDepth 100000 in
theorem impl_IsGroup.l2_eq (x3 : Int) (x6 : Int) (x35 : Int) (x36 : Int) (x68 : Int) (x69 : Int) (b0_0 : List (List Int)) : impl_IsGroup.l2 x3 x6 x35 x36 x68 x69 b0_0 = if x69 < x68 then (impl_IsGroup.l3 x3 x6 x69 x35 x36 x68 x69 x3 0 b0_0) else (impl_IsGroup.l1 x3 x35 (wrapI (x36 + 1)) b0_0) := (loop_unfold _ _ _ _).trans (by kernel_rfl)
set_option maxRecDepth 100000 in
theorem impl_IsGroup.l3_eq (x3 : Int) (x6 : Int) (x7 : Int) (x35 : Int) (x36 : Int) (x68 : Int) (x69 : Int) (x72 : Int) (x73 : Int) (b0_0 : List (List Int)) : impl_IsGroup.l3 x3 x6 x7 x35 x36 x68 x69 x72 x73 b0_0 = if x73 < x72 then (if 0 ≤ x6 then (if x6 < (b0_0.length : Int) then (if 0 ≤ x7 then (if x7 < ((row b0_0 x6).length : Int) then (if 0 ≤ T b0_0 x6 x7 then (if T b0_0 x6 x7 < (b0_0.length : Int) then (if 0 ≤ x73 then (if x73 < ((row b0_0 (T b0_0 x6 x7)).length : Int) then (if 0 ≤ x6 then (if x6 < (b0_0.length : Int) then (if 0 ≤ x7 then (if x7 < (b0_0.length : Int) then (if 0 ≤ x73 then (if x73 < ((row b0_0 x7).length : Int) then (if 0 ≤ T b0_0 x7 x73 then (if T b0_0 x7 x73 < ((row b0_0 x6).length : Int) then (if (T b0_0 (T b0_0 x6 x7) x73) = (T b0_0 x6 (T b0_0 x7 x73)) then (impl_IsGroup.l3 x3 x6 x7 x35 x36 x68 x69 x72 (wrapI (x73 + 1)) b0_0) else (some false)) else none) else none) else none) else none) else none) else none) else none) else none) else none) else none) else none) else none) else none) else none) else none) else none) else (impl_IsGroup.l2 x3 x6 x35 x36 x68 (wrapI (x69 + 1)) b0_0) := (loop_unfold _ _ _ _).trans (by kernel_rfl)
noncomputable def impl_IsGroup.con : Con := ⟨impl_IsGroup.fn.ins, impl_IsGroup.fn.outs, Bool, fun x => impl_IsGroup.f x.1, fun r => ((r, ()), (()))⟩
theorem impl_IsGroup.valid : Valid Try.prog 94 impl_IsGroup.con := fn_valid (f := impl_IsGroup.fn) (E := impl_IsGroup.E) (enc := impl_IsGroup.enc) ⟨ttOk, (conCons impl_order.valid (conCons impl_areIn.valid (conCons slices_Contains_int64.valid conNil)))⟩ (Checked.mixed Try.checked) ⟨Try.func94, by kernel_rfl, by kernel_rfl, by kernel_rfl, by kernel_rfl, by decide, by kernel_rfl, by kernel_rfl⟩ (fun _ => rfl)
end Go.Proofs.Ytdiadcmkddkjpaa.P
set_option linter.unusedVariables false
namespace Go.Proofs.Ytdiadcmkddkjpaa.P
open Go Go.RowKit Go.Proofs.Ytdiadcmkddkjpaa.D
noncomputable def impl_Group_times.E : Env := { tt := TT, con := [], frz := [], rows := [], live := [(3, [2, 5, 8, 9, 10])], n := 24, pin := 0, nils := [] }
noncomputable def impl_Group_times.fn : D.Fn := { body := Try.f122.body.getD .skip, res := Try.f122.results.toList, ins := [.agg [.v (.sl 25 (.sl 2 (.int .i64)))], .one (.v (.sl 2 (.int .i64)))], outs := [.one (.v (.int .i64))] }
def impl_Group_times.enc (y : lsd (flats impl_Group_times.fn.outs) × lsd (ios impl_Group_times.fn.ins)) : Int := y.1.1
noncomputable def impl_Group_times.f (l0_0 : List (List Int)) (l1 : List Int) : Option Int := denF impl_Group_times.E impl_Group_times.fn impl_Group_times.enc (l0_0, l1, ())
noncomputable def impl_Group_times.l0 (x5 : Int) (x8 : List Int) (x9 : Int) (x10 : Int) (b0_0 : List (List Int)) : Option Int := denAt impl_Group_times.E impl_Group_times.fn impl_Group_times.enc [1, 1, 0, 1, 0] { fr := [(2, .lf (.box 0 0)), (5, .lf (.int .i64 x5)), (8, .lf (.sl (.int .i64) x8)), (9, .lf (.int .i64 x9)), (10, .lf (.int .i64 x10))], ob := [(0, .box 32 false [.sl (.sl 2 (.int .i64)) b0_0])], nx := 1 }
set_option maxRecDepth 100000 in
theorem impl_Group_times.f_eq (l0_0 : List (List Int)) (l1 : List Int) : impl_Group_times.f l0_0 l1 = impl_Group_times.l0 0 l1 (l1.length : Int) 0 l0_0 := by kernel_rfl
set_option maxRecDepth 100000 in
theorem impl_Group_times.l0_eq (x5 : Int) (x8 : List Int) (x9 : Int) (x10 : Int) (b0_0 : List (List Int)) : impl_Group_times.l0 x5 x8 x9 x10 b0_0 = if x10 < x9 then (if 0 ≤ x10 then (if x10 < (x8.length : Int) then (if 0 ≤ x5 then (if x5 < (b0_0.length : Int) then (if 0 ≤ rd x8 x10 then (if rd x8 x10 < ((row b0_0 x5).length : Int) then (impl_Group_times.l0 (T b0_0 x5 (rd x8 x10)) x8 x9 (wrapI (x10 + 1)) b0_0) else none) else none) else none) else none) else none) else none) else (some x5) := (loop_unfold _ _ _ _).trans (by kernel_rfl)
noncomputable def impl_Group_times.con : Con := ⟨impl_Group_times.fn.ins, impl_Group_times.fn.outs, Int, fun x => impl_Group_times.f x.1 x.2.1, fun r => ((r, ()), (()))⟩
theorem impl_Group_times.valid : Valid Try.prog 122 impl_Group_times.con := fn_valid (f := impl_Group_times.fn) (E := impl_Group_times.E) (enc := impl_Group_times.enc) ⟨ttOk, conNil⟩ (Checked.mixed Try.checked) ⟨Try.func122, by kernel_rfl, by kernel_rfl, by kernel_rfl, by kernel_rfl, by decide, by kernel_rfl, by kernel_rfl⟩ (fun _ => rfl)
end Go.Proofs.Ytdiadcmkddkjpaa.P
set_option linter.unusedVariables false
namespace Go.Proofs.Ytdiadcmkddkjpaa.P
open Go Go.RowKit Go.Proofs.Ytdiadcmkddkjpaa.D
noncomputable def impl_isModulus.E : Env := { tt := TT, con := [], frz := [], rows := [], live := [], n := 9, pin := 0, nils := [] }
noncomputable def impl_isModulus.fn : D.Fn := { body := Try.f144.body.getD .skip, res := Try.f144.results.toList, ins := [.one (.v (.int .i64))], outs := [.one (.v .bool)] }
def impl_isModulus.enc (y : lsd (flats impl_isModulus.fn.outs) × lsd (ios impl_isModulus.fn.ins)) : Bool := y.1.1
noncomputable def impl_isModulus.f (a0 : Int) : Option Bool := denF impl_isModulus.E impl_isModulus.fn impl_isModulus.enc (a0, ())
set_option maxRecDepth 100000 in
theorem impl_isModulus.f_eq (a0 : Int) : impl_isModulus.f a0 = if a0 ≥ 2 then (some (decide (a0 ≤ 12))) else (some false) := by kernel_rfl
noncomputable def impl_isModulus.con : Con := ⟨impl_isModulus.fn.ins, impl_isModulus.fn.outs, Bool, fun x => impl_isModulus.f x.1, fun r => ((r, ()), (()))⟩
theorem impl_isModulus.valid : Valid Try.prog 144 impl_isModulus.con := fn_valid (f := impl_isModulus.fn) (E := impl_isModulus.E) (enc := impl_isModulus.enc) ⟨ttOk, conNil⟩ (Checked.mixed Try.checked) ⟨Try.func144, by kernel_rfl, by kernel_rfl, by kernel_rfl, by kernel_rfl, by decide, by kernel_rfl, by kernel_rfl⟩ (fun _ => rfl)
end Go.Proofs.Ytdiadcmkddkjpaa.P
set_option linter.unusedVariables false
namespace Go.Proofs.Ytdiadcmkddkjpaa.P
open Go Go.RowKit Go.Proofs.Ytdiadcmkddkjpaa.D
noncomputable def impl_gcd.E : Env := { tt := TT, con := [], frz := [], rows := [], live := [(1, [0, 1])], n := 12, pin := 0, nils := [] }
noncomputable def impl_gcd.fn : D.Fn := { body := Try.f162.body.getD .skip, res := Try.f162.results.toList, ins := [.one (.v (.int .i64)), .one (.v (.int .i64))], outs := [.one (.v (.int .i64))] }
def impl_gcd.enc (y : lsd (flats impl_gcd.fn.outs) × lsd (ios impl_gcd.fn.ins)) : Int := y.1.1
noncomputable def impl_gcd.f (a0 : Int) (a1 : Int) : Option Int := denF impl_gcd.E impl_gcd.fn impl_gcd.enc (a0, a1, ())
noncomputable def impl_gcd.l0 (x0 : Int) (x1 : Int) : Option Int := denAt impl_gcd.E impl_gcd.fn impl_gcd.enc [1, 0, 0] { fr := [(0, .lf (.int .i64 x0)), (1, .lf (.int .i64 x1))], ob := [], nx := 0 }
set_option maxRecDepth 100000 in
theorem impl_gcd.f_eq (a0 : Int) (a1 : Int) : impl_gcd.f a0 a1 = impl_gcd.l0 a0 a1 := by kernel_rfl
set_option maxRecDepth 100000 in
theorem impl_gcd.l0_eq (x0 : Int) (x1 : Int) : impl_gcd.l0 x0 x1 = if x1 = 0 then (some x0) else (if x1 = 0 then none else (impl_gcd.l0 x1 ((x0 : Int).tmod x1))) := (loop_unfold _ _ _ _).trans (by kernel_rfl)
noncomputable def impl_gcd.con : Con := ⟨impl_gcd.fn.ins, impl_gcd.fn.outs, Int, fun x => impl_gcd.f x.1 x.2.1, fun r => ((r, ()), (()))⟩
theorem impl_gcd.valid : Valid Try.prog 162 impl_gcd.con := fn_valid (f := impl_gcd.fn) (E := impl_gcd.E) (enc := impl_gcd.enc) ⟨ttOk, conNil⟩ (Checked.mixed Try.checked) ⟨Try.func162, by kernel_rfl, by kernel_rfl, by kernel_rfl, by kernel_rfl, by decide, by kernel_rfl, by kernel_rfl⟩ (fun _ => rfl)
end Go.Proofs.Ytdiadcmkddkjpaa.P
set_option linter.unusedVariables false
namespace Go.Proofs.Ytdiadcmkddkjpaa.P
open Go Go.RowKit Go.Proofs.Ytdiadcmkddkjpaa.D
noncomputable def impl_isUnit.E : Env := { tt := TT, con := [(162, impl_gcd.con)], frz := [], rows := [], live := [], n := 18, pin := 0, nils := [] }
noncomputable def impl_isUnit.fn : D.Fn := { body := Try.f145.body.getD .skip, res := Try.f145.results.toList, ins := [.one (.v (.int .i64)), .one (.v (.int .i64))], outs := [.one (.v .bool)] }
def impl_isUnit.enc (y : lsd (flats impl_isUnit.fn.outs) × lsd (ios impl_isUnit.fn.ins)) : Bool := y.1.1
noncomputable def impl_isUnit.f (a0 : Int) (a1 : Int) : Option Bool := denF impl_isUnit.E impl_isUnit.fn impl_isUnit.enc (a0, a1, ())
set_option maxRecDepth 100000 in
theorem impl_isUnit.f_eq (a0 : Int) (a1 : Int) : impl_isUnit.f a0 a1 = if a1 ≥ 1 then (if a1 < a0 then ((impl_gcd.f a0 a1).bind fun t15 => some (decide (t15 = 1))) else (some false)) else (some false) := by kernel_rfl
noncomputable def impl_isUnit.con : Con := ⟨impl_isUnit.fn.ins, impl_isUnit.fn.outs, Bool, fun x => impl_isUnit.f x.1 x.2.1, fun r => ((r, ()), (()))⟩
theorem impl_isUnit.valid : Valid Try.prog 145 impl_isUnit.con := fn_valid (f := impl_isUnit.fn) (E := impl_isUnit.E) (enc := impl_isUnit.enc) ⟨ttOk, (conCons impl_gcd.valid conNil)⟩ (Checked.mixed Try.checked) ⟨Try.func145, by kernel_rfl, by kernel_rfl, by kernel_rfl, by kernel_rfl, by decide, by kernel_rfl, by kernel_rfl⟩ (fun _ => rfl)
end Go.Proofs.Ytdiadcmkddkjpaa.P

/- Whatever the machine does, it has drawn no less behind it than ahead of it; no condition. -/
import Derived.Lone
import Derived.RunT
import Derived.Listen
import Derived.Calls
namespace Go.Proofs.Ytgokegndboknfaa.Dn
/-- What is behind a run has drawn no less. -/
def rD {α : Type} (d : Nat) : Result α → Prop
  | .ok _ w => d ≤ w.drawn
  | .halt _ w => d ≤ w.drawn
theorem ask_drawn {α : Type} : ∀ (a : Ask α) (w : World), w.drawn ≤ (w.ask a).2.drawn
  | .done a, w => Nat.le_refl _
  | .ask what range k, w => by
    rw [World.ask]
    split
    · exact ask_drawn _ w
    · exact Nat.le_trans (Nat.le_succ _) (ask_drawn (k ((Question.extern what range).cut (w.tape w.drawn (.extern what range)))) { w with drawn := w.drawn + 1 })
theorem sys_drawn (w : World) (c : Sys) : w.drawn ≤ (w.sys c).2.drawn := by
  have h := ask_drawn (Kernel.perform c w.os) w
  unfold World.sys
  split
  · exact Nat.le_refl _
  · rename_i heq
    rw [heq] at h
    exact h
theorem viewStore_drawn {p : Program} {w w' : World} {at_ : Addr} {u : TypeId} {k : Addr} {v : Value} {b : Bool} {l : List Addr} (h : w.viewStore p at_ u k v b = .ok (w', l)) : w'.drawn = w.drawn := by
  unfold World.viewStore at h
  simp only [bind, Except.bind, pure, Except.pure] at h
  repeat' first
    | (simp at h; done)
    | (simp only [Except.ok.injEq, Prod.mk.injEq] at h; obtain ⟨rfl, _⟩ := h; rfl)
    | split at h
theorem farStore_drawn {p : Program} {w w' : World} {a : Addr} {v : Value} {b : Bool} {l : List Addr} (h : w.farStore p a v b = .ok (w', l)) : w'.drawn = w.drawn := by
  unfold World.farStore at h
  repeat' first
    | (simp at h; done)
    | (simp only [Except.ok.injEq] at h; subst h; rename_i hv; exact viewStore_drawn hv)
    | split at h
theorem freeze_drawn (w : World) (a : Addr) (n : Nat) : (w.freeze a n).drawn = w.drawn := by
  unfold World.freeze; split <;> rfl
theorem run_rD {α : Type} (p : Program) (d : Nat) : ∀ (s : Sem α) (w : World), d ≤ w.drawn → rD d (s.run p w) := by
  intro s
  induction s with
  | pure a => intro w h; exact h
  | load m a k ih =>
    intro w h
    rw [Sem.run]
    split
    · exact ih _ w h
    · split
      · exact ih _ w h
      · exact h
  | store m a v k ih =>
    intro w h
    have main : (∀ c, v = .agg c → False) → (∀ c, v = .tuple c → False) → rD d (Sem.run p (.store m a v k) w) := by
      intro h1 h2
      rw [Sem.run]
      · split
        · split
          · exact h
          · exact ih _ h
        · split
          · rename_i hf
            exact ih _ (by rw [farStore_drawn hf]; exact h)
          · exact h
      · exact h1
      · exact h2
    cases v <;> first | exact h | exact main (by intro c e; cases e) (by intro c e; cases e)
  | new o k ih => intro w h; exact ih _ _ h
  | shape r k ih => intro w h; exact ih _ _ h
  | freeze a n k ih => intro w h; exact ih _ (by rw [freeze_drawn]; exact h)
  | frozen a k ih => intro w h; exact ih _ _ h
  | getObj r k ih =>
    intro w h
    rw [Sem.run]
    split
    · exact h
    · exact ih _ _ h
    · exact h
  | setObj r o k ih =>
    intro w h
    rw [Sem.run]
    split
    · exact h
    · exact ih _ h
    · exact h
  | choose q k ih =>
    intro w h
    rw [Sem.run]
    split
    · exact ih _ _ h
    · exact ih _ _ (Nat.le_trans h (Nat.le_succ _))
  | sys c k ih => intro w h; exact ih _ _ (Nat.le_trans h (sys_drawn w c))
  | program k ih => intro w h; exact ih _ _ h
  | mark m k ih => intro w h; exact ih _ h
  | halt e => intro w h; exact h
theorem run_ok {α : Type} {p : Program} {s : Sem α} {w w' : World} {a : α} (h : s.run p w = .ok a w') : w.drawn ≤ w'.drawn := by
  have := run_rD p w.drawn s w (Nat.le_refl _); rw [h] at this; exact this
theorem run_halt {α : Type} {p : Program} {s : Sem α} {w w' : World} {e : Halt} (h : s.run p w = .halt e w') : w.drawn ≤ w'.drawn := by
  have := run_rD p w.drawn s w (Nat.le_refl _); rw [h] at this; exact this
theorem runT_ok {α : Type} {p : Program} {s : Sem α} {w w' : World} {es es' : Array Event} {a : α} (h : s.runT p w es = (.ok a w', es')) : w.drawn ≤ w'.drawn := by
  refine run_ok (p := p) (s := s) (a := a) ?_
  rw [← Sem.runT_fst p s w es, h]
theorem runT_halt {α : Type} {p : Program} {s : Sem α} {w w' : World} {es es' : Array Event} {e : Halt} (h : s.runT p w es = (.halt e w', es')) : w.drawn ≤ w'.drawn := by
  refine run_halt (p := p) (s := s) (e := e) ?_
  rw [← Sem.runT_fst p s w es, h]
/-- What a goroutine's step leaves has drawn no less. -/
def gs (d : Nat) : GStep → Prop
  | .go _ w _ => d ≤ w.drawn
  | .comm _ _ _ _ w _ => d ≤ w.drawn
  | .spawn _ _ w _ => d ≤ w.drawn
  | .count _ w _ => d ≤ w.drawn
  | .timer _ _ w _ => d ≤ w.drawn
  | .alone _ _ w _ => d ≤ w.drawn
  | .newcoro _ _ _ w _ => d ≤ w.drawn
  | .coroswitch _ _ _ w _ => d ≤ w.drawn
  | .collect _ w _ => d ≤ w.drawn
  | .watch _ w _ => d ≤ w.drawn
  | .ended _ _ _ => True
theorem gs_after (d : Nat) (es : Array Event) (s : GStep) : gs d (GStep.after es s) = gs d s := by cases s <;> rfl
theorem gs_dieOf {d : Nat} {fr : Frame} {ah : List ByteArray} {m : String} {b : Bool} {w : World} (h : d ≤ w.drawn) : gs d (dieOf fr ah m b w) := h
theorem gs_endThrow {d : Nat} {fr : Frame} {m : String} {w : World} (h : d ≤ w.drawn) : gs d (endThrow fr m w) := h
theorem gs_endWith {d : Nat} {w : World} {fd : Nat} {t : ByteArray} {o : Outcome} : gs d (endWith w fd t o) := by
  unfold endWith
  simp only []
  repeat' first
    | exact trivial
    | split
theorem gs_endPrinting {d : Nat} {p : Program} {fr : Frame} {v : Value} {w : World} (h : d ≤ w.drawn) : gs d (endPrinting p fr v w) := by
  unfold endPrinting
  simp only []
  repeat' first
    | exact trivial
    | exact gs_endThrow h
    | split
theorem gs_endFatal {d : Nat} {p : Program} {fr : Frame} {cs : List Frame} {dy : Option Dying} {m : String} {w : World} (h : d ≤ w.drawn) : gs d (endFatal p fr cs dy m w) := by
  unfold endFatal
  simp only []
  split
  · exact gs_dieOf (Nat.le_trans h (run_ok (by assumption)))
  · trivial
  · trivial
theorem gs_writeOn {d : Nat} {p : Program} {fr : Frame} {dy : Dying} {f : Fatal} {w : World} (h : d ≤ w.drawn) : gs d (writeOn p fr dy f w) := by
  unfold writeOn
  simp only []
  repeat' first
    | exact trivial
    | exact Nat.le_trans h (runT_ok (by assumption))
    | exact Nat.le_trans h (runT_halt (by assumption))
    | split
theorem runF_ok {α : Type} {p : Program} {s : Sem α} {w w' : World} {es : Array Event} {a : α} (h : (s.runT p w es).1 = .ok a w') : w.drawn ≤ w'.drawn := run_ok ((Sem.runT_fst p s w es).symm.trans h)
theorem runF_halt {α : Type} {p : Program} {s : Sem α} {w w' : World} {es : Array Event} {e : Halt} (h : (s.runT p w es).1 = .halt e w') : w.drawn ≤ w'.drawn := run_halt ((Sem.runT_fst p s w es).symm.trans h)
theorem gs_die {d : Nat} {p : Program} {fr : Frame} {dy : Dying} {w : World} (h : d ≤ w.drawn) : gs d (die p fr dy w) := by
  unfold die
  simp only []
  repeat' first
    | exact trivial
    | rw [gs_after]
    | exact gs_writeOn h
    | exact gs_endWith
    | exact h
    | exact Nat.le_trans h (run_ok (by assumption))
    | exact Nat.le_trans h (runF_ok (by assumption))
    | exact gs_endPrinting (Nat.le_trans h (runF_halt (by assumption)))
    | split
theorem gs_doReturn {d : Nat} {p : Program} {b : Bool} {fr : Frame} {cs : List Frame} {dy : Option Dying} {v : Value} {w : World} (h : d ≤ w.drawn) : gs d (doReturn p b fr cs dy v w) := by
  unfold doReturn
  repeat' first
    | exact trivial
    | exact h
    | split
theorem gs_ite {d : Nat} {c : Prop} [Decidable c] {a b : GStep} (h1 : gs d a) (h2 : gs d b) : gs d (if c then a else b) := by split; exact h1; exact h2
theorem gs_callDeferred {d : Nat} {p : Program} {fr : Frame} {cs : List Frame} {dy : Option Dying} {df : Deferred} {w : World} (h : d ≤ w.drawn) : gs d (callDeferred p fr cs dy df w) := by
  unfold callDeferred
  simp only []
  refine gs_ite trivial ?_
  rw [gs_after]
  repeat' first
    | exact trivial
    | exact Nat.le_trans h (runF_ok (by assumption))
    | exact Nat.le_trans h (runF_halt (by assumption))
    | exact gs_endFatal (Nat.le_trans h (runF_halt (by assumption)))
    | exact gs_endThrow (Nat.le_trans h (runF_halt (by assumption)))
    | split
theorem gs_unwind {d : Nat} {p : Program} {b : Bool} {fr : Frame} {cs : List Frame} {dy : Option Dying} {w : World} (h : d ≤ w.drawn) : gs d (unwind p b fr cs dy w) := by
  unfold unwind
  simp only []
  repeat' first
    | exact trivial
    | rw [gs_after]
    | exact h
    | exact gs_callDeferred h
    | exact gs_endPrinting h
    | exact gs_doReturn h
    | exact Nat.le_trans h (run_ok (by assumption))
    | exact Nat.le_trans h (runF_ok (by assumption))
    | exact gs_doReturn (Nat.le_trans h (runF_ok (by assumption)))
    | split
theorem gs_early {d : Nat} {p : Program} {fr : Frame} {cs : List Frame} {dy : Option Dying} {g : Nat} {w : World} (h : d ≤ w.drawn) : gs d (early p fr cs dy g w) := by
  unfold early
  simp only []
  repeat' first
    | exact trivial
    | exact h
    | exact Nat.le_trans h (run_ok (by assumption))
    | (have q_ := run_ok ‹Sem.run p _ _ = Result.ok _ _›; exact Nat.le_trans h q_)
    | split
theorem gs_apply {d : Nat} {p : Program} {l : Bool} {fr : Frame} {cs : List Frame} {dy : Option Dying} {s : Sem Next} {w : World} (h : d ≤ w.drawn) : gs d (stepG.apply p l fr cs dy s w) := by
  unfold stepG.apply
  simp only []
  generalize hr : (if l = true then s.runT p w #[] else (s.run p w, #[])) = r
  obtain ⟨r, es⟩ := r
  have hrD : rD d r := by
    split at hr
    · have := run_rD p d s w h
      rw [← Sem.runT_fst p s w #[], hr] at this
      exact this
    · have := run_rD p d s w h
      simp only [Prod.mk.injEq] at hr
      rw [hr.1] at this
      exact this
  clear hr
  cases r with
  | ok x w' =>
    have h' : d ≤ w'.drawn := hrD
    simp only [gs_after]
    cases x <;> (try simp only []) <;> repeat' first
      | exact trivial
      | exact h'
      | exact gs_endThrow h'
      | split
  | halt x w' =>
    have h' : d ≤ w'.drawn := hrD
    simp only [gs_after]
    cases x
    case' unsupported u => cases u
    all_goals (try simp only [])
    all_goals repeat' first
      | exact trivial
      | exact h'
      | exact gs_endFatal h'
      | exact gs_endThrow h'
      | exact gs_early h'
      | split
theorem gs_elim {d : Nat} {α : Type} {o : Option α} {a : GStep} {f : α → GStep} (h1 : gs d a) (h2 : ∀ x, gs d (f x)) : gs d (o.elim a f) := by cases o; exact h1; exact h2 _
theorem gs_oper {d : Nat} {p : Program} {l : Bool} {fr : Frame} {cs : List Frame} {dy : Option Dying} {w : World} (h : d ≤ w.drawn) : gs d (stepG.oper p l fr cs dy w) := by
  unfold stepG.oper
  repeat' first
    | exact trivial
    | exact gs_apply h
    | split
theorem gs_stepG {d : Nat} {p : Program} {b l : Bool} {g : Goroutine} {w : World} (h : d ≤ w.drawn) : gs d (stepG p b g w l) := by
  unfold stepG
  simp only []
  split
  · exact gs_die h
  · unfold stepG.exec
    simp only []
    repeat' first
      | exact trivial
      | exact h
      | rw [gs_after]
      | exact gs_oper h
      | refine gs_elim ?_ (fun _ => ?_)
      | exact gs_apply h
      | exact gs_apply (Nat.le_trans h (runF_ok (by assumption)))
      | exact gs_doReturn (Nat.le_trans h (runF_ok (by assumption)))
      | exact Nat.le_trans h (run_ok (by assumption))
      | exact Nat.le_trans h (runF_ok (by assumption))
      | exact Nat.le_trans h (runF_halt (by assumption))
      | split
  · exact gs_unwind h
theorem comm_drawn (p : Program) (rest : Rest) (g0 : Array Goroutine) (i : Nat) (g : Goroutine) (cases : Array CommCase) (blocking : Bool)
    (shape : CommShape) (w : World) (m' : Machine) (h : (communicate p rest g0 i g cases blocking shape w).1 = .next m') : w.drawn ≤ m'.world.drawn := by
  have hwait : ∀ w', waitingAt rest cases w = some w' → w.drawn ≤ w'.drawn := by
    intro w' hw
    unfold waitingAt at hw
    repeat' first
      | (simp at hw; done)
      | (simp only [Option.some.injEq] at hw; subst hw; exact Nat.le_refl _)
      | split at hw
  unfold communicate at h
  simp only [] at h
  repeat' first
    | (simp at h; done)
    | (simp only [Stepped.next.injEq] at h; subst h; first
        | exact Nat.le_refl _
        | exact hwait _ (by assumption)
        | exact run_ok (by assumption)
        | exact Nat.le_trans (run_ok (by assumption)) (run_ok (by assumption))
        | exact Nat.le_trans (run_ok (by assumption)) (run_halt (by assumption))
        | (have q_ := run_ok ‹Sem.run p _ w = Result.ok _ _›; exact q_)
        | (have q1 := run_ok ‹Sem.run p _ w = Result.ok _ _›; have q2 := run_ok ‹Sem.run p (choose _) _ = Result.ok _ _›; exact Nat.le_trans q1 q2))
    | split at h
theorem look_drawn (p : Program) (g0 : Array Goroutine) (rest : Rest) (w : World) (m' : Machine)
    (h : look p g0 rest w = .next m') : w.drawn ≤ m'.world.drawn := by
  unfold look at h
  simp only [] at h
  repeat' first
    | (simp at h; done)
    | (have q_ := run_ok ‹Sem.run p _ w = Result.ok _ _›; simp only [Stepped.next.injEq] at h; subst h; exact q_)
    | split at h
theorem timer_drawn (m : Machine) (op : TimerOp) (v : Value) (m' : Machine) (h : timerOp m op = .ok (v, m')) : m'.world.drawn = m.world.drawn := by
  have hd : ∀ (w : World) (c : Nat), (drain w c).2.drawn = w.drawn := by
    intro w c; unfold drain; split <;> rfl
  have hr : ∀ (m : Machine) (k : Nat) (t : Timer) (a b : Nat), (retime m k t a b).2.world.drawn = m.world.drawn := by
    intro m k t a b
    unfold retime
    simp only []
    split
    · exact hd _ _
    · rfl
  have ho : ∀ (m m2 : Machine) (a : Addr), timerOp.opened m a = some m2 → m2.world.drawn = m.world.drawn := by
    intro m m2 a h
    unfold timerOp.opened at h
    repeat' first
      | (simp at h; done)
      | (simp only [Option.some.injEq] at h; subst h; rfl)
      | split at h
  have hn : ∀ (m : Machine) (a : Addr) (f : Nat → Timer → Value × Machine) (d : Nat), (∀ k t, (f k t).2.world.drawn = d) → ∀ v m', timerOp.named m a f = .ok (v, m') → m'.world.drawn = d := by
    intro m a f d hf v m' h
    unfold timerOp.named at h
    split at h
    · rename_i k _
      simp only [Except.ok.injEq] at h
      have := hf k (m.rest.timers.getD k default)
      rw [h] at this
      exact this
    · simp at h
  unfold timerOp at h
  repeat' first
    | (simp at h; done)
    | exact hn _ _ _ _ (fun k t => hr _ k t _ _) _ _ h
    | (have o_ := ho _ _ _ ‹timerOp.opened m _ = some _›; exact (hn _ _ _ _ (fun k t => hr _ k t _ _) _ _ h).trans o_)
    | (simp only [Except.ok.injEq, Prod.mk.injEq] at h; obtain ⟨_, rfl⟩ := h; rfl)
    | split at h
theorem runTm_drawn (p : Program) (m m' : Machine) (i : Nat) (b : Bool) (h : (runT p m i b).1 = .next m') : m.world.drawn ≤ m'.world.drawn := by
  simp only [runT] at h
  revert h
  generalize m.gs.swapAt! _ _ = gg
  have hg := gs_stepG (d := m.world.drawn) (p := p) (b := i == 0) (l := b) (g := gg.1) (Nat.le_refl m.world.drawn)
  revert hg
  generalize stepG p _ gg.1 m.world b = s
  intro hg h
  cases s <;> simp only [] at h
  all_goals first
    | (simp at h; done)
    | (exact Nat.le_trans hg (comm_drawn _ _ _ _ _ _ _ _ _ _ h))
    | (exact Nat.le_trans hg (look_drawn _ _ _ _ _ h))
    | (simp only [Stepped.next.injEq] at h; subst h; exact hg)
    | (repeat' first
        | (simp at h; done)
        | (have e_ := ‹endThrow _ _ _ = GStep.go _ _ _›; unfold endThrow dieOf at e_; simp only [GStep.go.injEq] at e_; obtain ⟨_, e_, _⟩ := e_; subst e_; simp only [Stepped.next.injEq] at h; subst h; exact hg)
        | (simp only [Stepped.next.injEq] at h; subst h; first
            | exact hg
            | (have q_ := timer_drawn _ _ _ _ ‹timerOp _ _ = Except.ok _›; exact Nat.le_trans hg (Nat.le_of_eq q_.symm)))
        | split at h)
theorem serve_drawn (p : Program) (m m' : Machine) (k : Nat) (h : serve p m k = .next m') : m'.world.drawn = m.world.drawn := by
  unfold serve at h
  simp only [] at h
  repeat' first
    | (simp at h; done)
    | (simp only [Stepped.next.injEq] at h; subst h; rfl)
    | split at h
def mvD (d : Nat) : Move → Prop
  | .goroutine m _ => d ≤ m.world.drawn
  | .machine (.next m) _ => d ≤ m.world.drawn
  | .machine (.ended _ _) _ => True
theorem mv_serve {p : Program} {m : Machine} {k d : Nat} {ops : Array MemOp} (h : d ≤ m.world.drawn) : mvD d (.machine (serve p m k) ops) := by
  cases hs : serve p m k with
  | next m' => exact Nat.le_trans h (Nat.le_of_eq (serve_drawn p m m' k hs).symm)
  | ended o w => trivial
theorem askOn_drawn (p : Program) (m : Machine) (d : Nat) (h : d ≤ m.world.drawn) : mvD d (askOn p m) := by
  unfold askOn
  extract_lets mono rs ds pick
  have hp : ∀ m1 : Machine, d ≤ m1.world.drawn → mvD d (pick m1) := by
    intro m1 h1
    simp only [pick]
    repeat' first
      | exact trivial
      | exact Nat.le_trans h1 (run_ok (by assumption))
      | exact Nat.le_trans h1 (Nat.le_trans (run_ok (by assumption)) (run_ok (by assumption)))
      | split
  clear_value pick rs ds mono
  simp only []
  split
  · trivial
  · rename_i k world hk
    have h1 := Nat.le_trans h (run_ok hk)
    repeat' first
      | exact trivial
      | exact h1
      | exact mv_serve h1
      | exact hp _ h1
      | exact hp _ (Nat.le_trans h1 (run_ok (by assumption)))
      | exact Nat.le_trans h1 (run_ok (by assumption))
      | (have q1 := run_ok ‹Sem.run p _ world = Result.ok _ _›; exact Nat.le_trans h1 q1)
      | (have q1 := run_ok ‹Sem.run p _ world = Result.ok _ _›; exact hp _ (Nat.le_trans h1 q1))
      | split
theorem mv_look {p : Program} {g0 : Array Goroutine} {r : Rest} {w : World} {d : Nat} {ops : Array MemOp} (h : d ≤ w.drawn) : mvD d (.machine (look p g0 r w) ops) := by
  cases hs : look p g0 r w with
  | next m' => exact Nat.le_trans h (look_drawn _ _ _ _ _ hs)
  | ended o w => trivial
theorem ask_drawn' (p : Program) (m : Machine) (d : Nat) (h : d ≤ m.world.drawn) : mvD d (ask p m) := by
  unfold ask
  repeat' first
    | exact trivial
    | exact mv_look (Nat.le_trans h (run_ok (by assumption)))
    | exact askOn_drawn p _ d h
    | exact askOn_drawn p _ d (Nat.le_trans h (run_ok (by assumption)))
    | exact askOn_drawn p _ d (Nat.le_trans h (Nat.le_trans (run_ok (by assumption)) (look_drawn _ _ _ _ _ (by assumption))))
    | split
theorem move_drawn (p : Program) (m : Machine) : mvD m.world.drawn (move p m) := by
  unfold move
  repeat' first
    | exact trivial
    | exact Nat.le_refl _
    | exact ask_drawn' p _ _ (Nat.le_refl _)
    | split
theorem step_drawn (p : Program) (m m' : Machine) (h : step p m = .next m') : m.world.drawn ≤ m'.world.drawn := by
  have hm := move_drawn p m
  simp only [step, stepT] at h
  split at h
  next m₁ i he =>
    rw [he] at hm
    exact Nat.le_trans hm (runTm_drawn p m₁ m' i true h)
  next s ops he =>
    rw [he] at hm
    simp only [] at h
    subst h
    exact hm
theorem runN_drawn (p : Program) : ∀ (n : Nat) (m m' : Machine), runN p n m = .next m' → m.world.drawn ≤ m'.world.drawn
  | 0, m, m', h => by simp only [runN, Stepped.next.injEq] at h; rw [h]; exact Nat.le_refl _
  | n + 1, m, m', h => by
    simp only [runN] at h
    cases hs : step p m with
    | next m₁ => rw [hs] at h; exact Nat.le_trans (step_drawn p m m₁ hs) (runN_drawn p n m₁ m' h)
    | ended o w => rw [hs] at h; simp at h
/-- What a call that hands back has drawn no less: whatever is told of its end, that too. -/
theorem calls_drawn {P : Program} {f : FuncId} {args : Array Value} {w : World} {R : Ending → World → Prop} (h : Calls P f args w R) (hr : ∀ w', ¬ R .outgrown w') : Calls P f args w fun e w' => R e w' ∧ w.drawn ≤ w'.drawn := by
  intro cs
  obtain ⟨e, w', fr, hR, hc, hf, hl⟩ := h cs
  refine ⟨e, w', fr, ⟨hR, ?_⟩, hc, hf, hl⟩
  cases e with
  | returned v => obtain ⟨n, hn⟩ := hc; exact runN_drawn P n _ _ hn
  | panicked c => obtain ⟨n, hn⟩ := hc; exact runN_drawn P n _ _ hn
  | outgrown => exact absurd hR (hr w')
end Go.Proofs.Ytgokegndboknfaa.Dn

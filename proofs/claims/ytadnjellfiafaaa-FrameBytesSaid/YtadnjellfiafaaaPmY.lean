/- The abstract machine, twenty-fourth part: walks whose continuation is data. No law of Go's is stated here. -/
import Derived.Test.YtadnjellfiafaaaPmX
set_option linter.all false
namespace Go.Proofs.Ytadnjellfiafaaa.Pm
open Go Go.RowKit

inductive Kont where
  | base
  | seq (b : C) (k : Kont)
  | block (id : Nat) (k : Kont)

def runK (x : Cx) (f : Ex → S → Prop) : Kont → Ex → S → Prop
  | .base => f
  | .seq b k => fun e s' => match e with
    | .n => W x b (runK x f k) s'
    | e => runK x f k e s'
  | .block id k => fun e s' => match e with
    | .x j => if j = id then runK x f k .n s' else runK x f k (.x j) s'
    | e => runK x f k e s'

section
variable (x : Cx) (f : Ex → S → Prop) (lf : Lock f)
def Rk (k : Kont) (e : Ex) (s : S) (_ : Lock f) : Prop := runK x f k e s
def Wk (k : Kont) (c : C) (s : S) (_ : Lock f) : Prop := W x c (runK x f k) s
def Ok (k : Kont) (r : List I) (s : S) (_ : Lock f) : Prop := wops x r s (runK x f k .n)
theorem Wk_of (c : C) (s : S) : W x c f s = Wk x f .base c s .mk := rfl
theorem Rk_base (e : Ex) (s : S) : Rk x f .base e s lf = f e s := rfl
theorem Rk_seq_n (b : C) (k : Kont) (s : S) : Rk x f (.seq b k) .n s lf = Wk x f k b s lf := rfl
theorem Rk_seq_x (b : C) (k : Kont) (i : Nat) (s : S) : Rk x f (.seq b k) (.x i) s lf = Rk x f k (.x i) s lf := rfl
theorem Rk_seq_r (b : C) (k : Kont) (s : S) : Rk x f (.seq b k) .r s lf = Rk x f k .r s lf := rfl
theorem Rk_seq_g (b : C) (k : Kont) (i : Nat) (s : S) : Rk x f (.seq b k) (.g i) s lf = Rk x f k (.g i) s lf := rfl
theorem Rk_block_n (id : Nat) (k : Kont) (s : S) : Rk x f (.block id k) .n s lf = Rk x f k .n s lf := rfl
theorem Rk_block_r (id : Nat) (k : Kont) (s : S) : Rk x f (.block id k) .r s lf = Rk x f k .r s lf := rfl
theorem Rk_block_g (id : Nat) (k : Kont) (i : Nat) (s : S) : Rk x f (.block id k) (.g i) s lf = Rk x f k (.g i) s lf := rfl
theorem Rk_block_x (id : Nat) (k : Kont) (i : Nat) (s : S) : Rk x f (.block id k) (.x i) s lf = if i = id then Rk x f k .n s lf else Rk x f k (.x i) s lf := rfl
theorem Wk_skip (k : Kont) (s : S) : Wk x f k .skip s lf = Rk x f k .n s lf := by unfold Wk; rw [W_skip]; rfl
theorem Wk_label (k : Kont) (s : S) : Wk x f k .label s lf = Rk x f k .n s lf := by unfold Wk; rw [W_label]; rfl
theorem Wk_ret (k : Kont) (s : S) : Wk x f k .ret s lf = Rk x f k .r s lf := by unfold Wk; rw [W_ret]; rfl
theorem Wk_exit (k : Kont) (i : Nat) (s : S) : Wk x f k (.exit i) s lf = Rk x f k (.x i) s lf := by unfold Wk; rw [W_exit]; rfl
theorem Wk_goto (k : Kont) (i : Nat) (s : S) : Wk x f k (.goto i) s lf = Rk x f k (.g i) s lf := by unfold Wk; rw [W_goto]; rfl
theorem Wk_seq (k : Kont) (a b : C) (s : S) : Wk x f k (.seq a b) s lf = Wk x f (.seq b k) a s lf := by unfold Wk; rw [W_seq]; rfl
theorem Wk_block (k : Kont) (id : Nat) (c : C) (s : S) : Wk x f k (.block id c) s lf = Wk x f (.block id k) c s lf := by unfold Wk; rw [W_block]; rfl
theorem Wk_reg (k : Kont) (r : List I) (s : S) : Wk x f k (.reg r) s lf = Ok x f k r s lf := by unfold Wk; rw [W_reg]; rfl
/-- At a loop: what follows is not looked at. -/
def Lk (k : Kont) (ad : List (Nat × Nat)) (mk : List Nat) (c : C) (s : S) (_ : Lock (f, k, c)) : Prop := wloop (hdL ad mk (adopt ad s)) (W x c) (runK x f k) (adopt ad s) .mk .mk
theorem Wk_loop (k : Kont) (ad : List (Nat × Nat)) (mk : List Nat) (c : C) (s : S) : Wk x f k (.loop ad mk c) s lf = Lk x f k ad mk c s .mk := by unfold Wk Lk; rw [W_loop]
theorem Wk_cond (k : Kont) (o : Operand) (a b : C) (tm : Tm) (hp : List Blk) : Wk x f k (.cond o a b) ⟨tm, hp⟩ lf = wguard1 (ev tm o) (Wk x f k a ⟨tm, hp⟩ lf) (Wk x f k b ⟨tm, hp⟩ lf) .mk .mk := by unfold Wk; rw [W_cond']
/-- Behind a statement: the slots that live on are reckoned out before the walk goes on. -/
def Nk (k : Kont) (tm : Tm) (hp : List Blk) (_ : Lock (f, k)) : Prop := Rk x f k .n ⟨tm, hp⟩ .mk
theorem Nk_eq (k : Kont) (tm : Tm) (hp : List Blk) (l : Lock (f, k)) : Nk x f k tm hp l = Rk x f k .n ⟨tm, hp⟩ .mk := rfl
theorem Wk_keep (k : Kont) (ts : List Nat) (tm : Tm) (hp : List Blk) : Wk x f k (.keep ts) ⟨tm, hp⟩ lf = Nk x f k (restr tm ts) hp .mk := by unfold Wk Nk; rw [W_keep]; rfl
def Gk (k : Kont) (ad : List (Nat × Nat)) (mk : List Nat) (c : C) (gs : List (Nat × C)) (s : S) (_ : Lock (f, k, c, gs)) : Prop := wscope (fun m s => cut mk m (adopt ad s)) (Ws x gs) (W x c) (runK x f k) s .mk .mk .mk
theorem Wk_scope (k : Kont) (ad : List (Nat × Nat)) (mk : List Nat) (c : C) (gs : List (Nat × C)) (s : S) : Wk x f k (.scope ad mk c gs) s lf = Gk x f k ad mk c gs s .mk := by unfold Wk Gk; rw [W_scope]

/-! ### Operations in a row -/
def wupk (us : List (Nat × Blk)) (k : Kont) (tm : Tm) (hp : List Blk) (r : List I) (_ : Lock (f, k, tm, r)) : Prop := Ok x f k r ⟨tm, upds hp us⟩ .mk
theorem wupk_nil (k : Kont) (tm : Tm) (hp : List Blk) (r : List I) (l : Lock (f, k, tm, r)) : wupk x f [] k tm hp r l = Ok x f k r ⟨tm, hp⟩ .mk := rfl
theorem wupk_cons (u : Nat × Blk) (us : List (Nat × Blk)) (k : Kont) (tm : Tm) (hp : List Blk) (r : List I) (l : Lock (f, k, tm, r)) : wupk x f (u :: us) k tm hp r l = wupk x f us k tm (upd1 hp u) r l := rfl
def wqvk (q : Res) (k : Kont) (d : Option Nat) (tm : Tm) (hp : List Blk) (r : List I) (_ : Lock (f, k, tm, hp, r)) : Prop :=
  match q with
  | some (p, v, us) => p ∧ wupk x f us k (pt tm d (some v)) hp r .mk
  | none => False
theorem wqvk_some (p : Prop) (v : AV) (us : List (Nat × Blk)) (k : Kont) (d : Option Nat) (tm : Tm) (hp : List Blk) (r : List I) (l : Lock (f, k, tm, hp, r)) : wqvk x f (some (p, v, us)) k d tm hp r l = (p ∧ wupk x f us k (pt tm d (some v)) hp r .mk) := rfl
def wcallk (k : Kont) (d : Option Nat) (tm : Tm) (hp : List Blk) (r : List I) (g : Nat) (as : List AV) (_ : Lock (f, k, tm, r)) : Prop :=
  wcall x (lk hp) hp.length g as (fun v us => wupk x f us k (pt tm d (some v)) hp r .mk) .mk
def wqck (fo : Option AV) (as : Option (List AV)) (k : Kont) (d : Option Nat) (tm : Tm) (hp : List Blk) (r : List I) (_ : Lock (f, k, tm, r)) : Prop :=
  match fo, as with
  | some (.fn g cap), some vs => wcallk x f k d tm hp r g (vs ++ cap) .mk
  | _, _ => False
theorem wqck_fn (g : Nat) (cap vs : List AV) (k : Kont) (d : Option Nat) (tm : Tm) (hp : List Blk) (r : List I) (l : Lock (f, k, tm, r)) : wqck x f (some (.fn g cap)) (some vs) k d tm hp r l = wcallk x f k d tm hp r g (vs ++ cap) l := rfl
def wstk (q : Option (Prop × S)) (k : Kont) (r : List I) (_ : Lock (f, k, r)) : Prop :=
  match q with
  | some (p, s') => p ∧ Ok x f k r s' .mk
  | none => False
theorem wstk_some (p : Prop) (s' : S) (k : Kont) (r : List I) (l : Lock (f, k, r)) : wstk x f (some (p, s')) k r l = (p ∧ Ok x f k r s' .mk) := rfl
def wqsk (co : Option (Operand × List Operand)) (k : Kont) (d : Option Nat) (op : Op) (tm : Tm) (hp : List Blk) (r : List I) (_ : Lock (f, k, tm, hp, r, op)) : Prop :=
  match co with
  | some (fo, as) => wqck x f (ev tm fo) (evs tm as) k d tm hp r .mk
  | none => wqvk x f (q x.ti tm (lk hp) hp.length op) k d tm hp r .mk
theorem wqsk_some (fo : Operand) (as : List Operand) (k : Kont) (d : Option Nat) (op : Op) (tm : Tm) (hp : List Blk) (r : List I) (l : Lock (f, k, tm, hp, r, op)) : wqsk x f (some (fo, as)) k d op tm hp r l = wqck x f (ev tm fo) (evs tm as) k d tm hp r .mk := rfl
theorem wqsk_none (k : Kont) (d : Option Nat) (op : Op) (tm : Tm) (hp : List Blk) (r : List I) (l : Lock (f, k, tm, hp, r, op)) : wqsk x f none k d op tm hp r l = wqvk x f (q x.ti tm (lk hp) hp.length op) k d tm hp r .mk := rfl
def Sk (b : Bool) (k : Kont) (d : Option Nat) (op : Op) (tm : Tm) (hp : List Blk) (r : List I) (_ : Lock (f, k, tm, hp, r, op)) : Prop :=
  match b with
  | true => wstk x f (qst x ⟨tm, hp⟩ d op) k r .mk
  | false => wqsk x f (callOf op) k d op tm hp r .mk
theorem Sk_true (k : Kont) (d : Option Nat) (op : Op) (tm : Tm) (hp : List Blk) (r : List I) (l : Lock (f, k, tm, hp, r, op)) : Sk x f true k d op tm hp r l = wstk x f (qst x ⟨tm, hp⟩ d op) k r .mk := rfl
theorem Sk_false (k : Kont) (d : Option Nat) (op : Op) (tm : Tm) (hp : List Blk) (r : List I) (l : Lock (f, k, tm, hp, r, op)) : Sk x f false k d op tm hp r l = wqsk x f (callOf op) k d op tm hp r l := rfl
theorem Sk_of (k : Kont) (d : Option Nat) (op : Op) (tm : Tm) (hp : List Blk) (r : List I) : wstep (isSt op) x d op tm hp (fun s' => wops x r s' (runK x f k .n)) .mk .mk .mk = Sk x f (isSt op) k d op tm hp r .mk := by
  unfold wstep Sk
  cases isSt op
  · simp only [wqs, wqsk]
    cases callOf op with
    | none => rfl
    | some p => rfl
  · rfl
theorem Ok_plain (k : Kont) (d : Option Nat) (op : Op) (r : List I) (tm : Tm) (hp : List Blk) : Ok x f k (⟨d, op, none⟩ :: r) ⟨tm, hp⟩ lf = Sk x f (isSt op) k d op tm hp r .mk := by
  unfold Ok
  rw [wops_plain', Sk_of]
theorem Ok_guard (k : Kont) (d : Option Nat) (op : Op) (t : Nat) (want : Bool) (r : List I) (tm : Tm) (hp : List Blk) : Ok x f k (⟨d, op, some (t, want)⟩ :: r) ⟨tm, hp⟩ lf =
    wguard (gt tm t) want (Sk x f (isSt op) k d op tm hp r .mk) (Ok x f k r ⟨pt tm d (some (.tup [])), hp⟩ lf) .mk .mk := by
  unfold Ok
  rw [wops_guard2, Sk_of]
theorem Ok_nil (k : Kont) (s : S) : Ok x f k [] s lf = Rk x f k .n s lf := rfl

/-! ### A statement whose order is open -/
def Dk (k : Kont) (l : List D) (n : Nat) (lg : Lg) (s : S) (_ : Lock f) : Prop := wdraw x l n lg s (runK x f k .n)
theorem Wk_draw (k : Kont) (l : List D) (s : S) : Wk x f k (.draw l) s lf = Dk x f k l 0 [] s lf := by unfold Wk; rw [W_draw]; rfl
theorem Dk_nil (k : Kont) (n : Nat) (lg : Lg) (s : S) : Dk x f k [] n lg s lf = Rk x f k .n s lf := rfl
def wupd (us : List (Nat × Blk)) (k : Kont) (n : Nat) (lg : Lg) (tm : Tm) (hp : List Blk) (r : List D) (_ : Lock (f, k, lg, tm, r)) : Prop := Dk x f k r n lg ⟨tm, upds hp us⟩ .mk
theorem wupd_nil (k : Kont) (n : Nat) (lg : Lg) (tm : Tm) (hp : List Blk) (r : List D) (l : Lock (f, k, lg, tm, r)) : wupd x f [] k n lg tm hp r l = Dk x f k r n lg ⟨tm, hp⟩ .mk := rfl
theorem wupd_cons (u : Nat × Blk) (us : List (Nat × Blk)) (k : Kont) (n : Nat) (lg : Lg) (tm : Tm) (hp : List Blk) (r : List D) (l : Lock (f, k, lg, tm, r)) : wupd x f (u :: us) k n lg tm hp r l = wupd x f us k n lg tm (upd1 hp u) r l := rfl
def wlog (w ft : List Nat) (us : List (Nat × Blk)) (na : List Nat) (k : Kont) (n : Nat) (lg : Lg) (tm : Tm) (hp : List Blk) (r : List D) (_ : Lock (f, k, lg, tm, hp, r)) : Prop :=
  free na ft w lg = true ∧ wupd x f us k (n + 1) ((n, w, ft) :: lg) tm hp r .mk
theorem wlog_eq (w ft : List Nat) (us : List (Nat × Blk)) (na : List Nat) (k : Kont) (n : Nat) (lg : Lg) (tm : Tm) (hp : List Blk) (r : List D) (l : Lock (f, k, lg, tm, hp, r)) :
    wlog x f w ft us na k n lg tm hp r l = (free na ft w lg = true ∧ wupd x f us k (n + 1) ((n, w, ft) :: lg) tm hp r .mk) := rfl
def wqvd (q : Res) (ft na : List Nat) (k : Kont) (n : Nat) (lg : Lg) (d : Option Nat) (tm : Tm) (hp : List Blk) (r : List D) (_ : Lock (f, k, lg, tm, hp, r)) : Prop :=
  match q with
  | some (p, v, us) => p ∧ wlog x f (fsts us) ft us na k n lg (pt tm d (some v)) hp r .mk
  | none => False
theorem wqvd_some (p : Prop) (v : AV) (us : List (Nat × Blk)) (ft na : List Nat) (k : Kont) (n : Nat) (lg : Lg) (d : Option Nat) (tm : Tm) (hp : List Blk) (r : List D) (l : Lock (f, k, lg, tm, hp, r)) :
    wqvd x f (some (p, v, us)) ft na k n lg d tm hp r l = (p ∧ wlog x f (fsts us) ft us na k n lg (pt tm d (some v)) hp r .mk) := rfl
def wcalld (ft na : List Nat) (k : Kont) (n : Nat) (lg : Lg) (d : Option Nat) (tm : Tm) (hp : List Blk) (r : List D) (g : Nat) (as : List AV) (_ : Lock (f, k, lg, tm, r)) : Prop :=
  wcall x (lk hp) hp.length g as (fun v us => wlog x f (fsts us) ft us na k n lg (pt tm d (some v)) hp r .mk) .mk
def wqcd (fo : Option AV) (as : Option (List AV)) (ft na : List Nat) (k : Kont) (n : Nat) (lg : Lg) (d : Option Nat) (tm : Tm) (hp : List Blk) (r : List D) (_ : Lock (f, k, lg, tm, r)) : Prop :=
  match fo, as with
  | some (.fn g cap), some vs => wcalld x f ft na k n lg d tm hp r g (vs ++ cap) .mk
  | _, _ => False
theorem wqcd_fn (g : Nat) (cap vs : List AV) (ft na : List Nat) (k : Kont) (n : Nat) (lg : Lg) (d : Option Nat) (tm : Tm) (hp : List Blk) (r : List D) (l : Lock (f, k, lg, tm, r)) :
    wqcd x f (some (.fn g cap)) (some vs) ft na k n lg d tm hp r l = wcalld x f ft na k n lg d tm hp r g (vs ++ cap) l := rfl
def wqsd (co : Option (Operand × List Operand)) (ft na : List Nat) (k : Kont) (n : Nat) (lg : Lg) (d : Option Nat) (op : Op) (tm : Tm) (hp : List Blk) (r : List D) (_ : Lock (f, k, lg, tm, hp, r, op)) : Prop :=
  match co with
  | some (fo, as) => wqcd x f (ev tm fo) (evs tm as) ft na k n lg d tm hp r .mk
  | none => wqvd x f (q x.ti tm (lk hp) hp.length op) ft na k n lg d tm hp r .mk
theorem wqsd_some (fo : Operand) (as : List Operand) (ft na : List Nat) (k : Kont) (n : Nat) (lg : Lg) (d : Option Nat) (op : Op) (tm : Tm) (hp : List Blk) (r : List D) (l : Lock (f, k, lg, tm, hp, r, op)) :
    wqsd x f (some (fo, as)) ft na k n lg d op tm hp r l = wqcd x f (ev tm fo) (evs tm as) ft na k n lg d tm hp r .mk := rfl
theorem wqsd_none (ft na : List Nat) (k : Kont) (n : Nat) (lg : Lg) (d : Option Nat) (op : Op) (tm : Tm) (hp : List Blk) (r : List D) (l : Lock (f, k, lg, tm, hp, r, op)) :
    wqsd x f none ft na k n lg d op tm hp r l = wqvd x f (q x.ti tm (lk hp) hp.length op) ft na k n lg d tm hp r .mk := rfl
def wstd (q : Option (Prop × Option AV × Nat × Blk)) (ft na : List Nat) (k : Kont) (n : Nat) (lg : Lg) (d : Option Nat) (tm : Tm) (hp : List Blk) (r : List D) (_ : Lock (f, k, lg, tm, hp, r)) : Prop :=
  match q with
  | some (p, v, id, b) => p ∧ free na ft [id] lg = true ∧ Dk x f k r (n + 1) ((n, [id], ft) :: lg) ⟨pt tm d v, hp.set id b⟩ .mk
  | none => False
theorem wstd_some (p : Prop) (v : Option AV) (id : Nat) (b : Blk) (ft na : List Nat) (k : Kont) (n : Nat) (lg : Lg) (d : Option Nat) (tm : Tm) (hp : List Blk) (r : List D) (l : Lock (f, k, lg, tm, hp, r)) :
    wstd x f (some (p, v, id, b)) ft na k n lg d tm hp r l = (p ∧ free na ft [id] lg = true ∧ Dk x f k r (n + 1) ((n, [id], ft) :: lg) ⟨pt tm d v, hp.set id b⟩ .mk) := rfl
def Sd (b : Bool) (ft na : List Nat) (k : Kont) (n : Nat) (lg : Lg) (d : Option Nat) (op : Op) (tm : Tm) (hp : List Blk) (r : List D) (_ : Lock (f, k, lg, tm, hp, r, op)) : Prop :=
  match b with
  | true => wstd x f (qw x.ti tm (lk hp) d op) ft na k n lg d tm hp r .mk
  | false => wqsd x f (callOf op) ft na k n lg d op tm hp r .mk
theorem Sd_true (ft na : List Nat) (k : Kont) (n : Nat) (lg : Lg) (d : Option Nat) (op : Op) (tm : Tm) (hp : List Blk) (r : List D) (l : Lock (f, k, lg, tm, hp, r, op)) :
    Sd x f true ft na k n lg d op tm hp r l = wstd x f (qw x.ti tm (lk hp) d op) ft na k n lg d tm hp r .mk := rfl
theorem Sd_false (ft na : List Nat) (k : Kont) (n : Nat) (lg : Lg) (d : Option Nat) (op : Op) (tm : Tm) (hp : List Blk) (r : List D) (l : Lock (f, k, lg, tm, hp, r, op)) :
    Sd x f false ft na k n lg d op tm hp r l = wqsd x f (callOf op) ft na k n lg d op tm hp r l := rfl
theorem wqd_of (na : List Nat) (k : Kont) (n : Nat) (lg : Lg) (d : Option Nat) (op : Op) (tm : Tm) (hp : List Blk) (r : List D) :
    wq x tm (lk hp) hp.length op (fun v us => free na (foot tm op) (fsts us) lg = true ∧ wdraw x r (n + 1) ((n, fsts us, foot tm op) :: lg) ⟨pt tm d (some v), upds hp us⟩ (runK x f k .n)) = wqsd x f (callOf op) (foot tm op) na k n lg d op tm hp r .mk := by
  unfold wq wqsd
  cases callOf op with
  | none => rfl
  | some p => rfl
theorem Dk_plain (na : List Nat) (k : Kont) (n : Nat) (lg : Lg) (d : Option Nat) (op : Op) (r : List D) (tm : Tm) (hp : List Blk) :
    Dk x f k (⟨⟨d, op, none⟩, na⟩ :: r) n lg ⟨tm, hp⟩ lf = Sd x f (isSt op) (foot tm op) na k n lg d op tm hp r .mk := by
  unfold Dk Sd
  rw [wdraw]
  simp only
  cases isSt op
  · simp only
    rw [wqd_of]
  · simp only [wstd]
    cases qw x.ti tm (lk hp) d op with
    | none => rfl
    | some p => rfl
/-- One that writes bears no guard there. -/
def Gd (b : Bool) (P : Prop) (_ : Lock P) : Prop := b = false ∧ P
theorem Gd_false (P : Prop) (l : Lock P) : Gd false P l = P := by simp [Gd]
theorem Dk_guard (na : List Nat) (k : Kont) (n : Nat) (lg : Lg) (d : Option Nat) (op : Op) (t : Nat) (want : Bool) (r : List D) (tm : Tm) (hp : List Blk) :
    Dk x f k (⟨⟨d, op, some (t, want)⟩, na⟩ :: r) n lg ⟨tm, hp⟩ lf = Gd (isSt op) (wguard (gt tm t) want (Sd x f (isSt op) (foot tm op) na k n lg d op tm hp r .mk) (Dk x f k r (n + 1) lg ⟨pt tm d (some (.tup [])), hp⟩ lf) .mk .mk) .mk := by
  unfold Dk Sd Gd
  rw [wdraw]
  simp only
  cases isSt op
  · simp only [wqd_of, true_and]
    rfl
  · simp
end
/-- A loop, by a measure. -/
theorem loop_k {x : Cx} {f : Ex → S → Prop} {k : Kont} {hd : S → S} {c : C} {α : Type} (F : α → S) (μ : α → Nat) (G : α → Prop)
    (step : ∀ a, G a → ∀ R : S → Prop, (∀ a' s, hd s = F a' → G a' → μ a' < μ a → R s) → Wk x (fun e s' => match e with | .n => R s' | e => Rk x f k e s' .mk) .base c (F a) .mk) {a : α} {s : S} {lb : Lock (W x c)} {lK : Lock (runK x f k)} (hs : hd s = F a) (ha : G a) :
    wloop hd (W x c) (runK x f k) s lb lK := loop_ind F μ G step hs ha
/-- The same, as the walk shows it. -/
theorem loop_l {x : Cx} {f : Ex → S → Prop} {k : Kont} {ad : List (Nat × Nat)} {mk : List Nat} {c : C} {s : S} {l : Lock (f, k, c)} {α : Type} (F : α → S) (μ : α → Nat) (G : α → Prop)
    (a : α) (hs : hdL ad mk (adopt ad s) (adopt ad s) = F a) (ha : G a)
    (step : ∀ a, G a → ∀ R : S → Prop, (∀ a' s', hdL ad mk (adopt ad s) s' = F a' → G a' → μ a' < μ a → R s') → Wk x (fun e s' => match e with | .n => R s' | e => Rk x f k e s' .mk) .base c (F a) .mk) :
    Lk x f k ad mk c s l := loop_k F μ G step hs ha
/-! ### Arguments -/
theorem argsOK_nil (h : H) : argsOK h [] [] = True := by simp [argsOK]
theorem argsOK_cons (h : H) (v : AV) (vs : List AV) (y : T) (ys : List T) : argsOK h (v :: vs) (y :: ys) = (argOK h v y ∧ argsOK h vs ys) := by
  simp only [argsOK]
  refine propext ⟨fun ⟨a, b, e, h1, h2⟩ => ?_, fun ⟨h1, h2⟩ => ⟨y, ys, rfl, h1, h2⟩⟩
  simp only [List.cons.injEq] at e
  obtain ⟨rfl, rfl⟩ := e
  exact ⟨h1, h2⟩
theorem argCs_nil (h : H) : argCs h [] [] = True := by simp [argCs]
theorem argCs_cons (h : H) (v : AV) (vs : List AV) (y : T) (ys : List T) : argCs h (v :: vs) (y :: ys) = (arg1 h v y ∧ argCs h vs ys) := by
  simp only [argCs]
  refine propext ⟨fun ⟨a, b, e, h1, h2⟩ => ?_, fun ⟨h1, h2⟩ => ⟨y, ys, rfl, h1, h2⟩⟩
  simp only [List.cons.injEq] at e
  obtain ⟨rfl, rfl⟩ := e
  exact ⟨h1, h2⟩
theorem arg1_t (h : H) (x y : T) (l : Bool) : arg1 h (.t x l) y = (x = y) := rfl
theorem arg1_nl (h : H) (y : T) : arg1 h .nl y = (y = .sl [] ∨ y = .nl) := rfl
theorem arg1_e0 (h : H) (y : T) : arg1 h .e0 y = (y = .sl []) := rfl
/-- A row that is read. -/
def rowIs (r : Option (Nat × List (List T) × Bool)) (off len : Nat) (es : List (List T)) : Prop :=
  match r with
  | some (_, es', _) => off + len ≤ es'.length ∧ (es'.drop off).take len = es
  | none => False
theorem rowIs_some (z : Nat) (es' : List (List T)) (l : Bool) (off len : Nat) (es : List (List T)) : rowIs (some (z, es', l)) off len es = (off + len ≤ es'.length ∧ (es'.drop off).take len = es) := rfl
theorem arg1_row (h : H) (id ver off len : Nat) (es : List (List T)) : arg1 h (.row id ver off len) (.sl es) = rowIs (rowOf h id ver) off len es := by
  simp only [arg1, elems, rowIs]
  cases hr : rowOf h id ver with
  | none => simp
  | some r =>
    obtain ⟨z, es', l⟩ := r
    simp only
    by_cases hl : off + len ≤ es'.length
    · simp only [if_pos hl, hl, true_and]
      refine propext ⟨fun ⟨p, h1, h2⟩ => ?_, fun h2 => ⟨_, rfl, by rw [← h2]⟩⟩
      cases h1
      simp only [T.sl.injEq] at h2
      exact h2.symm
    · simp [hl]
/-- A part of a variable that is read. -/
def vsIs (r : Option (List AV)) (off len z : Nat) (es : List (List T)) : Prop :=
  match r with
  | some cs => match plains ((cs.drop off).take (len * z)) with
    | some (xs, _) => off + len * z ≤ cs.length ∧ len ≤ room ∧ 0 < z ∧ (∀ e ∈ chunk z len xs, e.length = z) ∧ es = chunk z len xs
    | none => False
  | none => False
theorem arg1_vs (h : H) (id off len z : Nat) (es : List (List T)) : arg1 h (.vs id off len z) (.sl es) = vsIs (varOf h id) off len z es := by
  simp only [arg1, elems, vsIs]
  cases varOf h id with
  | none => simp
  | some cs =>
    try simp only
    cases plains ((cs.drop off).take (len * z)) with
    | none => simp
    | some r =>
      obtain ⟨xs, l⟩ := r
      try simp only
      by_cases hl : off + len * z ≤ cs.length ∧ len ≤ room
      · simp only [if_pos hl, hl.1, hl.2, true_and]
        refine propext ⟨fun ⟨p, h1, h2, h3, h4⟩ => ?_, fun ⟨h2, h3, h4⟩ => ⟨_, rfl, h2, h3, by rw [h4]⟩⟩
        cases h1
        simp only [T.sl.injEq] at h4
        exact ⟨h2, h3, h4⟩
      · simp only [if_neg hl]
        refine propext ⟨fun ⟨p, h1, _⟩ => (by cases h1), fun ⟨h2, h3, _⟩ => (hl ⟨h2, h3⟩).elim⟩
def ptIs (r : Option (List AV)) (off : Nat) (ps : List T) : Prop :=
  match r with
  | some cs => match plains (cs.drop off) with
    | some (xs, _) => ps = xs
    | none => False
  | none => False
theorem arg1_ptr (h : H) (id off : Nat) (ps : List T) : arg1 h (.ptr id off) (.pt ps) = ptIs (varOf h id) off ps := by
  simp only [arg1, ptIs]
  cases varOf h id with
  | none => simp
  | some cs =>
    simp only [Option.some.injEq]
    cases hp : plains (cs.drop off) with
    | none =>
      try simp only
      refine propext ⟨fun ⟨cs', p, h1, h2, _⟩ => ?_, fun h => h.elim⟩
      subst h1
      rw [hp] at h2
      cases h2
    | some r =>
      obtain ⟨xs, l⟩ := r
      try simp only
      refine propext ⟨fun ⟨cs', p, h1, h2, h3⟩ => ?_, fun h => ⟨cs, _, rfl, hp, by rw [h]⟩⟩
      subst h1
      rw [hp] at h2
      simp only [Option.some.injEq] at h2
      subst h2
      simp only [T.pt.injEq] at h3
      exact h3
theorem argOK_t (h : H) (x y : T) (l : Bool) : argOK h (.t x l) y = (x = y) := rfl
theorem argOK_nl (h : H) (y : T) : argOK h .nl y = (y = .sl [] ∨ y = .nl) := rfl
theorem argOK_e0 (h : H) (y : T) : argOK h .e0 y = (y = .sl []) := rfl
theorem argOK_row (h : H) (id ver off len : Nat) (es : List (List T)) : argOK h (.row id ver off len) (.sl es) = rowIs (rowOf h id ver) off len es := arg1_row h id ver off len es
theorem argOK_vs (h : H) (id off len z : Nat) (es : List (List T)) : argOK h (.vs id off len z) (.sl es) = vsIs (varOf h id) off len z es := arg1_vs h id off len z es
theorem argOK_ptr (h : H) (id off : Nat) (ps : List T) : argOK h (.ptr id off) (.pt ps) = ptIs (varOf h id) off ps := arg1_ptr h id off ps
theorem argOK_agg (h : H) (cs : List AV) (p : List T) : argOK h (.agg cs) (.agg p) = argCs h cs p := by
  simp only [argOK]
  refine propext ⟨fun ⟨q, e, h1⟩ => ?_, fun h1 => ⟨p, rfl, h1⟩⟩
  simp only [T.agg.injEq] at e
  rw [e]; exact h1
theorem argOK_fn (h : H) (f g : Nat) (cs : List AV) (p : List T) : argOK h (.fn f cs) (.fn g p) = (f = g ∧ argCs h cs p) := by
  simp only [argOK, T.fn.injEq]
  refine propext ⟨fun ⟨q, e, h1⟩ => ?_, fun ⟨e, h1⟩ => ⟨p, ⟨e.symm, rfl⟩, h1⟩⟩
  obtain ⟨rfl, rfl⟩ := e
  exact ⟨rfl, h1⟩
theorem loose_t (x : T) (l : Bool) : AV.loose (.t x l) = false := rfl
theorem loose_nl : AV.loose .nl = false := rfl
theorem loose_e0 : AV.loose .e0 = false := rfl
theorem loose_row (id ver off len : Nat) : AV.loose (.row id ver off len) = true := rfl
theorem loose_vs (id off len z : Nat) : AV.loose (.vs id off len z) = true := rfl
theorem loose_ptr (id off : Nat) : AV.loose (.ptr id off) = true := rfl
theorem loose_fn0 (f : Nat) : AV.loose (.fn f []) = false := rfl
/-- A function's contract, from its walk. -/
theorem spec_k {P : Program} {x : Cx} (hx : Hold P x) {f n : Nat} {fl : List Nat} {hs : List Hint} {C : C} {res : List ResultVar} (hB : Body P f fl hs C n res) {ts : List T} (r : List (T × Bool)) (hW : Wk x (retT x.ti res r) .base C (s0 ts n) .mk) : Spec P f ts [] (resV (r.map AV.ofT)) := spec_t hx hB r hW
theorem spec_kr {P : Program} {x : Cx} (hx : Hold P x) {f n : Nat} {fl : List Nat} {hs : List Hint} {C : C} {res : List ResultVar} (hB : Body P f fl hs C n res) {ts : List T} (z : Nat) (es : List (List T)) (l : Bool) (hW : Wk x (retR x.ti res z es l) .base C (s0 ts n) .mk) : Spec P f ts [.row 0 z es l] (.row 0 0 0 es.length) := spec_r hx hB z es l hW

/-! ### Results of every form -/
/-- At a return: what is handed back. -/
def ends (hp : List Blk) (bs : List Blk) (rs vs : List AV) (_ : Lock (hp, bs)) : Prop := ∃ π, outB (lk hp) π bs ∧ outs2 (lk hp) π rs vs
theorem ends_mk {hp bs : List Blk} {rs vs : List AV} {l : Lock (hp, bs)} (π : List Nat) (h1 : outB (lk hp) π bs) (h2 : outs2 (lk hp) π rs vs) : ends hp bs rs vs l := ⟨π, h1, h2⟩
def endR (q : Option (Prop × List AV)) (hp : List Blk) (bs : List Blk) (rs : List AV) (_ : Lock (hp, bs, rs)) : Prop :=
  match q with
  | some (p, vs) => p ∧ ends hp bs rs vs .mk
  | none => False
theorem endR_some (p : Prop) (vs : List AV) (hp bs : List Blk) (rs : List AV) (l : Lock (hp, bs, rs)) : endR (some (p, vs)) hp bs rs l = (p ∧ ends hp bs rs vs .mk) := rfl
theorem retO_r (ti : Nat → Option TI) (res : List ResultVar) (bs : List Blk) (rs : List AV) (tm : Tm) (hp : List Blk) : retO ti res bs rs .r ⟨tm, hp⟩ = endR (resAV ti ⟨tm, hp⟩ res) hp bs rs .mk := by
  unfold retO endR ends
  rfl
theorem retO_n (ti : Nat → Option TI) (res : List ResultVar) (bs : List Blk) (rs : List AV) (tm : Tm) (hp : List Blk) : retO ti res bs rs .n ⟨tm, hp⟩ = endR (resAV ti ⟨tm, hp⟩ res) hp bs rs .mk := by
  unfold retO endR ends
  rfl
theorem outB_nil (h : H) : outB h [] [] = True := rfl
def outB1 : Option Blk → Blk → Prop
  | some (.row _ z es' l'), .row _ z2 es l => z = z2 ∧ es'.take es.length = es ∧ es.length ≤ es'.length ∧ (l = true → l' = true)
  | _, _ => False
theorem outB_cons (h : H) (id : Nat) (π : List Nat) (z : Nat) (es : List (List T)) (l : Bool) (bs : List Blk) : outB h (id :: π) (.row 0 z es l :: bs) = (outB1 (h id) (.row 0 z es l) ∧ id ∉ π ∧ outB h π bs) := by
  simp only [outB]
  refine propext ⟨fun ⟨⟨v, z', es0, es', l0, l', e1, e2, e3, e4, e5⟩, h2⟩ => ⟨?_, h2⟩, fun ⟨h1, h2⟩ => ⟨?_, h2⟩⟩
  · simp only [Blk.row.injEq, true_and] at e2
    obtain ⟨rfl, rfl, rfl⟩ := e2
    rw [e1]
    exact ⟨rfl, e3, e4, e5⟩
  · cases hh : h id with
    | none => rw [hh] at h1; exact h1.elim
    | some b =>
      rw [hh] at h1
      cases b with
      | row v z1 es1 l1 =>
        obtain ⟨rfl, h3, h4, h5⟩ := h1
        exact ⟨_, _, _, _, _, _, rfl, rfl, h3, h4, h5⟩
      | _ => exact h1.elim
theorem outB1_row (v z : Nat) (es' : List (List T)) (l' : Bool) (v2 z2 : Nat) (es : List (List T)) (l : Bool) : outB1 (some (.row v z es' l')) (.row v2 z2 es l) = (z = z2 ∧ es'.take es.length = es ∧ es.length ≤ es'.length ∧ (l = true → l' = true)) := rfl
theorem out1_row (h : H) (π : List Nat) (k vr off len id ver off' len' : Nat) : out1 h π (.row k vr off len) (.row id ver off' len') = (vr = 0 ∧ π[k]? = some id ∧ off' = off ∧ len' = len ∧ (rowOf h id ver).isSome = true) := by
  simp only [out1]
  refine propext ⟨fun ⟨id', ver', z, es, l, h0, h1, h2, h3⟩ => ?_, fun ⟨h0, h1, h2, h3, h4⟩ => ?_⟩
  · simp only [AV.row.injEq] at h2
    obtain ⟨rfl, rfl, rfl, rfl⟩ := h2
    exact ⟨h0, h1, rfl, rfl, by rw [h3]; rfl⟩
  · obtain ⟨⟨z, es, l⟩, hr⟩ := Option.isSome_iff_exists.1 h4
    subst h2; subst h3
    exact ⟨id, ver, z, es, l, h0, h1, rfl, hr⟩
theorem out1_nl (h : H) (π : List Nat) : out1 h π .nl .nl = True := eq_true rfl
def out1t (q : Option (T × Bool × List (Nat × Blk))) (x : T) (l : Bool) (π : List Nat) : Prop :=
  match q with
  | some (y, l', us) => y = x ∧ (l = true → l' = true) ∧ ∀ u ∈ us, u.1 ∉ π
  | none => False
theorem out1_t (h : H) (π : List Nat) (x : T) (l : Bool) (v : AV) : out1 h π (.t x l) v = out1t (emb2 h v) x l π := by
  simp only [out1, out1t]
  cases emb2 h v with
  | none => simp
  | some q =>
    obtain ⟨y, l', us⟩ := q
    simp only [Option.some.injEq, Prod.mk.injEq]
    refine propext ⟨fun ⟨_, _, ⟨e, e1, e2⟩, h1, h2⟩ => ⟨e, by rw [e1]; exact h1, by rw [e2]; exact h2⟩, fun ⟨e, h1, h2⟩ => ⟨_, _, ⟨e, rfl, rfl⟩, h1, h2⟩⟩
theorem out1t_some (y : T) (l' : Bool) (us : List (Nat × Blk)) (x : T) (l : Bool) (π : List Nat) : out1t (some (y, l', us)) x l π = (y = x ∧ (l = true → l' = true) ∧ ∀ u ∈ us, u.1 ∉ π) := rfl
theorem outs1_nil (h : H) (π : List Nat) : outs1 h π [] [] = True := rfl
theorem outs1_cons (h : H) (π : List Nat) (r v : AV) (rs vs : List AV) : outs1 h π (r :: rs) (v :: vs) = (out1 h π r v ∧ outs1 h π rs vs) := rfl
theorem outs2_nil (h : H) (π : List Nat) : outs2 h π [] [] = True := rfl
theorem outs2_cons (h : H) (π : List Nat) (r v : AV) (rs vs : List AV) : outs2 h π (r :: rs) (v :: vs) = (out2 h π r v ∧ outs2 h π rs vs) := rfl
theorem out2_agg (h : H) (π : List Nat) (rs cs : List AV) : out2 h π (.agg rs) (.agg cs) = outs1 h π rs cs := by
  simp only [out2]
  refine propext ⟨fun ⟨_, e, h1⟩ => ?_, fun h1 => ⟨_, rfl, h1⟩⟩
  cases e; exact h1
theorem out2_t (h : H) (π : List Nat) (x : T) (l : Bool) (v : AV) : out2 h π (.t x l) v = out1t (emb2 h v) x l π := out1_t h π x l v
theorem out2_nl (h : H) (π : List Nat) : out2 h π .nl .nl = True := eq_true rfl
theorem out2_row (h : H) (π : List Nat) (k vr off len id ver off' len' : Nat) : out2 h π (.row k vr off len) (.row id ver off' len') = (vr = 0 ∧ π[k]? = some id ∧ off' = off ∧ len' = len ∧ (rowOf h id ver).isSome = true) := out1_row ..
theorem flagOf_true (xs : List (List T)) : flagOf xs true = true := rfl
theorem flagOf_false (xs : List (List T)) : flagOf xs false = flats xs := rfl
theorem flats_bT (bs : List (BitVec 8)) : flats (bT bs) = true := by
  induction bs with
  | nil => rfl
  | cons b bs ih => exact ih
theorem flats_append (xs ys : List (List T)) : flats (xs ++ ys) = (flats xs && flats ys) := by
  induction xs with
  | nil => rfl
  | cons x xs ih => simp [flats, ih, Bool.and_assoc]
theorem flats_sub {xs : List (List T)} (h : flats xs = true) {ys : List (List T)} (hs : ∀ y ∈ ys, y ∈ xs) : flats ys = true := by
  induction ys with
  | nil => rfl
  | cons y ys ih =>
    simp only [flats, Bool.and_eq_true]
    refine ⟨?_, ih fun z hz => hs z (List.mem_cons_of_mem _ hz)⟩
    obtain ⟨i, hi⟩ := List.getElem?_of_mem (hs y (by simp))
    exact List.all_eq_true.2 (flats_get h hi)
theorem flats_take (n : Nat) (bs : List (BitVec 8)) : flats (List.take n (bT bs)) = true := flats_sub (flats_bT bs) fun _ => List.mem_of_mem_take
theorem flats_drop (n : Nat) (bs : List (BitVec 8)) : flats (List.drop n (bT bs)) = true := flats_sub (flats_bT bs) fun _ => List.mem_of_mem_drop
theorem flats_take_drop (n k : Nat) (bs : List (BitVec 8)) : flats (List.take n (List.drop k (bT bs))) = true := flats_sub (flats_bT bs) fun _ h => List.mem_of_mem_drop (List.mem_of_mem_take h)
attribute [go_sem] flagOf_true flagOf_false flats_bT flats_append flats_take flats_drop flats_take_drop flats T.flat
attribute [go_sem ↓] retO_r retO_n
attribute [go_sem] endR_some outB_nil outB_cons outB1_row out1_row out1_nl out1_t out1t_some outs1_nil outs1_cons outs2_nil outs2_cons out2_agg out2_t out2_nl out2_row
/-- A function's contract, results of every form. -/
theorem spec_ko {P : Program} {x : Cx} (hx : Hold P x) {f n : Nat} {fl : List Nat} {hs : List Hint} {C : C} {res : List ResultVar} (hB : Body P f fl hs C n res) {ts : List T} (bs : List Blk) (rs : List AV) (hW : Wk x (retO x.ti res bs rs) .base C (s0 ts n) .mk)
    (hok : ok3 (resV rs) = true := by rfl) (hbs : ∀ b ∈ bs, ∃ z es l, b = .row 0 z es l := by simp) : Spec P f ts bs (resV rs) := spec_o hx hB bs rs hok hW hbs

def tmL : List (Nat × AV) → Tm
  | [] => nilT
  | (t, v) :: r => up (tmL r) t (some v)

attribute [go_sem ↓] Wk_skip Wk_label Wk_reg Wk_seq Wk_cond Wk_block Wk_loop Wk_exit Wk_ret Wk_goto Wk_keep Wk_draw Wk_scope Rk_base Rk_seq_n Rk_seq_x Rk_seq_r Rk_seq_g Rk_block_n Rk_block_r Rk_block_g Rk_block_x Ok_nil Ok_plain Ok_guard Dk_nil Dk_plain Dk_guard wupk_nil wupd_nil pt q ev evs gt_up gt_ofL retT_r retT_n retT_x retR_r
attribute [go_sem] Nk_eq Sk_true Sk_false wqsk_some wqsk_none wqvk_some wqck_fn wstk_some wupk_cons wguard_b wguard_u wguard1_b Sd_true Sd_false wqsd_some wqsd_none wqvd_some wqcd_fn wstd_some wupd_cons wlog_eq foot AV.ids AV.id1 AV.id2 id1s id2s idsO idsOs idsPs inN offN free fsts tmL nilT Gd_false restr restrB belowO below cut toT toT1 belowV cutB varB hdL mvS mvs mv1 mv2 isSt qst qw qStore qCopy callOf okR atT atA partA partT qLoad qIxA qSlice qAppend qGrow cut3 bound lk cAV cT cTs zAV upds upd1 isAgg List.getElem?_cons_zero List.getElem?_cons_succ List.getElem?_nil Option.getD_some Option.getD_none Option.isSome_some List.set_cons_zero List.set_cons_succ List.map_cons List.map_nil List.append_nil List.nil_append List.cons_append List.take_length AV.pureT plains AV.plain binT binI unT elemOfS elemOfA fieldOf placeOf fills fillS embs emb elems rowOf varOf AV.cells List.length_cons List.length_nil List.length_set List.map_replicate Int.natCast_nonneg true_and and_true wcond_true wcond_false Bool.and_true Bool.true_and Nat.not_lt_zero IntKind.bits Nat.zero_le Nat.lt_irrefl Nat.le_refl and_self List.drop_zero List.drop_succ_cons List.take_succ_cons List.take_zero List.mem_cons List.not_mem_nil or_false forall_eq_or_imp forall_eq List.set_nil forall_const false_or implies_true ofInt_toNat wrap32 wrap8 wrap64 wrap32_8 wrap8_32 fdiv_shr mul_shl32 neg32 add32 not32 not32' bT_length Nat.sub_zero resAV sees emb2 resV AV.ofT number AV.sh AV.sh1 AV.sh2 qLen lenOf qBuiltin Option.map_some Option.map_none Int.toNat_natCast Nat.add_zero Nat.zero_add beq_self_eq_true decide_true decide_false ne_eq not_true not_false_eq_true Bool.not_true Bool.not_false beq_iff_eq Bool.true_eq_false Bool.false_eq_true Nat.min_eq_left IntKind.signed T.isI aggOK Bool.true_beq Bool.false_beq rep0 rep1 rep2 rep3 rep4 rep5 rep6 rep7 rep8 rep9 rep10 rep11 rep12 argsOK_nil argsOK_cons argCs_nil argCs_cons arg1_t arg1_nl arg1_e0 arg1_row arg1_vs arg1_ptr argOK_t argOK_nl argOK_e0 argOK_row argOK_vs argOK_ptr argOK_agg argOK_fn rowIs_some vsIs ptIs loose_t loose_nl loose_e0 loose_row loose_vs loose_ptr loose_fn0 AV.fresh List.any_cons List.any_nil List.all_cons List.all_nil Bool.or_false Bool.false_or Bool.or_true Bool.true_or Bool.and_false Bool.false_and s0 arg0 adopt built chunk setAt List.flatten_cons List.flatten_nil Blk.fresh AV.easy

/-! ### Named stretches of code -/
theorem unI {c d : List I} (h : c = d) (x : Cx) (f : Ex → S → Prop) (lf : Lock f) (k : Kont) (s : S) : Ok x f k c s lf = Ok x f k d s lf := by rw [h]
theorem unD {c d : List D} (h : c = d) (x : Cx) (f : Ex → S → Prop) (lf : Lock f) (k : Kont) (n : Nat) (lg : Lg) (s : S) : Dk x f k c n lg s lf = Dk x f k d n lg s lf := by rw [h]
theorem unC {c d : C} (h : c = d) (x : Cx) (f : Ex → S → Prop) (lf : Lock f) (k : Kont) (s : S) : Wk x f k c s lf = Wk x f k d s lf := by rw [h]

/-! ### '== nil' -/
theorem nilQ_t (o : BinOp) (u : AV) (x : T) (l : Bool) : nilQ o u (.t x l) = none := rfl
theorem nilQ_agg (o : BinOp) (u : AV) (cs : List AV) : nilQ o u (.agg cs) = none := rfl
theorem nilQ_nl (o : BinOp) (u : AV) : nilQ o u .nl = nilU o u := rfl
theorem nilU_nl1 : nilU .eql .nl = some true := rfl
theorem nilU_nl2 : nilU .neq .nl = some false := rfl
theorem nilU_ne1 (l : Bool) : nilU .eql (.t .ne l) = some false := rfl
theorem nilU_ne2 (l : Bool) : nilU .neq (.t .ne l) = some true := rfl
theorem nilU_sl1 (e : List T) (es : List (List T)) (l : Bool) : nilU .eql (.t (.sl (e :: es)) l) = some false := rfl
theorem nilU_sl2 (e : List T) (es : List (List T)) (l : Bool) : nilU .neq (.t (.sl (e :: es)) l) = some true := rfl
theorem one1 (k : IntKind) (n : Int) (l : Bool) : (AV.t (.i k n) l).one = True := rfl
theorem one2 (x : Bool) (l : Bool) : (AV.t (.b x) l).one = True := rfl
theorem one3 (x : ByteArray) (l : Bool) : (AV.t (.s x) l).one = True := rfl
theorem one4 (es : List (List T)) (l : Bool) : (AV.t (.sl es) l).one = True := rfl
theorem one5 : AV.nl.one = True := rfl
theorem one6 : AV.e0.one = True := rfl
theorem one7 (id ver off len : Nat) : (AV.row id ver off len).one = True := rfl
theorem one8 (id off : Nat) : (AV.ptr id off).one = True := rfl
theorem one9 (id off len z : Nat) : (AV.vs id off len z).one = True := rfl
theorem oneT1 (k : IntKind) (n : Int) : (T.i k n).one = True := rfl
theorem oneT2 (x : Bool) : (T.b x).one = True := rfl
theorem oneT3 (x : ByteArray) : (T.s x).one = True := rfl
theorem oneT4 (es : List (List T)) : (T.sl es).one = True := rfl
theorem oneT5 (cs : List T) : (T.pt cs).one = True := rfl
theorem loose_agg0 : (AV.agg []).loose = false := rfl
theorem loose_agg1 (x : T) (l : Bool) (vs : List AV) : (AV.agg (.t x l :: vs)).loose = (AV.agg vs).loose := by simp [AV.loose]
theorem loose_agg2 (vs : List AV) : (AV.agg (.nl :: vs)).loose = (AV.agg vs).loose := by simp [AV.loose]
theorem loose_agg3 (vs : List AV) : (AV.agg (.e0 :: vs)).loose = (AV.agg vs).loose := by simp [AV.loose]
theorem loose_agg4 (id ver off len : Nat) (vs : List AV) : (AV.agg (.row id ver off len :: vs)).loose = true := by simp [AV.loose]
attribute [go_sem] loose_agg0 loose_agg1 loose_agg2 loose_agg3 loose_agg4
attribute [go_sem] nilQ_t nilQ_agg nilQ_nl nilU_nl1 nilU_nl2 nilU_ne1 nilU_ne2 nilU_sl1 nilU_sl2 s1 false_implies one1 one2 one3 one4 one5 one6 one7 one8 one9 oneT1 oneT2 oneT3 oneT4 oneT5 tree1 tree1s tree2 tree2s tree3

/-- The contract of a function that appends to its first argument. -/
theorem spec_kap {P : Program} {x : Cx} (hx : Hold P x) {f n : Nat} {fl : List Nat} {hs : List Hint} {C : C} {res : List ResultVar} (hB : Body P f fl hs C n res) {xs : List (List T)} {ts : List T} (ys : List (List T)) (hflat : ∀ e ∈ xs ++ ys, ∃ k n, e = [T.i k n]) (hfits : xs.length + ys.length ≤ room)
    (hW : Wk x (retR x.ti res 1 (xs ++ ys) false) .base C (s1 xs ts) .mk) : SpecAp P f xs ts ys := spec_ap hx hB ys hflat hfits hW
/-! ### Calls -/
theorem call_k {x : Cx} {f : Ex → S → Prop} {k : Kont} {d : Option Nat} {tm : Tm} {hp : List Blk} {r : List I} {g : Nat} {as : List AV} {l : Lock (f, k, tm, r)} {ts : List T} {bs : List Blk} {v : AV} (hs : x.spec g ts bs v)
    (hk : wupk x f (number hp.length bs) k (pt tm d (some (v.sh hp.length))) hp r .mk)
    (ha : argsOK (lk hp) as ts := by simp -implicitDefEqProofs only [go_sem, reduceIte, Nat.reduceAdd, Nat.reduceSub, Nat.reduceMul, Nat.reduceLT, Nat.reduceLeDiff, Nat.reduceEqDiff, Nat.reduceBEq, Int.reduceLE, Int.reduceLT, Int.reduceToNat, Int.reduceMul, Int.reduceAdd, Int.reduceSub, Int.reduceNeg, Int.reduceEq, reduceCtorEq, Nat.reduceMod])
    (hl : as.any AV.loose = true → v.fresh = true ∧ bs.all Blk.fresh = true := by simp -implicitDefEqProofs only [go_sem, reduceIte, Nat.reduceAdd, Nat.reduceSub, Nat.reduceMul, Nat.reduceLT, Nat.reduceLeDiff, Nat.reduceEqDiff, Nat.reduceBEq, Int.reduceLE, Int.reduceLT, Int.reduceToNat, Int.reduceMul, Int.reduceAdd, Int.reduceSub, Int.reduceNeg, Int.reduceEq, reduceCtorEq, Nat.reduceMod]) : wcallk x f k d tm hp r g as l :=
  wcall_mk ts bs v hs ha hl hk
theorem call_d {x : Cx} {f : Ex → S → Prop} {ft na : List Nat} {k : Kont} {n : Nat} {lg : Lg} {d : Option Nat} {tm : Tm} {hp : List Blk} {r : List D} {g : Nat} {as : List AV} {l : Lock (f, k, lg, tm, r)} {ts : List T} {bs : List Blk} {v : AV} (hs : x.spec g ts bs v)
    (hk : wlog x f (fsts (number hp.length bs)) ft (number hp.length bs) na k n lg (pt tm d (some (v.sh hp.length))) hp r .mk)
    (ha : argsOK (lk hp) as ts := by simp -implicitDefEqProofs only [go_sem, reduceIte, Nat.reduceAdd, Nat.reduceSub, Nat.reduceMul, Nat.reduceLT, Nat.reduceLeDiff, Nat.reduceEqDiff, Nat.reduceBEq, Int.reduceLE, Int.reduceLT, Int.reduceToNat, Int.reduceMul, Int.reduceAdd, Int.reduceSub, Int.reduceNeg, Int.reduceEq, reduceCtorEq, Nat.reduceMod])
    (hl : as.any AV.loose = true → v.fresh = true ∧ bs.all Blk.fresh = true := by simp -implicitDefEqProofs only [go_sem, reduceIte, Nat.reduceAdd, Nat.reduceSub, Nat.reduceMul, Nat.reduceLT, Nat.reduceLeDiff, Nat.reduceEqDiff, Nat.reduceBEq, Int.reduceLE, Int.reduceLT, Int.reduceToNat, Int.reduceMul, Int.reduceAdd, Int.reduceSub, Int.reduceNeg, Int.reduceEq, reduceCtorEq, Nat.reduceMod]) : wcalld x f ft na k n lg d tm hp r g as l :=
  wcall_mk ts bs v hs ha hl hk
theorem over_k {x : Cx} {f : Ex → S → Prop} {k : Kont} {d : Option Nat} {tm : Tm} {hp : List Blk} {r : List I} {g id ver len : Nat} {as : List AV} {l : Lock (f, k, tm, r)} {es : List (List T)} {b : Bool} {ts : List T} (ys : List (List T)) (hs : x.specAp g es ts ys)
    (hr : rowOf (lk hp) id ver = some (1, es, b)) (hlen : len = es.length)
    (hk : wupk x f [(id, .row (ver + 1) 1 (es ++ ys) b)] k (pt tm d (some (.row id (ver + 1) 0 (len + ys.length)))) hp r .mk)
    (ha : argsOK (lk hp) as ts := by simp -implicitDefEqProofs only [go_sem, reduceIte, Nat.reduceAdd, Nat.reduceSub, Nat.reduceMul, Nat.reduceLT, Nat.reduceLeDiff, Nat.reduceEqDiff, Nat.reduceBEq, Int.reduceLE, Int.reduceLT, Int.reduceToNat, Int.reduceMul, Int.reduceAdd, Int.reduceSub, Int.reduceNeg, Int.reduceEq, reduceCtorEq, Nat.reduceMod])
    (hn : as.all (AV.easy id) = true := by simp -implicitDefEqProofs only [go_sem, reduceIte, Nat.reduceAdd, Nat.reduceSub, Nat.reduceMul, Nat.reduceLT, Nat.reduceLeDiff, Nat.reduceEqDiff, Nat.reduceBEq, Int.reduceLE, Int.reduceLT, Int.reduceToNat, Int.reduceMul, Int.reduceAdd, Int.reduceSub, Int.reduceNeg, Int.reduceEq, reduceCtorEq, Nat.reduceMod]) : wcallk x f k d tm hp r g (.row id ver 0 len :: as) l := by
  subst hlen
  have e : es.take es.length = es := List.take_length
  refine ⟨_, _, .over id ver es.length es b as ts ys rfl hr (Nat.le_refl _) hn ha (by rw [e]; exact hs), ?_⟩
  rw [e]
  exact hk
theorem over_d {x : Cx} {f : Ex → S → Prop} {ft na : List Nat} {k : Kont} {n : Nat} {lg : Lg} {d : Option Nat} {tm : Tm} {hp : List Blk} {r : List D} {g id ver len : Nat} {as : List AV} {l : Lock (f, k, lg, tm, r)} {es : List (List T)} {b : Bool} {ts : List T} (ys : List (List T)) (hs : x.specAp g es ts ys)
    (hr : rowOf (lk hp) id ver = some (1, es, b)) (hlen : len = es.length)
    (hk : wlog x f [id] ft [(id, .row (ver + 1) 1 (es ++ ys) b)] na k n lg (pt tm d (some (.row id (ver + 1) 0 (len + ys.length)))) hp r .mk)
    (ha : argsOK (lk hp) as ts := by simp -implicitDefEqProofs only [go_sem, reduceIte, Nat.reduceAdd, Nat.reduceSub, Nat.reduceMul, Nat.reduceLT, Nat.reduceLeDiff, Nat.reduceEqDiff, Nat.reduceBEq, Int.reduceLE, Int.reduceLT, Int.reduceToNat, Int.reduceMul, Int.reduceAdd, Int.reduceSub, Int.reduceNeg, Int.reduceEq, reduceCtorEq, Nat.reduceMod])
    (hn : as.all (AV.easy id) = true := by simp -implicitDefEqProofs only [go_sem, reduceIte, Nat.reduceAdd, Nat.reduceSub, Nat.reduceMul, Nat.reduceLT, Nat.reduceLeDiff, Nat.reduceEqDiff, Nat.reduceBEq, Int.reduceLE, Int.reduceLT, Int.reduceToNat, Int.reduceMul, Int.reduceAdd, Int.reduceSub, Int.reduceNeg, Int.reduceEq, reduceCtorEq, Nat.reduceMod]) : wcalld x f ft na k n lg d tm hp r g (.row id ver 0 len :: as) l := by
  subst hlen
  have e : es.take es.length = es := List.take_length
  refine ⟨_, _, .over id ver es.length es b as ts ys rfl hr (Nat.le_refl _) hn ha (by rw [e]; exact hs), ?_⟩
  rw [e]
  exact hk
theorem onto_k {x : Cx} {f : Ex → S → Prop} {k : Kont} {d : Option Nat} {tm : Tm} {hp : List Blk} {r : List I} {g : Nat} {as : List AV} {l : Lock (f, k, tm, r)} {ts : List T} (ys : List (List T)) (hs : x.specAp g [] ts ys)
    (hk : wupk x f [(hp.length, .row 1 1 ys true)] k (pt tm d (some (.row hp.length 1 0 ys.length))) hp r .mk)
    (ha : argsOK (lk hp) as ts := by simp -implicitDefEqProofs only [go_sem, reduceIte, Nat.reduceAdd, Nat.reduceSub, Nat.reduceMul, Nat.reduceLT, Nat.reduceLeDiff, Nat.reduceEqDiff, Nat.reduceBEq, Int.reduceLE, Int.reduceLT, Int.reduceToNat, Int.reduceMul, Int.reduceAdd, Int.reduceSub, Int.reduceNeg, Int.reduceEq, reduceCtorEq, Nat.reduceMod])
    (hn : as.all (AV.easy hp.length) = true := by simp -implicitDefEqProofs only [go_sem, reduceIte, Nat.reduceAdd, Nat.reduceSub, Nat.reduceMul, Nat.reduceLT, Nat.reduceLeDiff, Nat.reduceEqDiff, Nat.reduceBEq, Int.reduceLE, Int.reduceLT, Int.reduceToNat, Int.reduceMul, Int.reduceAdd, Int.reduceSub, Int.reduceNeg, Int.reduceEq, reduceCtorEq, Nat.reduceMod]) : wcallk x f k d tm hp r g (.nl :: as) l :=
  ⟨_, _, .onto as ts ys rfl hn ha hs, hk⟩
theorem onto_d {x : Cx} {f : Ex → S → Prop} {ft na : List Nat} {k : Kont} {n : Nat} {lg : Lg} {d : Option Nat} {tm : Tm} {hp : List Blk} {r : List D} {g : Nat} {as : List AV} {l : Lock (f, k, lg, tm, r)} {ts : List T} (ys : List (List T)) (hs : x.specAp g [] ts ys)
    (hk : wlog x f [hp.length] ft [(hp.length, .row 1 1 ys true)] na k n lg (pt tm d (some (.row hp.length 1 0 ys.length))) hp r .mk)
    (ha : argsOK (lk hp) as ts := by simp -implicitDefEqProofs only [go_sem, reduceIte, Nat.reduceAdd, Nat.reduceSub, Nat.reduceMul, Nat.reduceLT, Nat.reduceLeDiff, Nat.reduceEqDiff, Nat.reduceBEq, Int.reduceLE, Int.reduceLT, Int.reduceToNat, Int.reduceMul, Int.reduceAdd, Int.reduceSub, Int.reduceNeg, Int.reduceEq, reduceCtorEq, Nat.reduceMod])
    (hn : as.all (AV.easy hp.length) = true := by simp -implicitDefEqProofs only [go_sem, reduceIte, Nat.reduceAdd, Nat.reduceSub, Nat.reduceMul, Nat.reduceLT, Nat.reduceLeDiff, Nat.reduceEqDiff, Nat.reduceBEq, Int.reduceLE, Int.reduceLT, Int.reduceToNat, Int.reduceMul, Int.reduceAdd, Int.reduceSub, Int.reduceNeg, Int.reduceEq, reduceCtorEq, Nat.reduceMod]) : wcalld x f ft na k n lg d tm hp r g (.nl :: as) l :=
  ⟨_, _, .onto as ts ys rfl hn ha hs, hk⟩
end Go.Proofs.Ytadnjellfiafaaa.Pm

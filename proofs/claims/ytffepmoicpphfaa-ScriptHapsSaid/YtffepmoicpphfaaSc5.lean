/- script: the tape said as the reference's reader; texts, walked. -/
import Derived.Test.YtffepmoicpphfaaSc4
namespace Go.Proofs.Ytffepmoicpphfaa
set_option linter.unusedSimpArgs false
set_option linter.unusedVariables false
open Go.RowKit
variable {Z : Nat}
/-- the tape stands where a reader stands that is well -/
def TR (Z : Nat) (w : World) (X : Nat) (s : SA) (l : List UInt8) (r : Rdr) : Prop := ∃ at_, Tape Z w X s l at_ ∧ r = ⟨l.drop at_, false⟩
theorem TR.ext {w w' : World} {X s l r} (h : TR Z w X s l r) (hx : Ext w w') : TR Z w' X s l r := let ⟨a, h1, h2⟩ := h; ⟨a, h1.ext hx, h2⟩
/-- what a reading call ends with: a value and a reader, or it gives up -/
def Reads {α : Type} (Z : Nat) (w : World) (X : Nat) (s : SA) (l : List UInt8) (p : Rdr × α) (V : World → α → Value → Prop) (e : Ending) (w' : World) : Prop :=
  w.grownBy w' (some X) ∧ ((p.1.bad = false ∧ ∃ v, e = .returned v ∧ V w' p.2 v ∧ TR Z w' X s l p.1) ∨ (p.1.bad = true ∧ e = .panicked errHap))
theorem tapeNumber (X : Nat) (s : SA) (l : List UInt8) (r : Rdr) (many : Nat) (w : World) (ht : TR Z w X s l r) (hl : l.length ≤ 1048576) (h8 : many ≤ 8) :
    Calls Try.prog 35 #[.pointer (some ⟨X, 0, none⟩), .int .i64 many] w (Reads Z w X s l (numR r many) fun _ n v => v = .int .u64 (n : Nat)) := by
  obtain ⟨at_, ht, rfl⟩ := ht
  have hle := ht.le
  by_cases hf : at_ + many ≤ l.length
  · refine (tapeNumberOk X s l at_ many w ht hf hl h8).mono ?_
    rintro e w' ⟨he, ht', hg⟩
    have hn : numR ⟨l.drop at_, false⟩ many = (⟨l.drop (at_ + many), false⟩, leNum ((l.drop at_).take many)) := by
      unfold numR takeR
      rw [if_neg (by simp; omega)]
      simp [Nat.add_comm]
    rw [hn]
    exact ⟨hg, .inl ⟨rfl, _, he, rfl, at_ + many, ht', rfl⟩⟩
  · refine (tapeNumberBad X s l at_ many w ht (by omega) hl (by omega)).mono ?_
    rintro e w' ⟨he, hx⟩
    have hn : (numR ⟨l.drop at_, false⟩ many).1.bad = true := by
      unfold numR takeR
      rw [if_pos (by simp; omega)]
    exact ⟨only_ext hx _, .inr ⟨hn, he⟩⟩
theorem tapeTake (X : Nat) (s : SA) (l : List UInt8) (r : Rdr) (many : Nat) (w : World) (ht : TR Z w X s l r) (hl : l.length ≤ 1048576) (hm : many ≤ 1048576) :
    Calls Try.prog 63 #[.pointer (some ⟨X, 0, none⟩), .int .i64 many] w (Reads Z w X s l (takeR r many) fun w' b v => ∃ t, v = .slice t b.length b.length ∧ RB Z w' t b) := by
  obtain ⟨at_, ht, rfl⟩ := ht
  have hle := ht.le
  by_cases hf : at_ + many ≤ l.length
  · refine (tapeTakeOk X s l at_ many w ht hf hl).mono ?_
    rintro e w' ⟨t, he, hb, ht', hg⟩
    have hn : takeR ⟨l.drop at_, false⟩ many = (⟨l.drop (at_ + many), false⟩, (l.drop at_).take many) := by
      unfold takeR
      rw [if_neg (by simp; omega)]
      simp [Nat.add_comm]
    have hlen : ((l.drop at_).take many).length = many := by simp; omega
    rw [hn]
    exact ⟨hg, .inl ⟨rfl, _, he, ⟨t, by rw [hlen], hb⟩, at_ + many, ht', rfl⟩⟩
  · refine (tapeTakeBad X s l at_ many w ht (by omega) hl hm).mono ?_
    rintro e w' ⟨he, hx⟩
    have hn : (takeR ⟨l.drop at_, false⟩ many).1.bad = true := by
      unfold takeR
      rw [if_pos (by simp; omega)]
    exact ⟨only_ext hx _, .inr ⟨hn, he⟩⟩
theorem tapeNumber1 (X : Nat) (s : SA) (l : List UInt8) (r : Rdr) (w : World) (ht : TR Z w X s l r) (hl : l.length ≤ 1048576) :
    Calls Try.prog 35 #[.pointer (some ⟨X, 0, none⟩), .int .i64 1] w (Reads Z w X s l (numR r 1) fun _ n v => v = .int .u64 (n : Nat)) := tapeNumber X s l r 1 w ht hl (by omega)
theorem takeR_bad (r : Rdr) (m : Nat) (h : r.bad = true) : (takeR r m).1.bad = true := by unfold takeR; rw [if_pos (.inl h)]

set_option maxRecDepth 100000 in
set_option maxHeartbeats 1000000 in
theorem tapeTexts (X : Nat) (s : SA) (l : List UInt8) (r : Rdr) (mod : Nat) (w : World) (ht : TR Z w X s l r) (hl : l.length ≤ 1048576) (hm0 : 0 < mod) (hm : mod ≤ 256) :
    Calls Try.prog 68 #[.pointer (some ⟨X, 0, none⟩), .int .i64 mod] w (Reads Z w X s l (textR r mod) fun w' b v => ∃ t k, v = .slice t b.length k ∧ b.length ≤ k ∧ RB Z w' t b) := by
  have hcon := fun W (hW : TR Z W X s l r) => tapeNumber1 X s l r W hW hl
  have hnl := numR_lt r
  have hdef : textR r mod = takeR (numR r 1).1 ((numR r 1).2 % mod) := rfl
  have HD := Lib.hid hdef
  clear hdef
  generalize textR r mod = q at *
  generalize numR r 1 = p at *
  obtain ⟨r1, n⟩ := p
  dsimp only at hnl HD
  have hmi : (0 : Int) < (mod : Int) := by omega
  have hnm : n % mod ≤ 1048576 := by have := Nat.mod_lt n hm0; omega
  have hcon2 := fun W (hW : TR Z W X s l r1) => tapeTake X s l r1 (n % mod) W hW hl hnm
  have hk : (n : Int) % (mod : Int) = ((n % mod : Nat) : Int) := by simp
  generalize n % mod = k at *
  have hqn : (takeR r1 k).2.length ≤ 1048576 := Nat.le_trans (Nat.le_of_eq (takeR_len r1 k)) hnm
  have HP := Lib.hid hcon
  have HP2 := Lib.hid hcon2
  clear hcon hcon2
  go_enter Try.func68, Try.ntmps68
  go_wp2_with (go_at_call 35; (with_reducible refine (HP.out _ ht).mono ?_); rintro e w1 ⟨hg1, (⟨hb1, v, rfl, rfl, ht1⟩ | ⟨hb1, rfl⟩)⟩)
  · go_at_call 63
    with_reducible refine (HP2.out _ ht1).mono ?_
    rintro e w2 ⟨hg2, (⟨hb2, v, rfl, ⟨t, rfl, htb⟩, ht2⟩ | ⟨hb2, rfl⟩)⟩
    · go_wp2_with (go_at_call 78; (with_reducible refine (cloneBytes _ t _ _ htb hqn).mono ?_); rintro e w3 ⟨t3, k3, rfl, hk3, ht3, hx3⟩)
      refine bodyPost_ret (v := .slice t3 (takeR r1 k).2.length k3) (by simp [results, Try.results68, go_sem]) rfl ?_
      rw [HD.out]
      exact ⟨(hg1.trans hg2).trans (only_ext hx3 _), .inl ⟨hb2, _, rfl, ⟨t3, k3, rfl, hk3, ht3⟩, ht2.ext hx3⟩⟩
    · exact ⟨rfl, hg1.trans hg2, .inr ⟨HD.out ▸ hb2, rfl⟩⟩
  · exact ⟨rfl, hg1, .inr ⟨HD.out ▸ takeR_bad _ _ hb1, rfl⟩⟩
end Go.Proofs.Ytffepmoicpphfaa

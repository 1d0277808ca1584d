/- The document's disk: Create, Remove, Sync, Read, Arm, Grow. -/
import Derived.Test.YthgcdoahoechhaaRdB
set_option linter.unusedVariables false
set_option linter.unusedSimpArgs false
namespace Go.Proofs.Ythgcdoahoechhaa
namespace Am
open Go.RowKit
set_option maxRecDepth 100000
def b_refCreate : BF := ⟨24, [0, 1, 4, 7, 9], (.seq (.reg [.mk none (.slot 2) (.mov (.mv (.const (.int .i64 0))))]) (.seq (.seq (.reg [.mk none (.env 5) (.mov (.mv (.slot 1))), .mk none (.env 6) (.call 99 [(.env 5)]), .mk none (.slot 3) (.mov (.notb (.env 6)))]) (.cond (.slot 3) (.seq (.reg [.mk none (.slot 2) (.mov (.mv (.const (.int .i64 1))))]) .ret) .skip)) (.seq (.seq (.reg [.mk none (.env 8) (.mov (.mv (.slot 0))), .mk none (.slot 4) (.call 100 [(.env 8)])]) (.cond (.slot 4) (.seq (.reg [.mk none (.slot 2) (.mov (.mv (.const (.int .i64 13))))]) .ret) .skip)) (.seq (.reg [.mk none (.env 10) (.mov (.mv (.slot 0))), .mk none (.env 11) (.mov (.mv (.slot 1))), .mk none (.env 12) (.call 101 [(.env 10), (.env 11)])]) (.seq (.reg [.mk none (.env 13) (.mov (.mv (.slot 0))), .mk none (.env 14) (.mov (.mv (.slot 0))), .mk none (.env 15) (.mov (.nilc (.env 14))), .mk none (.env 16) (.mov (.faddr 0 (.env 15))), .mk none (.env 17) (.mov (.ld1 (.env 16))), .mk none (.env 18) (.mov (.mv (.slot 1))), .mk none (.env 19) (.mov (.bld [(.str []), .snil, (.int .i64 0)] [(0, 1, (.env 18))])), .mk none (.env 20) (.eff (.bslice 3 1 [(.str []), .snil, (.int .i64 0)] [(0, 3, (.env 19))])), .mk none (.env 21) (.eff (.append 3 48 (.env 17) (.env 20))), .mk none (.env 22) (.mov (.nilc (.env 13))), .mk none (.env 23) (.mov (.faddr 0 (.env 22))), .mk none .none (.eff (.store 1 (.env 23) (.env 21)))]) (.seq (.reg [.mk none (.slot 2) (.mov (.mv (.const (.int .i64 0))))]) .ret)))))), [.slot (.slot 2)]⟩
def b_refRemove : BF := ⟨14, [0, 1, 4, 8, 10], (.seq (.reg [.mk none (.slot 2) (.mov (.mv (.const (.int .i64 0))))]) (.seq (.seq (.reg [.mk none (.env 5) (.mov (.mv (.slot 0))), .mk none (.env 6) (.mov (.mv (.slot 1))), .mk none (.env 7) (.call 102 [(.env 5), (.env 6)]), .mk none (.slot 3) (.mov (.bin .lss .no (.env 7) (.const (.int .i64 0))))]) (.cond (.slot 3) (.seq (.reg [.mk none (.slot 2) (.mov (.mv (.const (.int .i64 22))))]) .ret) .skip)) (.seq (.seq (.reg [.mk none (.env 9) (.mov (.mv (.slot 0))), .mk none (.slot 4) (.call 100 [(.env 9)])]) (.cond (.slot 4) (.seq (.reg [.mk none (.slot 2) (.mov (.mv (.const (.int .i64 13))))]) .ret) .skip)) (.seq (.reg [.mk none (.env 11) (.mov (.mv (.slot 0))), .mk none (.env 12) (.mov (.mv (.slot 1))), .mk none (.env 13) (.call 101 [(.env 11), (.env 12)])]) (.seq (.reg [.mk none (.slot 2) (.mov (.mv (.const (.int .i64 0))))]) .ret))))), [.slot (.slot 2)]⟩
def b_refArm : BF := ⟨14, [0, 1, 8], (.seq (.reg [.mk none (.env 4) (.mov (.mv (.slot 0))), .mk none (.env 5) (.mov (.nilc (.env 4))), .mk none (.env 6) (.mov (.faddr 3 (.env 5))), .mk none (.env 7) (.mov (.ld1 (.env 6))), .mk none (.slot 2) (.mov (.notb (.env 7)))]) (.cond (.slot 2) (.reg [.mk none (.env 9) (.mov (.mv (.slot 0))), .mk none (.env 10) (.mov (.mv (.slot 1))), .mk none (.env 11) (.mov (.maxv (.env 10) (.const (.int .i64 0)))), .mk none (.env 12) (.mov (.nilc (.env 9))), .mk none (.env 13) (.mov (.faddr 2 (.env 12))), .mk none .none (.eff (.store 1 (.env 13) (.env 11)))]) .skip)), []⟩
def b_refGrow : BF := ⟨17, [0, 1, 4, 12], (.seq (.reg [.mk none (.slot 2) (.mov (.mv (.const (.bool false))))]) (.seq (.seq (.reg [.mk none (.env 5) (.mov (.mv (.slot 1))), .mk none (.env 6) (.mov (.mv (.slot 0))), .mk none (.env 7) (.call 69 [(.env 6)]), .mk none (.env 8) (.mov (.bin .lss .no (.env 5) (.env 7))), .mk none (.env 9) (.mov (.mv (.env 8))), .mk (some ((.env 9), false)) (.env 10) (.mov (.mv (.slot 1))), .mk (some ((.env 9), false)) (.env 11) (.mov (.bin .gtr .no (.env 10) (.const (.int .i64 16777216)))), .mk none (.slot 3) (.mov (.pick (.env 9) (.const (.bool true)) (.env 11)))]) (.cond (.slot 3) (.seq (.reg [.mk none (.slot 2) (.mov (.mv (.const (.bool false))))]) .ret) .skip)) (.seq (.reg [.mk none (.env 13) (.mov (.mv (.slot 0))), .mk none (.env 14) (.mov (.mv (.slot 1))), .mk none (.env 15) (.mov (.nilc (.env 13))), .mk none (.env 16) (.mov (.faddr 1 (.env 15))), .mk none .none (.eff (.store 1 (.env 16) (.env 14)))]) (.seq (.reg [.mk none (.slot 2) (.mov (.mv (.const (.bool true))))]) .ret)))), [.slot (.slot 2)]⟩
def b_refRead : BF := ⟨29, [0, 1, 4, 5, 6, 7, 12], (.seq (.reg [.mk none (.slot 2) (.mov (.mv (.const .snil))), .mk none (.slot 3) (.mov (.mv (.const (.int .i64 0)))), .mk none (.slot 4) (.mov (.mv (.const (.bool false))))]) (.seq (.reg [.mk none (.env 8) (.mov (.mv (.slot 0))), .mk none (.env 9) (.mov (.mv (.slot 1))), .mk none (.env 10) (.call 102 [(.env 8), (.env 9)]), .mk none (.slot 5) (.mov (.mv (.env 10)))]) (.seq (.seq (.reg [.mk none (.env 11) (.mov (.mv (.slot 5))), .mk none (.slot 6) (.mov (.bin .lss .no (.env 11) (.const (.int .i64 0))))]) (.cond (.slot 6) (.seq (.reg [.mk none (.slot 2) (.mov (.mv (.const .snil))), .mk none (.slot 3) (.mov (.mv (.const (.int .i64 0)))), .mk none (.slot 4) (.mov (.mv (.const (.bool false))))]) .ret) .skip)) (.seq (.dreg [(.mk none (.env 13) (.mov (.mv (.slot 0))), []), (.mk none (.env 14) (.mov (.nilc (.env 13))), []), (.mk none (.env 15) (.mov (.faddr 0 (.env 14))), []), (.mk none (.env 16) (.mov (.ld1 (.env 15))), []), (.mk none (.env 17) (.mov (.mv (.slot 5))), []), (.mk none (.env 18) (.mov (.iaddr 3 (.env 16) (.env 17))), []), (.mk none (.env 19) (.mov (.faddr 1 (.env 18))), []), (.mk none (.env 20) (.mov (.ld1 (.env 19))), []), (.mk none (.env 21) (.mov (.mv (.slot 0))), []), (.mk none (.env 22) (.mov (.nilc (.env 21))), []), (.mk none (.env 23) (.mov (.faddr 0 (.env 22))), []), (.mk none (.env 24) (.mov (.ld1 (.env 23))), []), (.mk none (.env 25) (.mov (.mv (.slot 5))), []), (.mk none (.env 26) (.mov (.iaddr 3 (.env 24) (.env 25))), []), (.mk none (.env 27) (.mov (.faddr 2 (.env 26))), []), (.mk none (.env 28) (.mov (.ld1 (.env 27))), []), (.mk none (.slot 2) (.mov (.mv (.env 20))), []), (.mk none (.slot 3) (.mov (.mv (.env 28))), []), (.mk none (.slot 4) (.mov (.mv (.const (.bool true)))), [])]) .ret)))), [.slot (.slot 2), .slot (.slot 3), .slot (.slot 4)]⟩
def b_refSync : BF := ⟨29, [0, 1, 4, 5, 10, 12], (.seq (.reg [.mk none (.slot 2) (.mov (.mv (.const (.int .i64 0))))]) (.seq (.reg [.mk none (.env 6) (.mov (.mv (.slot 0))), .mk none (.env 7) (.mov (.mv (.slot 1))), .mk none (.env 8) (.call 102 [(.env 6), (.env 7)]), .mk none (.slot 3) (.mov (.mv (.env 8)))]) (.seq (.seq (.reg [.mk none (.env 9) (.mov (.mv (.slot 3))), .mk none (.slot 4) (.mov (.bin .lss .no (.env 9) (.const (.int .i64 0))))]) (.cond (.slot 4) (.seq (.reg [.mk none (.slot 2) (.mov (.mv (.const (.int .i64 22))))]) .ret) .skip)) (.seq (.seq (.reg [.mk none (.env 11) (.mov (.mv (.slot 0))), .mk none (.slot 5) (.call 100 [(.env 11)])]) (.cond (.slot 5) (.seq (.reg [.mk none (.slot 2) (.mov (.mv (.const (.int .i64 13))))]) .ret) .skip)) (.seq (.dreg [(.mk none (.env 13) (.mov (.mv (.slot 0))), []), (.mk none (.env 14) (.mov (.nilc (.env 13))), []), (.mk none (.env 15) (.mov (.faddr 0 (.env 14))), []), (.mk none (.env 16) (.mov (.ld1 (.env 15))), []), (.mk none (.env 17) (.mov (.mv (.slot 3))), []), (.mk none (.env 18) (.mov (.mv (.slot 0))), []), (.mk none (.env 19) (.mov (.nilc (.env 18))), []), (.mk none (.env 20) (.mov (.faddr 0 (.env 19))), []), (.mk none (.env 21) (.mov (.ld1 (.env 20))), []), (.mk none (.env 22) (.mov (.mv (.slot 3))), []), (.mk none (.env 23) (.mov (.iaddr 3 (.env 21) (.env 22))), []), (.mk none (.env 24) (.mov (.faddr 1 (.env 23))), []), (.mk none (.env 25) (.mov (.ld1 (.env 24))), []), (.mk none (.env 26) (.mov (.lenv (.env 25))), []), (.mk none (.env 27) (.mov (.iaddr 3 (.env 16) (.env 17))), []), (.mk none (.env 28) (.mov (.faddr 2 (.env 27))), []), (.mk none .none (.eff (.store 1 (.env 28) (.env 26))), [])]) (.seq (.reg [.mk none (.slot 2) (.mov (.mv (.const (.int .i64 0))))]) .ret)))))), [.slot (.slot 2)]⟩
inductive PaLen {α : Type} : List α → Nat → Prop
  | nil : PaLen [] 0
  | snoc {l : List α} {n : Nat} {x : α} : PaLen l n → PaLen (l ++ [x]) (n + 1)
theorem PaLen.len {α : Type} {l : List α} {n : Nat} (a : PaLen l n) : l.length = n := by
  induction a with
  | nil => rfl
  | snoc _ ih => rw [List.length_append, ih]; rfl
section
variable {h : Hp MD} {past : List (Pa MD)} {r : List Nat} {q : Nat}
theorem chk_at {x : Pa MD} (hp : past[q]? = some x) (hx : x.ok h = true) (H : Chk h past r) : Chk h past (q :: r) := ⟨by simp only [chkAll, hp, hx, H.out, Bool.and_self]⟩
theorem pa_skp : (Pa.skip : Pa MD).ok h = true := rfl
theorem pa_mov {m : Mv} {e : En} {t : List AV} {v : AV} (hm : m.ev e t h = some v) : (Pa.mov m e t v : Pa MD).ok h = true := by simp only [Pa.ok, hm, eqA_refl]
theorem pa_alc {g : Nat} {l : List AV} (hg : h.get g = some (.rw l)) : (Pa.alc g l : Pa MD).ok h = true := by simp only [Pa.ok, hg, eqAs_refl]
end
structure RdT (E : Nat → Option (Ent MD)) : Prop where
  at_ : E 102 = some (.bc b_refAt)
  used : E 69 = some (.bc b_refUsed)
  named : E 99 = some (.bc b_refNamed)
  goes : E 100 = some (.bc b_refGoes)
  without : E 101 = some (.bc b_refWithout)
def FromB (r : Nat) : Nat → Prop := fun k => r ≤ k
section
variable {E : Nat → Option (Ent MD)}
theorem one_fromB {h h' : Hp MD} {r : Nat} (k : Keep (OneB r) h h') : Keep (FromB r) h h' := k.mono (fun g _ q => by have q : g = r := q; subst q; exact Nat.le_refl _)
theorem rd_tail {h : Hp MD} {r : Nat} {m m' : MD} {v v' : AV} {qs : List QF} (b : Bx h r (diskC m v)) (l : LF h v' qs r) (h1 : m'.limit = m.limit) (h2 : m'.armed = m.armed) (h3 : m'.down = m.down) (hp : (qs.map QF.mf).Perm m'.fs) (ok : m'.Ok) :
    RD (h.put r (.rw (spl (0 + 0) [v'] (diskC m v)))) r m' ∧ Keep (OneB r) h (h.put r (.rw (spl (0 + 0) [v'] (diskC m v)))) := by
  have k : Keep (OneB r) h (h.put r (.rw (spl (0 + 0) [v'] (diskC m v)))) := Keep.put _ _ _ rfl
  have e : spl (0 + 0) [v'] (diskC m v) = diskC m' v' := by unfold diskC; rw [h1, h2, h3]; rfl
  refine ⟨⟨⟨v', qs, ?_, l.keep k (fun k q _ => Nat.le_of_eq q), hp⟩, ok⟩, k⟩
  rw [e]
  exact b.put
theorem count_fs (m : MD) : m.count.fs = m.fs := by unfold MD.count; split <;> rfl
theorem rcreate_ok (hE : ∀ f e, E f = some e → e.plain) (T : RdT E) (hf : E 52 = some (.bc b_refCreate)) {h : Hp MD} {r : Nat} {m : MD} (a : RD h r m) (hn : m.fs.length ≤ 999) (s : List UInt8) (hs : s.length ≤ 1000) :
    WF (lim E) 52 [.ptr r 0, .str s] h fun x h' => x = .int .i64 (m.create s).1 ∧ RD h' r (m.create s).2 ∧ Keep (FromB r) h h' := by
  obtain ⟨v, qs, hb, hl, hp⟩ := a.out
  have hlen := q_len hp
  have hrn := hb.lt
  have hmx : (maxLen : Nat) = 9223372036854775807 := rfl
  refine wf_bc hE hf rfl ?_
  simp only [b_refCreate, List.map, getS]
  have okC := a.ok.create s
  have hcf : m.count.fs = m.fs := by unfold MD.count; split <;> rfl
  repeat first|(refine BG ?_;first|(refine BH ?_;first|(refine BI ?_;refine BM ?_)|(refine BJ ?_;first|refine BN ?_|refine BO ?_)|refine BP ?_)|(refine BK ?_;first|refine BS rfl rfl ?_|refine BT rfl rfl ?_|refine BU rfl ?_)|(refine BL ?_;first|refine BQ ?_)|(refine BR ?_;try simp only [setS]))|refine AA ?_|refine AC ?_|refine AD ?_|refine AE ?_|refine AF rfl rfl ?_|refine AG rfl rfl ?_|refine AH ?_|refine AI ?_|refine AJ ?_|refine AK ?_|refine AL ?_|refine AM ?_|refine AN ?_|refine AO ?_|refine AP ?_|refine AQ rfl ?_|refine AR ?_|refine AS ?_|refine AT rfl ?_|refine AU rfl ?_
  refine wr_call_e rfl ((rnamed_ok hE T.named s (by omega)).mono fun x h0 ⟨e1, e2⟩ => ?_)
  subst e1
  rcases Bool.eq_false_or_eq_true (MD.right s) with hr | hr
  · rw [hr] at e2
    subst e2
    repeat first|(refine BG ?_;first|(refine BH ?_;first|(refine BI ?_;refine BM ?_)|(refine BJ ?_;first|refine BN ?_|refine BO ?_)|refine BP ?_)|(refine BK ?_;first|refine BS rfl rfl ?_|refine BT rfl rfl ?_|refine BU rfl ?_)|(refine BL ?_;first|refine BQ ?_)|(refine BR ?_;try simp only [setS]))|refine AA ?_|refine AC ?_|refine AD ?_|refine AE ?_|refine AF rfl rfl ?_|refine AG rfl rfl ?_|refine AH ?_|refine AI ?_|refine AJ ?_|refine AK ?_|refine AL ?_|refine AM ?_|refine AN ?_|refine AO ?_|refine AP ?_|refine AQ rfl ?_|refine AR ?_|refine AS ?_|refine AT rfl ?_|refine AU rfl ?_
    refine wr_call_s rfl ((rgoes_ok hE T.goes hb a.ok).mono fun x h1 ⟨e1, b1, k1⟩ => ?_)
    have l1 := hl.keep k1 (fun k q _ => Nat.le_of_eq q)
    have n1 := k1.n
    rcases Bool.eq_false_or_eq_true m.count.down with hd | hd
    · have hc : m.create s = (13, m.count) := by unfold MD.create; rw [if_neg (by rw [hr]; decide), if_pos hd]
      rw [hd] at e1
      rw [hc] at okC ⊢
      subst e1
      repeat first|(refine BG ?_;first|(refine BH ?_;first|(refine BI ?_;refine BM ?_)|(refine BJ ?_;first|refine BN ?_|refine BO ?_)|refine BP ?_)|(refine BK ?_;first|refine BS rfl rfl ?_|refine BT rfl rfl ?_|refine BU rfl ?_)|(refine BL ?_;first|refine BQ ?_)|(refine BR ?_;try simp only [setS]))|refine AA ?_|refine AC ?_|refine AD ?_|refine AE ?_|refine AF rfl rfl ?_|refine AG rfl rfl ?_|refine AH ?_|refine AI ?_|refine AJ ?_|refine AK ?_|refine AL ?_|refine AM ?_|refine AN ?_|refine AO ?_|refine AP ?_|refine AQ rfl ?_|refine AR ?_|refine AS ?_|refine AT rfl ?_|refine AU rfl ?_
      exact ⟨rfl, ⟨⟨v, qs, b1, l1, by rw [hcf]; exact hp⟩, okC⟩, one_fromB k1⟩
    · have hc : m.create s = (0, { m.count with fs := putL MF.name m.count.fs ⟨s, [], 0⟩ }) := by unfold MD.create; rw [if_neg (by rw [hr]; decide), if_neg (by rw [hd]; decide)]
      rw [hd] at e1
      rw [hc] at okC ⊢
      subst e1
      repeat first|(refine BG ?_;first|(refine BH ?_;first|(refine BI ?_;refine BM ?_)|(refine BJ ?_;first|refine BN ?_|refine BO ?_)|refine BP ?_)|(refine BK ?_;first|refine BS rfl rfl ?_|refine BT rfl rfl ?_|refine BU rfl ?_)|(refine BL ?_;first|refine BQ ?_)|(refine BR ?_;try simp only [setS]))|refine AA ?_|refine AC ?_|refine AD ?_|refine AE ?_|refine AF rfl rfl ?_|refine AG rfl rfl ?_|refine AH ?_|refine AI ?_|refine AJ ?_|refine AK ?_|refine AL ?_|refine AM ?_|refine AN ?_|refine AO ?_|refine AP ?_|refine AQ rfl ?_|refine AR ?_|refine AS ?_|refine AT rfl ?_|refine AU rfl ?_
      refine wr_call_e rfl ((rwithout_ok hE T.without b1 l1 (by omega) s).mono fun x h2 ⟨v2, b2, l2, lo2, k2⟩ => ?_)
      have n2 := k2.n
      have hfl : (qs.filter fun q => q.name != s).length ≤ qs.length := List.length_filter_le ..
      obtain ⟨p1, p2, p3⟩ := l2.next (q := ⟨s, .snil, [], 0⟩) ⟨rfl, rfl⟩ (fun k q => q.elim) (by omega)
      repeat first|(refine BG ?_;first|(refine BH ?_;first|(refine BI ?_;refine BM ?_)|(refine BJ ?_;first|refine BN ?_|refine BO ?_)|refine BV (v_bx b2 rfl rfl) ?_|refine BP ?_)|(refine BK ?_;first|refine BS rfl rfl ?_|refine BT rfl rfl ?_|refine BU rfl ?_)|(refine BL ?_;first|refine BW (ef_bsQ (q := ⟨s, .snil, [], 0⟩) rfl rfl) ?_|refine BQ ?_)|(refine BR ?_;try simp only [setS]))|refine AA ?_|refine AC ?_|refine AD ?_|refine AE ?_|refine AF rfl rfl ?_|refine AG rfl rfl ?_|refine AH ?_|refine AI ?_|refine AJ ?_|refine AK ?_|refine AL ?_|refine AM ?_|refine AN ?_|refine AO ?_|refine AP ?_|refine AQ rfl ?_|refine AR ?_|refine AS ?_|refine AT rfl ?_|refine AU rfl ?_
      refine wr_app_e rfl rfl p1 (by decide) p2 (by omega) (by omega) fun v' h' a1 a2 a3 => ?_
      obtain ⟨p4, p5⟩ := p3 v' h' a1 a2 a3
      have b3 := b2.keep p5 (fun q => by have := lo2 r q; omega)
      repeat first|(refine BG ?_;first|(refine BH ?_;first|(refine BI ?_;refine BM ?_)|(refine BJ ?_;first|refine BN ?_|refine BO ?_)|refine BV (v_bx b3 rfl rfl) ?_|refine BP ?_)|(refine BK ?_;first|refine BS rfl rfl ?_|refine BT rfl rfl ?_|refine BU rfl ?_)|(refine BL ?_;first|refine BW (ef_bx b3 rfl rfl p4.arr.one (by exact Nat.le_of_ble_eq_true rfl)) ?_|refine BQ ?_)|(refine BR ?_;try simp only [setS]))|refine AA ?_|refine AC ?_|refine AD ?_|refine AE ?_|refine AF rfl rfl ?_|refine AG rfl rfl ?_|refine AH ?_|refine AI ?_|refine AJ ?_|refine AK ?_|refine AL ?_|refine AM ?_|refine AN ?_|refine AO ?_|refine AP ?_|refine AQ rfl ?_|refine AR ?_|refine AS ?_|refine AT rfl ?_|refine AU rfl ?_
      exact ⟨rfl, (rd_tail (m' := { m.count with fs := putL MF.name m.count.fs ⟨s, [], 0⟩ }) b3 p4 rfl rfl rfl (by rw [hcf]; exact q_put hp (q := ⟨s, .snil, [], 0⟩) s rfl) okC).1, ((one_fromB k1).trans (one_fromB k2) (fun _ _ q => q)).trans ((p5.mono (fun g _ q => (Nat.le_of_lt (l2.fro g q) : FromB r g))).trans (one_fromB (Keep.put _ _ _ rfl)) (fun _ _ q => q)) (fun _ _ q => q)⟩
  · have hc : m.create s = (1, m) := by unfold MD.create; rw [if_pos hr]
    rw [hr] at e2
    subst e2
    rw [hc]
    repeat first|(refine BG ?_;first|(refine BH ?_;first|(refine BI ?_;refine BM ?_)|(refine BJ ?_;first|refine BN ?_|refine BO ?_)|refine BP ?_)|(refine BK ?_;first|refine BS rfl rfl ?_|refine BT rfl rfl ?_|refine BU rfl ?_)|(refine BL ?_;first|refine BQ ?_)|(refine BR ?_;try simp only [setS]))|refine AA ?_|refine AC ?_|refine AD ?_|refine AE ?_|refine AF rfl rfl ?_|refine AG rfl rfl ?_|refine AH ?_|refine AI ?_|refine AJ ?_|refine AK ?_|refine AL ?_|refine AM ?_|refine AN ?_|refine AO ?_|refine AP ?_|refine AQ rfl ?_|refine AR ?_|refine AS ?_|refine AT rfl ?_|refine AU rfl ?_
    exact ⟨rfl, a, Keep.refl _ _⟩
theorem rat_none {qs : List QF} {m : MD} {s : Bs} {a : AV} (hp : (qs.map QF.mf).Perm m.fs) (ok : m.Ok) (hg : m.get s = none) (H : (∃ (i : Nat) (q : QF), qs[i]? = some q ∧ q.name = s ∧ a = .int .i64 i) ∨ ((∀ q ∈ qs, q.name ≠ s) ∧ a = .int .i64 (-1))) : a = .int .i64 (-1) := by
  rcases H with ⟨i, q, h1, rfl, _⟩ | ⟨_, h⟩
  · rw [q_some hp ok h1] at hg; cases hg
  · exact h
theorem rat_some {qs : List QF} {m : MD} {s : Bs} {a : AV} {f : MF} (hp : (qs.map QF.mf).Perm m.fs) (ok : m.Ok) (hg : m.get s = some f) (H : (∃ (i : Nat) (q : QF), qs[i]? = some q ∧ q.name = s ∧ a = .int .i64 i) ∨ ((∀ q ∈ qs, q.name ≠ s) ∧ a = .int .i64 (-1))) : ∃ (i : Nat) (q : QF), qs[i]? = some q ∧ q.name = s ∧ a = .int .i64 i ∧ f = q.mf := by
  rcases H with ⟨i, q, h1, rfl, h2⟩ | ⟨h, _⟩
  · rw [q_some hp ok h1] at hg; cases hg; exact ⟨i, q, h1, rfl, h2, rfl⟩
  · rw [q_none hp h] at hg; cases hg
theorem rremove_ok (hE : ∀ f e, E f = some e → e.plain) (T : RdT E) (hf : E 62 = some (.bc b_refRemove)) {h : Hp MD} {r : Nat} {m : MD} (a : RD h r m) (hn : m.fs.length ≤ 999) (s : List UInt8) :
    WF (lim E) 62 [.ptr r 0, .str s] h fun x h' => x = .int .i64 (m.remove s).1 ∧ RD h' r (m.remove s).2 ∧ Keep (FromB r) h h' := by
  obtain ⟨v, qs, hb, hl, hp⟩ := a.out
  have hlen := q_len hp
  refine wf_bc hE hf rfl ?_
  simp only [b_refRemove, List.map, getS]
  have okC := a.ok.remove s
  have hcf := count_fs m
  repeat first|(refine BG ?_;first|(refine BH ?_;first|(refine BI ?_;refine BM ?_)|(refine BJ ?_;first|refine BN ?_|refine BO ?_)|refine BP ?_)|(refine BK ?_;first|refine BS rfl rfl ?_|refine BT rfl rfl ?_|refine BU rfl ?_)|(refine BL ?_;first|refine BQ ?_)|(refine BR ?_;try simp only [setS]))|refine AA ?_|refine AC ?_|refine AD ?_|refine AE ?_|refine AF rfl rfl ?_|refine AG rfl rfl ?_|refine AH ?_|refine AI ?_|refine AJ ?_|refine AK ?_|refine AL ?_|refine AM ?_|refine AN ?_|refine AO ?_|refine AP ?_|refine AQ rfl ?_|refine AR ?_|refine AS ?_|refine AT rfl ?_|refine AU rfl ?_
  refine wr_call_e rfl ((rat_ok hE T.at_ hb hl (by omega) s).mono fun x h0 ⟨e1, e2⟩ => ?_)
  subst e1
  cases hg : m.get s with
  | none =>
    have hc : m.remove s = (22, m) := by unfold MD.remove; rw [hg]
    have e3 := rat_none hp a.ok hg e2
    subst e3
    rw [hc]
    repeat first|(refine BG ?_;first|(refine BH ?_;first|(refine BI ?_;refine BM ?_)|(refine BJ ?_;first|refine BN ?_|refine BO ?_)|refine BP ?_)|(refine BK ?_;first|refine BS rfl rfl ?_|refine BT rfl rfl ?_|refine BU rfl ?_)|(refine BL ?_;first|refine BQ ?_)|(refine BR ?_;try simp only [setS]))|refine AA ?_|refine AC ?_|refine AD ?_|refine AE ?_|refine AF rfl rfl ?_|refine AG rfl rfl ?_|refine AH ?_|refine AI ?_|refine AJ ?_|refine AK ?_|refine AL ?_|refine AM ?_|refine AN ?_|refine AO ?_|refine AP ?_|refine AQ rfl ?_|refine AR ?_|refine AS ?_|refine AT rfl ?_|refine AU rfl ?_
    exact ⟨rfl, a, Keep.refl _ _⟩
  | some f =>
    obtain ⟨i, q, hq, hqs, e3, _⟩ := rat_some hp a.ok hg e2
    subst e3
    repeat first|(refine BG ?_;first|(refine BH ?_;first|(refine BI ?_;refine BM ?_)|(refine BJ ?_;first|refine BN ?_|refine BO ?_)|refine BP ?_)|(refine BK ?_;first|refine BS rfl rfl ?_|refine BT rfl rfl ?_|refine BU rfl ?_)|(refine BL ?_;first|refine BQ ?_)|(refine BR ?_;try simp only [setS]))|refine AA ?_|refine AC ?_|refine AD ?_|refine AE ?_|refine AF rfl rfl ?_|refine AG rfl rfl ?_|refine AH ?_|refine AI ?_|refine AJ ?_|refine AK ?_|refine AL ?_|refine AM ?_|refine AN ?_|refine AO ?_|refine AP ?_|refine AQ rfl ?_|refine AR ?_|refine AS ?_|refine AT rfl ?_|refine AU rfl ?_
    refine wr_call_s rfl ((rgoes_ok hE T.goes hb a.ok).mono fun x h1 ⟨e1, b1, k1⟩ => ?_)
    have l1 := hl.keep k1 (fun k q _ => Nat.le_of_eq q)
    rcases Bool.eq_false_or_eq_true m.count.down with hd | hd
    · have hc : m.remove s = (13, m.count) := by unfold MD.remove; rw [hg]; simp only; rw [if_pos hd]
      rw [hd] at e1
      rw [hc] at okC ⊢
      subst e1
      repeat first|(refine BG ?_;first|(refine BH ?_;first|(refine BI ?_;refine BM ?_)|(refine BJ ?_;first|refine BN ?_|refine BO ?_)|refine BP ?_)|(refine BK ?_;first|refine BS rfl rfl ?_|refine BT rfl rfl ?_|refine BU rfl ?_)|(refine BL ?_;first|refine BQ ?_)|(refine BR ?_;try simp only [setS]))|refine AA ?_|refine AC ?_|refine AD ?_|refine AE ?_|refine AF rfl rfl ?_|refine AG rfl rfl ?_|refine AH ?_|refine AI ?_|refine AJ ?_|refine AK ?_|refine AL ?_|refine AM ?_|refine AN ?_|refine AO ?_|refine AP ?_|refine AQ rfl ?_|refine AR ?_|refine AS ?_|refine AT rfl ?_|refine AU rfl ?_
      exact ⟨rfl, ⟨⟨v, qs, b1, l1, by rw [hcf]; exact hp⟩, okC⟩, one_fromB k1⟩
    · have hc : m.remove s = (0, { m.count with fs := dropL MF.name m.fs s }) := by unfold MD.remove; rw [hg]; simp only; rw [if_neg (by rw [hd]; decide)]
      rw [hd] at e1
      rw [hc] at okC ⊢
      subst e1
      repeat first|(refine BG ?_;first|(refine BH ?_;first|(refine BI ?_;refine BM ?_)|(refine BJ ?_;first|refine BN ?_|refine BO ?_)|refine BP ?_)|(refine BK ?_;first|refine BS rfl rfl ?_|refine BT rfl rfl ?_|refine BU rfl ?_)|(refine BL ?_;first|refine BQ ?_)|(refine BR ?_;try simp only [setS]))|refine AA ?_|refine AC ?_|refine AD ?_|refine AE ?_|refine AF rfl rfl ?_|refine AG rfl rfl ?_|refine AH ?_|refine AI ?_|refine AJ ?_|refine AK ?_|refine AL ?_|refine AM ?_|refine AN ?_|refine AO ?_|refine AP ?_|refine AQ rfl ?_|refine AR ?_|refine AS ?_|refine AT rfl ?_|refine AU rfl ?_
      refine wr_call_e rfl ((rwithout_ok hE T.without b1 l1 (by omega) s).mono fun x h2 ⟨v2, b2, l2, lo2, k2⟩ => ?_)
      repeat first|(refine BG ?_;first|(refine BH ?_;first|(refine BI ?_;refine BM ?_)|(refine BJ ?_;first|refine BN ?_|refine BO ?_)|refine BP ?_)|(refine BK ?_;first|refine BS rfl rfl ?_|refine BT rfl rfl ?_|refine BU rfl ?_)|(refine BL ?_;first|refine BQ ?_)|(refine BR ?_;try simp only [setS]))|refine AA ?_|refine AC ?_|refine AD ?_|refine AE ?_|refine AF rfl rfl ?_|refine AG rfl rfl ?_|refine AH ?_|refine AI ?_|refine AJ ?_|refine AK ?_|refine AL ?_|refine AM ?_|refine AN ?_|refine AO ?_|refine AP ?_|refine AQ rfl ?_|refine AR ?_|refine AS ?_|refine AT rfl ?_|refine AU rfl ?_
      exact ⟨rfl, ⟨⟨v2, _, b2, l2, q_drop hp s⟩, okC⟩, (one_fromB k1).trans (one_fromB k2) (fun _ _ q => q)⟩
theorem rarm_ok (hE : ∀ f e, E f = some e → e.plain) (hf : E 63 = some (.bc b_refArm)) {h : Hp MD} {r : Nat} {m : MD} (a : RD h r m) {n : Int} (hn : n ≤ 9223372036854775807) :
    WF (lim E) 63 [.ptr r 0, .int .i64 n] h fun x h' => RD h' r (m.arm n) ∧ Keep (FromB r) h h' := by
  obtain ⟨v, qs, hb, hl, hp⟩ := a.out
  refine wf_bc hE hf rfl ?_
  simp only [b_refArm, List.map, getS]
  have okC := a.ok.arm n hn
  rcases Bool.eq_false_or_eq_true m.down with hd | hd
  · have hc : m.arm n = m := by unfold MD.arm; rw [if_pos hd]
    have hb2 := hb
    unfold diskC at hb
    rw [hd] at hb
    rw [hc]
    repeat first|(refine BG ?_;first|(refine BH ?_;first|(refine BI ?_;refine BM ?_)|(refine BJ ?_;first|refine BN ?_|refine BO ?_)|refine BV (v_bx hb rfl rfl) ?_|refine BV (v_notb rfl) ?_|refine BP ?_)|(refine BK ?_;first|refine BS rfl rfl ?_|refine BT rfl rfl ?_|refine BU rfl ?_)|(refine BL ?_;first|refine BQ ?_)|(refine BR ?_;try simp only [setS]))|refine AA ?_|refine AC ?_|refine AD ?_|refine AE ?_|refine AF rfl rfl ?_|refine AG rfl rfl ?_|refine AH ?_|refine AI ?_|refine AJ ?_|refine AK ?_|refine AL ?_|refine AM ?_|refine AN ?_|refine AO ?_|refine AP ?_|refine AQ rfl ?_|refine AR ?_|refine AS ?_|refine AT rfl ?_|refine AU rfl ?_
    exact ⟨a, Keep.refl _ _⟩
  · have hc : m.arm n = { m with armed := max n 0 } := by unfold MD.arm; rw [if_neg (by rw [hd]; decide)]
    have hb2 := hb
    unfold diskC at hb
    rw [hd] at hb
    rw [hc] at okC ⊢
    repeat first|(refine BG ?_;first|(refine BH ?_;first|(refine BI ?_;refine BM ?_)|(refine BJ ?_;first|refine BN ?_|refine BO ?_)|refine BV (v_bx hb rfl rfl) ?_|refine BV (v_notb rfl) ?_|refine BV (v_max rfl rfl) ?_|refine BP ?_)|(refine BK ?_;first|refine BS rfl rfl ?_|refine BT rfl rfl ?_|refine BU rfl ?_)|(refine BL ?_;first|refine BW (ef_bx hb rfl rfl ⟨rfl, rfl⟩ (by exact Nat.le_of_ble_eq_true rfl)) ?_|refine BQ ?_)|(refine BR ?_;try simp only [setS]))|refine AA ?_|refine AC ?_|refine AD ?_|refine AE ?_|refine AF rfl rfl ?_|refine AG rfl rfl ?_|refine AH ?_|refine AI ?_|refine AJ ?_|refine AK ?_|refine AL ?_|refine AM ?_|refine AN ?_|refine AO ?_|refine AP ?_|refine AQ rfl ?_|refine AR ?_|refine AS ?_|refine AT rfl ?_|refine AU rfl ?_
    have k : Keep (OneB r) h (h.put r (.rw [v, .int .i64 m.limit, .int .i64 (max n 0), .bool false])) := Keep.put _ _ _ rfl
    have b2 : Bx (h.put r (.rw [v, .int .i64 m.limit, .int .i64 (max n 0), .bool false])) r (diskC { m with armed := max n 0 } v) := by
      unfold diskC
      rw [hd]
      exact hb.put
    exact ⟨⟨⟨v, qs, b2, hl.keep k (fun k q _ => Nat.le_of_eq q), hp⟩, okC⟩, one_fromB k⟩
theorem rgrow_ok (hE : ∀ f e, E f = some e → e.plain) (T : RdT E) (hf : E 66 = some (.bc b_refGrow)) {h : Hp MD} {r : Nat} {m : MD} (a : RD h r m) (hn : m.fs.length ≤ 999) (n : Int) :
    WF (lim E) 66 [.ptr r 0, .int .i64 n] h fun x h' => x = .bool (m.grow n).1 ∧ RD h' r (m.grow n).2 ∧ Keep (FromB r) h h' := by
  obtain ⟨v, qs, hb, hl, hp⟩ := a.out
  have hlen := q_len hp
  have hus : qsum qs = m.used := q_used hp
  have hro := a.ok.room
  have hl1 := a.ok.lim1
  refine wf_bc hE hf rfl ?_
  simp only [b_refGrow, List.map, getS]
  have okC := a.ok.grow n
  repeat first|(refine BG ?_;first|(refine BH ?_;first|(refine BI ?_;refine BM ?_)|(refine BJ ?_;first|refine BN ?_|refine BO ?_)|refine BP ?_)|(refine BK ?_;first|refine BS rfl rfl ?_|refine BT rfl rfl ?_|refine BU rfl ?_)|(refine BL ?_;first|refine BQ ?_)|(refine BR ?_;try simp only [setS]))|refine AA ?_|refine AC ?_|refine AD ?_|refine AE ?_|refine AF rfl rfl ?_|refine AG rfl rfl ?_|refine AH ?_|refine AI ?_|refine AJ ?_|refine AK ?_|refine AL ?_|refine AM ?_|refine AN ?_|refine AO ?_|refine AP ?_|refine AQ rfl ?_|refine AR ?_|refine AS ?_|refine AT rfl ?_|refine AU rfl ?_
  refine wr_call_e rfl ((rused_ok hE T.used hb hl (by omega) (by omega)).mono fun x h0 ⟨e1, e2⟩ => ?_)
  subst e1 e2
  rw [hus]
  by_cases h1 : n < m.used
  · have hc : m.grow n = (false, m) := by unfold MD.grow; rw [if_pos (.inl h1)]
    rw [hc]
    repeat first|(refine BG ?_;first|(refine BH ?_;first|(refine BI ?_;refine BM ?_)|(refine BJ ?_;first|refine BN ?_|refine BO ?_)|refine BP ?_)|(refine BK ?_;first|refine BS rfl rfl ?_|refine BT rfl rfl ?_|refine BU rfl ?_)|(refine BL ?_;first|refine BQ ?_)|(refine BR ?_;try simp only [setS]))|refine AA ?_|refine AC ?_|refine AD ?_|refine AE ?_|refine AF rfl rfl ?_|refine AG rfl rfl ?_|refine AH ?_|refine AI ?_|refine AJ ?_|refine AK ?_|refine AL ?_|refine AM ?_|refine AN ?_|refine AO ?_|refine AP ?_|refine AQ rfl ?_|refine AR ?_|refine AS ?_|refine AT rfl ?_|refine AU rfl ?_
    exact ⟨rfl, a, Keep.refl _ _⟩
  · by_cases h2 : 16777216 < n
    · have hc : m.grow n = (false, m) := by unfold MD.grow; rw [if_pos (.inr h2)]
      rw [hc]
      repeat first|(refine BG ?_;first|(refine BH ?_;first|(refine BI ?_;refine BM ?_)|(refine BJ ?_;first|refine BN ?_|refine BO ?_)|refine BP ?_)|(refine BK ?_;first|refine BS rfl rfl ?_|refine BT rfl rfl ?_|refine BU rfl ?_)|(refine BL ?_;first|refine BQ ?_)|(refine BR ?_;try simp only [setS]))|refine AA ?_|refine AC ?_|refine AD ?_|refine AE ?_|refine AF rfl rfl ?_|refine AG rfl rfl ?_|refine AH ?_|refine AI ?_|refine AJ ?_|refine AK ?_|refine AL ?_|refine AM ?_|refine AN ?_|refine AO ?_|refine AP ?_|refine AQ rfl ?_|refine AR ?_|refine AS ?_|refine AT rfl ?_|refine AU rfl ?_
      exact ⟨rfl, a, Keep.refl _ _⟩
    · have hc : m.grow n = (true, { m with limit := n }) := by unfold MD.grow; rw [if_neg (by omega)]
      rw [hc] at okC ⊢
      repeat first|(refine BG ?_;first|(refine BH ?_;first|(refine BI ?_;refine BM ?_)|(refine BJ ?_;first|refine BN ?_|refine BO ?_)|refine BP ?_)|(refine BK ?_;first|refine BS rfl rfl ?_|refine BT rfl rfl ?_|refine BU rfl ?_)|(refine BL ?_;first|refine BW (ef_bx hb rfl rfl ⟨rfl, rfl⟩ (by exact Nat.le_of_ble_eq_true rfl)) ?_|refine BQ ?_)|(refine BR ?_;try simp only [setS]))|refine AA ?_|refine AC ?_|refine AD ?_|refine AE ?_|refine AF rfl rfl ?_|refine AG rfl rfl ?_|refine AH ?_|refine AI ?_|refine AJ ?_|refine AK ?_|refine AL ?_|refine AM ?_|refine AN ?_|refine AO ?_|refine AP ?_|refine AQ rfl ?_|refine AR ?_|refine AS ?_|refine AT rfl ?_|refine AU rfl ?_
      have k : Keep (OneB r) h0 (h0.put r (.rw (diskC { m with limit := n } v))) := Keep.put _ _ _ rfl
      exact ⟨rfl, ⟨⟨v, qs, hb.put, hl.keep k (fun k q _ => Nat.le_of_eq q), hp⟩, okC⟩, one_fromB k⟩
theorem rread_none (hE : ∀ f e, E f = some e → e.plain) (T : RdT E) (hf : E 70 = some (.bc b_refRead)) {h : Hp MD} {r : Nat} {m : MD} (a : RD h r m) (hn : m.fs.length ≤ 999) {s : List UInt8} (hg : m.get s = none) :
    WF (lim E) 70 [.ptr r 0, .str s] h fun x h' => h' = h ∧ x = .tup [.snil, .int .i64 0, .bool false] := by
  obtain ⟨v, qs, hb, hl, hp⟩ := a.out
  have hlen := q_len hp
  refine wf_bc hE hf rfl ?_
  simp only [b_refRead, List.map, getS]
  repeat first|(refine BG ?_;first|(refine BH ?_;first|(refine BI ?_;refine BM ?_)|(refine BJ ?_;first|refine BN ?_|refine BO ?_)|refine BP ?_)|(refine BK ?_;first|refine BS rfl rfl ?_|refine BT rfl rfl ?_|refine BU rfl ?_)|(refine BL ?_;first|refine BQ ?_)|(refine BR ?_;try simp only [setS]))|refine AA ?_|refine AC ?_|refine AD ?_|refine AE ?_|refine AF rfl rfl ?_|refine AG rfl rfl ?_|refine AH ?_|refine AI ?_|refine AJ ?_|refine AK ?_|refine AL ?_|refine AM ?_|refine AN ?_|refine AO ?_|refine AP ?_|refine AQ rfl ?_|refine AR ?_|refine AS ?_|refine AT rfl ?_|refine AU rfl ?_
  refine wr_call_e rfl ((rat_ok hE T.at_ hb hl (by omega) s).mono fun x h0 ⟨e1, e2⟩ => ?_)
  subst e1
  have e3 := rat_none hp a.ok hg e2
  subst e3
  repeat first|(refine BG ?_;first|(refine BH ?_;first|(refine BI ?_;refine BM ?_)|(refine BJ ?_;first|refine BN ?_|refine BO ?_)|refine BP ?_)|(refine BK ?_;first|refine BS rfl rfl ?_|refine BT rfl rfl ?_|refine BU rfl ?_)|(refine BL ?_;first|refine BQ ?_)|(refine BR ?_;try simp only [setS]))|refine AA ?_|refine AC ?_|refine AD ?_|refine AE ?_|refine AF rfl rfl ?_|refine AG rfl rfl ?_|refine AH ?_|refine AI ?_|refine AJ ?_|refine AK ?_|refine AL ?_|refine AM ?_|refine AN ?_|refine AO ?_|refine AP ?_|refine AQ rfl ?_|refine AR ?_|refine AS ?_|refine AT rfl ?_|refine AU rfl ?_
  exact ⟨rfl, rfl⟩
theorem rread_some (hE : ∀ f e, E f = some e → e.plain) (T : RdT E) (hf : E 70 = some (.bc b_refRead)) {h : Hp MD} {r : Nat} {m : MD} (a : RD h r m) (hn : m.fs.length ≤ 999) {s : List UInt8} {f : MF} (hg : m.get s = some f) :
    WF (lim E) 70 [.ptr r 0, .str s] h fun x h' => h' = h ∧ ∃ w, x = .tup [w, .int .i64 f.synced, .bool true] ∧ RS h 1 w f.b.length (f.b.map ub) := by
  obtain ⟨v, qs, hb, hl, hp⟩ := a.out
  have hlen := q_len hp
  refine wf_bc hE hf rfl ?_
  simp only [b_refRead, List.map, getS]
  repeat first|(refine BG ?_;first|(refine BH ?_;first|(refine BI ?_;refine BM ?_)|(refine BJ ?_;first|refine BN ?_|refine BO ?_)|refine BP ?_)|(refine BK ?_;first|refine BS rfl rfl ?_|refine BT rfl rfl ?_|refine BU rfl ?_)|(refine BL ?_;first|refine BQ ?_)|(refine BR ?_;try simp only [setS]))|refine AA ?_|refine AC ?_|refine AD ?_|refine AE ?_|refine AF rfl rfl ?_|refine AG rfl rfl ?_|refine AH ?_|refine AI ?_|refine AJ ?_|refine AK ?_|refine AL ?_|refine AM ?_|refine AN ?_|refine AO ?_|refine AP ?_|refine AQ rfl ?_|refine AR ?_|refine AS ?_|refine AT rfl ?_|refine AU rfl ?_
  refine wr_call_e rfl ((rat_ok hE T.at_ hb hl (by omega) s).mono fun x h0 ⟨e1, e2⟩ => ?_)
  subst e1
  obtain ⟨i, q, hq, hqs, e3, rfl⟩ := rat_some hp a.ok hg e2
  subst e3
  obtain ⟨g, o, ca, c0, c1, c2, _⟩ := hl.at hq
  repeat first|(refine BG ?_;first|(refine BH ?_;first|(refine BI ?_;refine BM ?_)|(refine BJ ?_;first|refine BN ?_|refine BO ?_)|refine BP ?_)|(refine BK ?_;first|refine BS rfl rfl ?_|refine BT rfl rfl ?_|refine BU rfl ?_)|(refine BL ?_;first|refine BQ ?_)|(refine BR ?_;try simp only [setS]))|refine AA ?_|refine AC ?_|refine AD ?_|refine AE ?_|refine AF rfl rfl ?_|refine AG rfl rfl ?_|refine AH ?_|refine AI ?_|refine AJ ?_|refine AK ?_|refine AL ?_|refine AM ?_|refine AN ?_|refine AO ?_|refine AP ?_|refine AQ rfl ?_|refine AR ?_|refine AS ?_|refine AT rfl ?_|refine AU rfl ?_
  repeat first|(refine BG ?_;first|(refine BH ?_;first|(refine BI ?_;refine BM ?_)|(refine BJ ?_;first|refine BN ?_|refine BO ?_)|refine BV (v_bx hb rfl rfl) ?_|refine BV (ca rfl rfl) ?_|refine BV (c1 rfl) ?_|refine BV (c2 rfl) ?_|refine BP ?_)|(refine BK ?_;first|refine BS rfl rfl ?_|refine BT rfl rfl ?_|refine BU rfl ?_)|(refine BL ?_;first|refine BQ ?_)|(refine BR ?_;try simp only [setS]))|(refine BX ?_;first|refine BY rfl ?_|(refine BZ ?_;refine CA ?_)|refine CB (v_bx hb rfl rfl) ?_|refine CB (ca rfl rfl) ?_|refine CB (c1 rfl) ?_|refine CB (c2 rfl) ?_|refine CC ?_|(refine CD ?_;try simp only [setS]))|refine AA ?_|refine AC ?_|refine AD ?_|refine AE ?_|refine AF rfl rfl ?_|refine AG rfl rfl ?_|refine AH ?_|refine AI ?_|refine AJ ?_|refine AK ?_|refine AL ?_|refine AM ?_|refine AN ?_|refine AO ?_|refine AP ?_|refine AQ rfl ?_|refine AR ?_|refine AS ?_|refine AT rfl ?_|refine AU rfl ?_
  exact ⟨rfl, _, rfl, (hl.row q (List.mem_of_getElem? hq)).1⟩
theorem rsync_ok (hE : ∀ f e, E f = some e → e.plain) (T : RdT E) (hf : E 56 = some (.bc b_refSync)) {h : Hp MD} {r : Nat} {m : MD} (a : RD h r m) (hn : m.fs.length ≤ 999) (s : List UInt8) :
    WF (lim E) 56 [.ptr r 0, .str s] h fun x h' => x = .int .i64 (m.sync s).1 ∧ RD h' r (m.sync s).2 ∧ Keep (FromB r) h h' := by
  obtain ⟨v, qs, hb, hl, hp⟩ := a.out
  have hlen := q_len hp
  refine wf_bc hE hf rfl ?_
  simp only [b_refSync, List.map, getS]
  have okC := a.ok.sync s
  have hcf := count_fs m
  repeat first|(refine BG ?_;first|(refine BH ?_;first|(refine BI ?_;refine BM ?_)|(refine BJ ?_;first|refine BN ?_|refine BO ?_)|refine BP ?_)|(refine BK ?_;first|refine BS rfl rfl ?_|refine BT rfl rfl ?_|refine BU rfl ?_)|(refine BL ?_;first|refine BQ ?_)|(refine BR ?_;try simp only [setS]))|refine AA ?_|refine AC ?_|refine AD ?_|refine AE ?_|refine AF rfl rfl ?_|refine AG rfl rfl ?_|refine AH ?_|refine AI ?_|refine AJ ?_|refine AK ?_|refine AL ?_|refine AM ?_|refine AN ?_|refine AO ?_|refine AP ?_|refine AQ rfl ?_|refine AR ?_|refine AS ?_|refine AT rfl ?_|refine AU rfl ?_
  refine wr_call_e rfl ((rat_ok hE T.at_ hb hl (by omega) s).mono fun x h0 ⟨e1, e2⟩ => ?_)
  subst e1
  cases hg : m.get s with
  | none =>
    have hc : m.sync s = (22, m) := by unfold MD.sync; rw [hg]
    have e3 := rat_none hp a.ok hg e2
    subst e3
    rw [hc]
    repeat first|(refine BG ?_;first|(refine BH ?_;first|(refine BI ?_;refine BM ?_)|(refine BJ ?_;first|refine BN ?_|refine BO ?_)|refine BP ?_)|(refine BK ?_;first|refine BS rfl rfl ?_|refine BT rfl rfl ?_|refine BU rfl ?_)|(refine BL ?_;first|refine BQ ?_)|(refine BR ?_;try simp only [setS]))|refine AA ?_|refine AC ?_|refine AD ?_|refine AE ?_|refine AF rfl rfl ?_|refine AG rfl rfl ?_|refine AH ?_|refine AI ?_|refine AJ ?_|refine AK ?_|refine AL ?_|refine AM ?_|refine AN ?_|refine AO ?_|refine AP ?_|refine AQ rfl ?_|refine AR ?_|refine AS ?_|refine AT rfl ?_|refine AU rfl ?_
    exact ⟨rfl, a, Keep.refl _ _⟩
  | some f =>
    obtain ⟨i, q, hq, hqs, e3, _⟩ := rat_some hp a.ok hg e2
    subst e3
    repeat first|(refine BG ?_;first|(refine BH ?_;first|(refine BI ?_;refine BM ?_)|(refine BJ ?_;first|refine BN ?_|refine BO ?_)|refine BP ?_)|(refine BK ?_;first|refine BS rfl rfl ?_|refine BT rfl rfl ?_|refine BU rfl ?_)|(refine BL ?_;first|refine BQ ?_)|(refine BR ?_;try simp only [setS]))|refine AA ?_|refine AC ?_|refine AD ?_|refine AE ?_|refine AF rfl rfl ?_|refine AG rfl rfl ?_|refine AH ?_|refine AI ?_|refine AJ ?_|refine AK ?_|refine AL ?_|refine AM ?_|refine AN ?_|refine AO ?_|refine AP ?_|refine AQ rfl ?_|refine AR ?_|refine AS ?_|refine AT rfl ?_|refine AU rfl ?_
    refine wr_call_s rfl ((rgoes_ok hE T.goes hb a.ok).mono fun x h1 ⟨e1, b1, k1⟩ => ?_)
    have l1 := hl.keep k1 (fun k q _ => Nat.le_of_eq q)
    rcases Bool.eq_false_or_eq_true m.count.down with hd | hd
    · have hc : m.sync s = (13, m.count) := by unfold MD.sync; rw [hg]; simp only; rw [if_pos hd]
      rw [hd] at e1
      rw [hc] at okC ⊢
      subst e1
      repeat first|(refine BG ?_;first|(refine BH ?_;first|(refine BI ?_;refine BM ?_)|(refine BJ ?_;first|refine BN ?_|refine BO ?_)|refine BP ?_)|(refine BK ?_;first|refine BS rfl rfl ?_|refine BT rfl rfl ?_|refine BU rfl ?_)|(refine BL ?_;first|refine BQ ?_)|(refine BR ?_;try simp only [setS]))|refine AA ?_|refine AC ?_|refine AD ?_|refine AE ?_|refine AF rfl rfl ?_|refine AG rfl rfl ?_|refine AH ?_|refine AI ?_|refine AJ ?_|refine AK ?_|refine AL ?_|refine AM ?_|refine AN ?_|refine AO ?_|refine AP ?_|refine AQ rfl ?_|refine AR ?_|refine AS ?_|refine AT rfl ?_|refine AU rfl ?_
      exact ⟨rfl, ⟨⟨v, qs, b1, l1, by rw [hcf]; exact hp⟩, okC⟩, one_fromB k1⟩
    · have hc : m.sync s = (0, { m.count with fs := setL MF.name m.fs s fun f => { f with synced := f.b.length } }) := by unfold MD.sync; rw [hg]; simp only; rw [if_neg (by rw [hd]; decide)]
      rw [hd] at e1
      rw [hc] at okC ⊢
      subst e1
      obtain ⟨g, o, ca, c0, c1, c2, cs⟩ := l1.ats hq
      have hrow := l1.row q (List.mem_of_getElem? hq)
      obtain ⟨lc, bx', hlt', l2, hbg, hlo⟩ := cs (q' := ⟨q.name, q.v, q.b, q.b.length⟩) (j := 2) (by decide) rfl hrow.1 hrow.2
      repeat first|(refine BG ?_;first|(refine BH ?_;first|(refine BI ?_;refine BM ?_)|(refine BJ ?_;first|refine BN ?_|refine BO ?_)|refine BP ?_)|(refine BK ?_;first|refine BS rfl rfl ?_|refine BT rfl rfl ?_|refine BU rfl ?_)|(refine BL ?_;first|refine BQ ?_)|(refine BR ?_;try simp only [setS]))|refine AA ?_|refine AC ?_|refine AD ?_|refine AF rfl rfl ?_|refine AG rfl rfl ?_|refine AH ?_|refine AI ?_|refine AJ ?_|refine AK ?_|refine AL ?_|refine AM ?_|refine AN ?_|refine AO ?_|refine AP ?_|refine AQ rfl ?_|refine AR ?_|refine AS ?_|refine AT rfl ?_|refine AU rfl ?_
      repeat first|(refine BG ?_;first|(refine BH ?_;first|(refine BI ?_;refine BM ?_)|(refine BJ ?_;first|refine BN ?_|refine BO ?_)|refine BV (v_bx b1 rfl rfl) ?_|refine BV (ca rfl rfl) ?_|refine BV (c1 rfl) ?_|refine BV (hrow.1.lenv (by rfl)) ?_|refine BP ?_)|(refine BK ?_;first|refine BS rfl rfl ?_|refine BT rfl rfl ?_|refine BU rfl ?_)|(refine BL ?_;first|refine BQ ?_)|(refine BR ?_;try simp only [setS]))|(refine BX ?_;first|refine BY rfl ?_|(refine BZ ?_;refine CA ?_)|refine CB (v_bx b1 rfl rfl) ?_|refine CB (ca rfl rfl) ?_|refine CB (c1 rfl) ?_|refine CB (hrow.1.lenv (by rfl)) ?_|refine CC ?_|(refine CD ?_;try simp only [setS]))|refine AA ?_|refine AC ?_|refine AD ?_|refine AE ?_|refine AF rfl rfl ?_|refine AG rfl rfl ?_|refine AH ?_|refine AI ?_|refine AJ ?_|refine AK ?_|refine AL ?_|refine AM ?_|refine AN ?_|refine AO ?_|refine AP ?_|refine AQ rfl ?_|refine AR ?_|refine AS ?_|refine AT rfl ?_|refine AU rfl ?_
      refine wd_ef (ef_bx bx' rfl rfl ⟨rfl, rfl⟩ hlt') chk_nil ?_
      repeat first|(refine BG ?_;first|(refine BH ?_;first|(refine BI ?_;refine BM ?_)|(refine BJ ?_;first|refine BN ?_|refine BO ?_)|refine BP ?_)|(refine BK ?_;first|refine BS rfl rfl ?_|refine BT rfl rfl ?_|refine BU rfl ?_)|(refine BL ?_;first|refine BQ ?_)|(refine BR ?_;try simp only [setS]))|(refine BX ?_;first|refine BY rfl ?_|(refine BZ ?_;refine CA ?_)|refine CC ?_|(refine CD ?_;try simp only [setS]))|refine AA ?_|refine AC ?_|refine AD ?_|refine AE ?_|refine AF rfl rfl ?_|refine AG rfl rfl ?_|refine AH ?_|refine AI ?_|refine AJ ?_|refine AK ?_|refine AL ?_|refine AM ?_|refine AN ?_|refine AO ?_|refine AP ?_|refine AQ rfl ?_|refine AR ?_|refine AS ?_|refine AT rfl ?_|refine AU rfl ?_
      have k2 : Keep (OneB g) h1 (h1.put g (.rw (spl (o + 2) [.int .i64 q.b.length] lc))) := Keep.put _ _ _ rfl
      refine ⟨rfl, ⟨⟨v, _, b1.keep k2 (fun q => by have q : r = g := q; omega), l2, ?_⟩, okC⟩, (one_fromB k1).trans (k2.mono (fun j _ q => (by have q : j = g := q; show r ≤ j; omega : FromB r j))) (fun _ _ q => q)⟩
      subst hqs
      exact q_set hp a.ok hq (q' := ⟨q.name, q.v, q.b, q.b.length⟩) (fun f => { f with synced := f.b.length }) rfl
end
end Am
end Go.Proofs.Ythgcdoahoechhaa

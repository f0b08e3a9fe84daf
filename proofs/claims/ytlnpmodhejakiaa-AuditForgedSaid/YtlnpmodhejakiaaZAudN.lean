/- The audit's logs that grow, in plain words. -/
import Derived.OpenShut
import Derived.Test.YtlnpmodhejakiaaZAudB
namespace Go.Proofs.Ytlnpmodhejakiaa.AV
open Go.RowKit Go.Proofs.YtlnpmodhejakiaaW.PrintWords Go.Proofs.YtlnpmodhejakiaaW.PrintLast Go.Proofs.YtlnpmodhejakiaaW.PrintMore Go.Proofs.Ytlnpmodhejakiaa.Sha Go.Proofs.Ytlnpmodhejakiaa.D Go.Proofs.Ytlnpmodhejakiaa.PC Go.Proofs.Ytlnpmodhejakiaa.CP Go.Proofs.Ytlnpmodhejakiaa.PV
set_option linter.unusedVariables false
set_option linter.unusedSimpArgs false
def lastD : List S69 → List Int → List Int
  | [], last => last
  | x :: l, _ => lastD l (digP x)
theorem lastD_snoc (l : List S69) (x : S69) : ∀ last, lastD (l ++ [x]) last = digP x := by
  induction l with
  | nil => intro last; rfl
  | cons y l ih => intro last; exact ih _
theorem ver_snoc (x : S69) (head : List Int) : ∀ (l : List S69) (i : Nat) (last : List Int), verP l i last (lastD l last) = 0 → rightP x = true → x.f0 = (i : Int) + (l.length : Int) + 1 → x.f9 = lastD l last → verP (l ++ [x]) i last head = if digP x = head then 0 else 53
  | [], i, last, _, hr, h0, h9 => by
    show verP [x] i last head = _
    unfold verP
    rw [if_pos ⟨hr, by simpa using h0, h9⟩]
    unfold verP
    rfl
  | y :: l, i, last, hv, hr, h0, h9 => by
    show verP (y :: (l ++ [x])) i last head = _
    unfold verP at hv ⊢
    by_cases c : rightP y = true ∧ y.f0 = (i : Int) + 1 ∧ y.f9 = last
    · rw [if_pos c] at hv ⊢
      exact ver_snoc x head l (i + 1) (digP y) hv hr (by rw [h0, List.length_cons]; omega) h9
    · rw [if_neg c] at hv; omega
def nextP (l : List S69) (x : S69) : S69 := match l.getLast? with
  | none => ⟨1, x.f1, x.f2, x.f3, x.f4, x.f5, x.f6, x.f7, x.f8, []⟩
  | some y => ⟨IntKind.u64.wrap (y.f0 + 1), x.f1, x.f2, x.f3, x.f4, x.f5, x.f6, x.f7, x.f8, digP y⟩
theorem nextP_snoc (m : List S69) (y x : S69) : nextP (m ++ [y]) x = ⟨IntKind.u64.wrap (y.f0 + 1), x.f1, x.f2, x.f3, x.f4, x.f5, x.f6, x.f7, x.f8, digP y⟩ := by
  have e : (m ++ [y]).getLast? = some y := by simp
  unfold nextP
  rw [e]
theorem a_next (l : List S69) (hl : l.length ≤ 1000) (hs : ∀ y ∈ l, okX y) (x : S69) (hx : x.f8.length ≤ 1000000) (k : Nat) (hk : 9 ≤ k) :
    audit_Next.f k l x.f0 x.f1 x.f2 x.f3 x.f4 x.f5 x.f6 x.f7 x.f8 x.f9 = some ((nextP l x).f0, (nextP l x).f1, (nextP l x).f2, (nextP l x).f3, (nextP l x).f4, (nextP l x).f5, (nextP l x).f6, (nextP l x).f7, (nextP l x).f8, (nextP l x).f9) := by
  unfold audit_Next.f slices_Clone_byte_byte.f
  rw [if_pos (by omega), Option.bind_some]
  rcases List.eq_nil_or_concat l with rfl | ⟨m, y, rfl⟩
  · rfl
  · rw [List.concat_eq_append] at *
    rw [List.length_append, List.length_singleton] at *
    have ew : wrap64 (((m.length + 1 : Nat) : Int) - 1) = (m.length : Int) := by unfold wrap64; omega
    rw [if_neg (by omega), ew, if_pos (by omega), if_pos (by omega), rdT _ m.length (by simp)]
    have e : (m ++ [y])[m.length]'(by simp) = y := by simp
    rw [e, a_digest y (hs y (by simp)) k hk, Option.bind_some, nextP_snoc]
theorem okX_of (x : S69) (h : (Lit.int .u64 x.f0).wf = true ∧ (Lit.int .u64 x.f1).wf = true ∧ (Lit.int .i64 x.f3).wf = true ∧ (Lit.int .u64 x.f6).wf = true ∧ (Lit.int .i64 x.f7).wf = true ∧ (∀ y ∈ x.f8, (Lit.int .u8 y).wf = true) ∧ (∀ y ∈ x.f9, (Lit.int .u8 y).wf = true)) (hb : x.f2.size + x.f4.size + x.f5.size + x.f8.length + x.f9.length ≤ 1000000) : okX x := by
  obtain ⟨h0, h1, h3, h6, h7, h8, h9⟩ := h
  have q0 := bounds_u64 h0
  have q1 := bounds_u64 h1
  have q6 := bounds_u64 h6
  have q3 := bounds_i64 h3
  have q7 := bounds_i64 h7
  exact ⟨by omega, by omega, by omega, by omega, by omega, hb, fun y hy => by have := bounds_u8 (h8 y hy); omega, fun y hy => by have := bounds_u8 (h9 y hy); omega⟩
theorem okX_next (l : List S69) (hs : ∀ y ∈ l, okX y) (x : S69) (hx : okX x) (hb : x.f2.size + x.f4.size + x.f5.size + x.f8.length + x.f9.length ≤ 5000) : okX (nextP l x) := by
  unfold nextP
  cases h : l.getLast? with
  | none => exact ⟨by show (0 : Int) ≤ 1 ∧ (1 : Int) ≤ 18446744073709551615; decide, hx.s1, hx.s6, hx.s3, hx.s7, by simp only [List.length_nil]; omega, hx.b8, B255.nil⟩
  | some y =>
    refine ⟨?_, hx.s1, hx.s6, hx.s3, hx.s7, by simp only [digP_len]; omega, hx.b8, sha256_bd' _⟩
    show 0 ≤ IntKind.u64.wrap (y.f0 + 1) ∧ IntKind.u64.wrap (y.f0 + 1) ≤ 18446744073709551615
    rw [IntKind.wrap_u64]; omega
structure Grown (l : List S69) : Prop where
  ok : ∀ y ∈ l, okX y
  ver : verP l 0 [] (lastD l []) = 0
  last : ∀ y, l.getLast? = some y → y.f0 = (l.length : Int)
theorem lastD_last (l : List S69) (y : S69) (h : l.getLast? = some y) (last : List Int) : lastD l last = digP y := by
  rcases List.eq_nil_or_concat l with rfl | ⟨m, z, rfl⟩
  · simp at h
  · rw [List.concat_eq_append] at *
    rw [List.getLast?_append] at h
    obtain rfl : z = y := by simpa using h
    exact lastD_snoc m z last
theorem next_seq (l : List S69) (hl : l.length ≤ 1000) (hg : Grown l) (x : S69) : (nextP l x).f0 = (l.length : Int) + 1 ∧ (nextP l x).f9 = lastD l [] := by
  unfold nextP
  cases h : l.getLast? with
  | none => rw [List.getLast?_eq_none_iff] at h; subst h; exact ⟨rfl, rfl⟩
  | some y =>
    have := hg.last y h
    refine ⟨?_, (lastD_last l y h []).symm⟩
    show IntKind.u64.wrap (y.f0 + 1) = _
    rw [this, IntKind.wrap_u64]; omega
theorem grown_next (l : List S69) (hl : l.length ≤ 1000) (hg : Grown l) (x : S69) (hx : okX x) (hb : x.f2.size + x.f4.size + x.f5.size + x.f8.length + x.f9.length ≤ 5000) (hr : rightP (nextP l x) = true) :
    Grown (l ++ [nextP l x]) ∧ ∀ head, verP (l ++ [nextP l x]) 0 [] head = if digP (nextP l x) = head then 0 else 53 := by
  obtain ⟨e0, e9⟩ := next_seq l hl hg x
  have hv : ∀ head, verP (l ++ [nextP l x]) 0 [] head = if digP (nextP l x) = head then 0 else 53 := fun head => ver_snoc _ head l 0 [] hg.ver hr (by rw [e0]; simp) e9
  refine ⟨⟨?_, ?_, ?_⟩, hv⟩
  · intro y hy
    rcases List.mem_append.1 hy with h | h
    · exact hg.ok y h
    · obtain rfl := List.mem_singleton.1 h; exact okX_next l hg.ok x hx hb
  · rw [lastD_snoc, hv, if_pos rfl]
  · intro y hy
    rw [List.getLast?_append] at hy
    obtain rfl : nextP l x = y := by simpa using hy
    rw [e0, List.length_append]; simp
theorem grown_nil : Grown [] := ⟨(fun _ h => by cases h), rfl, (fun _ h => by cases h)⟩
end Go.Proofs.Ytlnpmodhejakiaa.AV

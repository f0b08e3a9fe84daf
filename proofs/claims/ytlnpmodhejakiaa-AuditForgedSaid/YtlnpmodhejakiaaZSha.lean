/- SHA-256 and SHA-1 in plain Lean, over bit vectors: no program in sight. -/
import Derived.Laws.BitsLemmas
namespace Go.Proofs.Ytlnpmodhejakiaa.Sha
abbrev W := BitVec 32
def rl (x : W) (n : Nat) : W := (x <<< n) ||| (x >>> (32 - n))
structure V8 where
  (a b c d e f g h : W)
def V8.add (x y : V8) : V8 := ⟨x.a + y.a, x.b + y.b, x.c + y.c, x.d + y.d, x.e + y.e, x.f + y.f, x.g + y.g, x.h + y.h⟩
def V8.l (x : V8) : List W := [x.a, x.b, x.c, x.d, x.e, x.f, x.g, x.h]
def k256 : List W := [
    0x428a2f98, 0x71374491, 0xb5c0fbcf, 0xe9b5dba5, 0x3956c25b, 0x59f111f1, 0x923f82a4, 0xab1c5ed5,
    0xd807aa98, 0x12835b01, 0x243185be, 0x550c7dc3, 0x72be5d74, 0x80deb1fe, 0x9bdc06a7, 0xc19bf174,
    0xe49b69c1, 0xefbe4786, 0x0fc19dc6, 0x240ca1cc, 0x2de92c6f, 0x4a7484aa, 0x5cb0a9dc, 0x76f988da,
    0x983e5152, 0xa831c66d, 0xb00327c8, 0xbf597fc7, 0xc6e00bf3, 0xd5a79147, 0x06ca6351, 0x14292967,
    0x27b70a85, 0x2e1b2138, 0x4d2c6dfc, 0x53380d13, 0x650a7354, 0x766a0abb, 0x81c2c92e, 0x92722c85,
    0xa2bfe8a1, 0xa81a664b, 0xc24b8b70, 0xc76c51a3, 0xd192e819, 0xd6990624, 0xf40e3585, 0x106aa070,
    0x19a4c116, 0x1e376c08, 0x2748774c, 0x34b0bcb5, 0x391c0cb3, 0x4ed8aa4a, 0x5b9cca4f, 0x682e6ff3,
    0x748f82ee, 0x78a5636f, 0x84c87814, 0x8cc70208, 0x90befffa, 0xa4506ceb, 0xbef9a3f7, 0xc67178f2]
def wd (b : List Int) (i : Nat) : W := BitVec.ofInt 32 (b.getD (4 * i) 0 * 16777216 + b.getD (4 * i + 1) 0 * 65536 + b.getD (4 * i + 2) 0 * 256 + b.getD (4 * i + 3) 0)
def sg0 (x : W) : W := rl x 25 ^^^ rl x 14 ^^^ (x >>> 3)
def sg1 (x : W) : W := rl x 15 ^^^ rl x 13 ^^^ (x >>> 10)
def next256 (b : List Int) (l : List W) (i : Nat) : W :=
  if i < 16 then wd b i else l.getD (i - 16) 0 + sg0 (l.getD (i - 15) 0) + l.getD (i - 7) 0 + sg1 (l.getD (i - 2) 0)
def sched (nx : List W → Nat → W) : Nat → List W
  | 0 => []
  | n + 1 => sched nx n ++ [nx (sched nx n) n]
theorem sched_len (nx) : ∀ n, (sched nx n).length = n
  | 0 => rfl
  | n + 1 => by simp [sched, sched_len nx n]
def bs0 (a : W) : W := rl a 30 ^^^ rl a 19 ^^^ rl a 10
def bs1 (e : W) : W := rl e 26 ^^^ rl e 21 ^^^ rl e 7
def ch (e f g : W) : W := g ^^^ (e &&& (f ^^^ g))
def maj (a b c : W) : W := (a &&& b) ||| (c &&& (a ||| b))
def t256 (v : V8) (k w : W) : W := v.h + bs1 v.e + ch v.e v.f v.g + k + w
def u256 (v : V8) : W := bs0 v.a + maj v.a v.b v.c
def rnd256 (v : V8) (k w : W) : V8 := ⟨t256 v k w + u256 v, v.a, v.b, v.c, v.d + t256 v k w, v.e, v.f, v.g⟩
def rounds256 (l : List W) (v : V8) : Nat → V8
  | 0 => v
  | n + 1 => rnd256 (rounds256 l v n) (k256.getD n 0) (l.getD n 0)
def comp256 (h : V8) (b : List Int) : V8 := h.add (rounds256 (sched (next256 b) 64) h 64)
def f1 (i : Nat) (v : V8) : W := if i / 20 = 0 then ch v.b v.c v.d else if i / 20 = 2 then maj v.b v.c v.d else v.b ^^^ v.c ^^^ v.d
def k1 (i : Nat) : W := [0x5a827999, 0x6ed9eba1, 0x8f1bbcdc, 0xca62c1d6].getD (i / 20) 0
def add5 (x y : V8) : V8 := ⟨x.a + y.a, x.b + y.b, x.c + y.c, x.d + y.d, x.e + y.e, x.f, x.g, x.h⟩
structure HS where
  h : V8
  block : List Int
  n : Nat
def addB (comp : V8 → List Int → V8) (s : HS) (x : Int) : HS :=
  let bl := s.block.set (s.n % 64) x
  ⟨if (s.n + 1) % 64 = 0 then comp s.h bl else s.h, bl, s.n + 1⟩
def add (comp : V8 → List Int → V8) (s : HS) (l : List Int) : HS := l.foldl (addB comp) s
def start256 : HS := ⟨⟨0x6a09e667, 0xbb67ae85, 0x3c6ef372, 0xa54ff53a, 0x510e527f, 0x9b05688c, 0x1f83d9ab, 0x5be0cd19⟩, List.replicate 64 0, 0⟩
def zeros (n : Nat) : Nat := (120 - n % 64) % 64
def lenB (n : Nat) : List Int := [(n * 8 / 2 ^ 56 % 256 : Nat), (n * 8 / 2 ^ 48 % 256 : Nat), (n * 8 / 2 ^ 40 % 256 : Nat), (n * 8 / 2 ^ 32 % 256 : Nat), (n * 8 / 2 ^ 24 % 256 : Nat), (n * 8 / 2 ^ 16 % 256 : Nat), (n * 8 / 2 ^ 8 % 256 : Nat), (n * 8 % 256 : Nat)]
def pad (n : Nat) : List Int := 128 :: List.replicate (zeros (n + 1)) 0 ++ lenB n
def by4 (x : W) : List Int := [(x.toNat / 16777216 : Nat), (x.toNat / 65536 % 256 : Nat), (x.toNat / 256 % 256 : Nat), (x.toNat % 256 : Nat)]
def sumB (comp : V8 → List Int → V8) (s : HS) (words : Nat) : List Int := ((add comp s (pad s.n)).h.l.take words).flatMap by4
def sha256 (b : List Int) : List Int := sumB comp256 (add comp256 start256 b) 8
open Go
def n32 (x : W) : Int := (x.toNat : Int)
theorem n32_bd (x : W) : 0 ≤ n32 x ∧ n32 x < 4294967296 := by unfold n32; have := x.isLt; omega
theorem n32_of (n : Int) (h0 : 0 ≤ n) (h1 : n < 4294967296) : n32 (BitVec.ofInt 32 n) = n := by
  unfold n32; rw [BitVec.toNat_ofInt]; simp only [Nat.reducePow]; omega
theorem ofInt_n32 (x : W) : BitVec.ofInt 32 (n32 x) = x := by unfold n32; simp
theorem wrap_n32 (x : W) : IntKind.u32.wrap (n32 x) = n32 x := by
  rw [IntKind.wrap_u32]; have := n32_bd x; omega
theorem n32_add (x y : W) : IntKind.u32.wrap (n32 x + n32 y) = n32 (x + y) := by
  rw [IntKind.wrap_u32]; unfold n32; rw [BitVec.toNat_add]; omega
theorem n32_xor (x y : W) : bits .xor .u32 (n32 x) (n32 y) = n32 (x ^^^ y) := by
  have h1 := ofInt_n32 x; have h2 := ofInt_n32 y
  have h3 := wrap_n32 (x ^^^ y)
  unfold bits
  show IntKind.u32.wrap ((BitVec.ofInt 32 (n32 x) ^^^ BitVec.ofInt 32 (n32 y)).toNat : Int) = _
  rw [h1, h2]; exact h3
theorem n32_and (x y : W) : bits .and .u32 (n32 x) (n32 y) = n32 (x &&& y) := by
  have h1 := ofInt_n32 x; have h2 := ofInt_n32 y
  have h3 := wrap_n32 (x &&& y)
  unfold bits
  show IntKind.u32.wrap ((BitVec.ofInt 32 (n32 x) &&& BitVec.ofInt 32 (n32 y)).toNat : Int) = _
  rw [h1, h2]; exact h3
theorem n32_or (x y : W) : bits .or .u32 (n32 x) (n32 y) = n32 (x ||| y) := by
  have h1 := ofInt_n32 x; have h2 := ofInt_n32 y
  have h3 := wrap_n32 (x ||| y)
  unfold bits
  show IntKind.u32.wrap ((BitVec.ofInt 32 (n32 x) ||| BitVec.ofInt 32 (n32 y)).toNat : Int) = _
  rw [h1, h2]; exact h3
theorem n32_shl (x : W) (k : Nat) : IntKind.u32.wrap (n32 x * ((2 ^ k : Nat) : Int)) = n32 (x <<< k) := by
  rw [IntKind.wrap_u32]; unfold n32; rw [BitVec.toNat_shiftLeft, Nat.shiftLeft_eq]
  rw [Int.natCast_emod, Int.natCast_mul]; rfl
theorem n32_shr (x : W) (k : Nat) : n32 x / ((2 ^ k : Nat) : Int) = n32 (x >>> k) := by
  unfold n32; rw [BitVec.toNat_ushiftRight, Nat.shiftRight_eq_div_pow]; omega
theorem n32_add_m (x y : W) : (n32 x + n32 y) % 4294967296 = n32 (x + y) := by rw [← n32_add, IntKind.wrap_u32]
theorem n32_add_m4 (a b c d : W) : (n32 a + n32 b + n32 c + n32 d) % 4294967296 = n32 (a + b + c + d) := by
  unfold n32; simp only [BitVec.toNat_add, Nat.reducePow]; omega
theorem n32_add_m5 (a b c d e : W) : (n32 a + n32 b + n32 c + n32 d + n32 e) % 4294967296 = n32 (a + b + c + d + e) := by
  unfold n32; simp only [BitVec.toNat_add, Nat.reducePow]; omega
theorem n32_shr3 (x : W) : n32 x / (8 : Int) = n32 (x >>> 3) := by have := n32_shr x 3; simpa using this
theorem n32_shr10 (x : W) : n32 x / (1024 : Int) = n32 (x >>> 10) := by have := n32_shr x 10; simpa using this
theorem sched_val (a x b y : W) : (n32 a + bits .xor .u32 (bits .xor .u32 (n32 (rl x 25)) (n32 (rl x 14))) (n32 x / (8 : Int)) + n32 b + bits .xor .u32 (bits .xor .u32 (n32 (rl y 15)) (n32 (rl y 13))) (n32 y / (1024 : Int))) % 4294967296 = n32 (a + sg0 x + b + sg1 y) := by
  rw [n32_shr3, n32_shr10]
  simp only [n32_xor, n32_add_m4]
  rfl
theorem sched_valw (a x b y : W) : IntKind.u32.wrap (IntKind.u32.wrap (IntKind.u32.wrap (n32 a + bits .xor .u32 (bits .xor .u32 (n32 (rl x 25)) (n32 (rl x 14))) (n32 x / (8 : Int))) + n32 b) + bits .xor .u32 (bits .xor .u32 (n32 (rl y 15)) (n32 (rl y 13))) (n32 y / (1024 : Int))) = n32 (a + sg0 x + b + sg1 y) := by
  rw [n32_shr3, n32_shr10]
  simp only [n32_xor, n32_add]
  rfl
theorem t_val (h e f g k w : W) : (((n32 h + bits .xor .u32 (bits .xor .u32 (n32 (rl e 26)) (n32 (rl e 21))) (n32 (rl e 7)) + bits .xor .u32 (n32 g) (bits .and .u32 (n32 e) (bits .xor .u32 (n32 f) (n32 g))) + n32 k) % (4294967296 : Int) + n32 w) % (4294967296 : Int)) = n32 (h + bs1 e + ch e f g + k + w) := by
  simp only [n32_xor, n32_and, n32_add_m4, n32_add_m]
  rfl
theorem u_val (a b c : W) : (bits .xor .u32 (bits .xor .u32 (n32 (rl a 30)) (n32 (rl a 19))) (n32 (rl a 10)) + bits .or .u32 (bits .and .u32 (n32 a) (n32 b)) (bits .and .u32 (n32 c) (bits .or .u32 (n32 a) (n32 b)))) % (4294967296 : Int) = n32 (bs0 a + maj a b c) := by
  simp only [n32_xor, n32_and, n32_or, n32_add_m]
  rfl
theorem ch_eq (e f g : W) : (e &&& f) ^^^ (~~~e &&& g) = ch e f g := by
  unfold ch; apply BitVec.eq_of_getElem_eq; intro i hi
  simp only [BitVec.getElem_xor, BitVec.getElem_and, BitVec.getElem_not]
  cases e[i] <;> cases f[i] <;> cases g[i] <;> rfl
theorem maj_eq (a b c : W) : (a &&& b) ^^^ (a &&& c) ^^^ (b &&& c) = maj a b c := by
  unfold maj; apply BitVec.eq_of_getElem_eq; intro i hi
  simp only [BitVec.getElem_xor, BitVec.getElem_or, BitVec.getElem_and]
  cases a[i] <;> cases b[i] <;> cases c[i] <;> rfl
theorem or_bytes (a b c d : Int) (ha : 0 ≤ a ∧ a ≤ 255) (hb : 0 ≤ b ∧ b ≤ 255) (hc : 0 ≤ c ∧ c ≤ 255) (hd : 0 ≤ d ∧ d ≤ 255) :
    bits .or .u32 (bits .or .u32 (bits .or .u32 (a * 16777216) (b * 65536)) (c * 256)) d = a * 16777216 + b * 65536 + c * 256 + d := by
  have wr : ∀ n : Int, 0 ≤ n → n < 2 ^ 32 → IntKind.u32.wrap n = n := fun n h0 h1 => by rw [IntKind.wrap_u32]; omega
  have h1 : bits .or .u32 (a * 16777216) (b * 65536) = a * 16777216 + b * 65536 := bits_join .u32 32 (by decide) wr 24 _ _ (by omega) (by omega) (by omega) (by omega) (by omega) (by omega)
  have h2 : bits .or .u32 (a * 16777216 + b * 65536) (c * 256) = a * 16777216 + b * 65536 + c * 256 := bits_join .u32 32 (by decide) wr 16 _ _ (by omega) (by omega) (by omega) (by omega) (by omega) (by omega)
  have h3 : bits .or .u32 (a * 16777216 + b * 65536 + c * 256) d = a * 16777216 + b * 65536 + c * 256 + d := bits_join .u32 32 (by decide) wr 8 _ _ (by omega) (by omega) (by omega) (by omega) (by omega) (by omega)
  rw [h1, h2, h3]
section
variable (comp : V8 → List Int → V8)
theorem add_append (s : HS) (l m : List Int) : add comp s (l ++ m) = add comp (add comp s l) m := by unfold add; rw [List.foldl_append]
theorem addB_n (s : HS) (x : Int) : (addB comp s x).n = s.n + 1 := rfl
theorem add_n (s : HS) (l : List Int) : (add comp s l).n = s.n + l.length := by
  induction l generalizing s with
  | nil => rfl
  | cons x l ih => show (add comp (addB comp s x) l).n = _; rw [ih, addB_n, List.length_cons]; omega
theorem add_bl (s : HS) (l : List Int) : (add comp s l).block.length = s.block.length := by
  induction l generalizing s with
  | nil => rfl
  | cons x l ih => show (add comp (addB comp s x) l).block.length = _; rw [ih]; simp [addB]
theorem add_bd (s : HS) (l : List Int) (hs : ∀ x ∈ s.block, 0 ≤ x ∧ x ≤ 255) (hl : ∀ x ∈ l, 0 ≤ x ∧ x ≤ 255) : ∀ x ∈ (add comp s l).block, 0 ≤ x ∧ x ≤ 255 := by
  induction l generalizing s with
  | nil => exact hs
  | cons y l ih =>
    show ∀ x ∈ (add comp (addB comp s y) l).block, _
    refine ih _ ?_ (fun x hx => hl x (List.mem_cons_of_mem _ hx))
    intro x hx
    rcases List.mem_or_eq_of_mem_set hx with h | h
    · exact hs x h
    · rw [h]; exact hl y List.mem_cons_self
def spliceB (bl : List Int) (j : Nat) (l : List Int) : List Int := bl.take j ++ l ++ bl.drop (j + l.length)
theorem spliceB_len (bl : List Int) (j : Nat) (l : List Int) (h : j + l.length ≤ bl.length) : (spliceB bl j l).length = bl.length := by
  unfold spliceB; simp; omega
theorem spliceB_cons (bl : List Int) (j : Nat) (x : Int) (l : List Int) (h : j + l.length < bl.length) : spliceB (bl.set j x) (j + 1) l = spliceB bl j (x :: l) := by
  unfold spliceB
  apply List.ext_getElem?
  intro i
  simp only [List.getElem?_append, List.getElem?_take, List.getElem?_drop, List.length_append, List.length_take, List.length_cons, List.length_set, List.getElem?_set]
  rcases Nat.lt_trichotomy i j with h1 | h1 | h1
  · grind
  · grind
  · grind
theorem add_chunk (l : List Int) (s : HS) (hb : s.block.length = 64) (hl : 0 < l.length) (hf : s.n % 64 + l.length ≤ 64) :
    add comp s l = ⟨if (s.n + l.length) % 64 = 0 then comp s.h (spliceB s.block (s.n % 64) l) else s.h, spliceB s.block (s.n % 64) l, s.n + l.length⟩ := by
  induction l generalizing s with
  | nil => simp at hl
  | cons x l ih =>
    show add comp (addB comp s x) l = _
    rcases Nat.eq_zero_or_pos l.length with h0 | h0
    · have : l = [] := List.eq_nil_of_length_eq_zero h0
      subst this
      have hsp : spliceB s.block (s.n % 64) [x] = s.block.set (s.n % 64) x := by
        rw [← spliceB_cons _ _ _ _ (by simp; omega)]
        unfold spliceB; simp
      rw [hsp]; rfl
    · simp only [List.length_cons] at hf ⊢
      have hn : (s.n + 1) % 64 = s.n % 64 + 1 := by omega
      rw [ih (addB comp s x) (by simp [addB, hb]) h0 (by rw [addB_n, hn]; omega)]
      have h1 : (addB comp s x).h = s.h := by unfold addB; simp only; rw [if_neg (by omega)]
      have h2 : (addB comp s x).block = s.block.set (s.n % 64) x := rfl
      rw [addB_n, h1, h2, hn, spliceB_cons _ _ _ _ (by omega)]
      simp only [Nat.add_assoc, Nat.add_comm 1]
theorem add_block (bl h) (m : Nat) (l : List Int) (hb : bl.length = 64) (hl : l.length = 64) : add comp ⟨h, bl, 64 * m⟩ l = ⟨comp h l, l, 64 * (m + 1)⟩ := by
  rw [add_chunk comp l ⟨h, bl, 64 * m⟩ hb (by omega) (by simp [hl])]
  have : spliceB bl (64 * m % 64) l = l := by unfold spliceB; simp [hl, hb, List.drop_eq_nil_of_le]
  have h1 : (64 * m + l.length) % 64 = 0 := by omega
  have h2 : 64 * m + l.length = 64 * (m + 1) := by omega
  show (⟨if (64 * m + l.length) % 64 = 0 then comp h (spliceB bl (64 * m % 64) l) else h, spliceB bl (64 * m % 64) l, 64 * m + l.length⟩ : HS) = _
  rw [if_pos h1, this, h2]
def blocks (h : V8) : Nat → List Int → V8
  | 0, _ => h
  | m + 1, l => blocks (comp h (l.take 64)) m (l.drop 64)
theorem add_blocks (m : Nat) : ∀ (h : V8) (bl : List Int) (j : Nat) (l : List Int), bl.length = 64 → l.length = 64 * m → (add comp ⟨h, bl, 64 * j⟩ l).h = blocks comp h m l := by
  induction m with
  | zero => intro h bl j l _ hl; have : l = [] := List.eq_nil_of_length_eq_zero (by omega); subst this; rfl
  | succ m ih =>
    intro h bl j l hb hl
    have hs : l = l.take 64 ++ l.drop 64 := (List.take_append_drop 64 l).symm
    rw [hs, add_append, add_block comp bl h j _ hb (by rw [List.length_take]; omega)]
    rw [ih _ _ _ _ (by rw [List.length_take]; omega) (by rw [List.length_drop]; omega)]
    rw [← hs]; rfl
theorem pad_len (n : Nat) : (pad n).length = 1 + zeros (n + 1) + 8 := by simp [pad, lenB]; omega
theorem pad_whole (n : Nat) : (n + (pad n).length) % 64 = 0 := by rw [pad_len]; unfold zeros; omega
end
end Go.Proofs.Ytlnpmodhejakiaa.Sha

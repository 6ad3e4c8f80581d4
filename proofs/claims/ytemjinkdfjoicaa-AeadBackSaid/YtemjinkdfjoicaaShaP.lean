/- SHA-256, in plain words. No conditions. -/
import Derived.Test.YtemjinkdfjoicaaGOct
import Derived.Test.YtemjinkdfjoicaaFwN
namespace Go.Proofs.Ytemjinkdfjoicaa
set_option linter.unusedVariables false
set_option linter.unusedSimpArgs false
open Bv
/-- The constants. -/
def shaK : List (BitVec 32) := [
  0x428a2f98#32, 0x71374491#32, 0xb5c0fbcf#32, 0xe9b5dba5#32, 0x3956c25b#32, 0x59f111f1#32, 0x923f82a4#32, 0xab1c5ed5#32,
  0xd807aa98#32, 0x12835b01#32, 0x243185be#32, 0x550c7dc3#32, 0x72be5d74#32, 0x80deb1fe#32, 0x9bdc06a7#32, 0xc19bf174#32,
  0xe49b69c1#32, 0xefbe4786#32, 0x0fc19dc6#32, 0x240ca1cc#32, 0x2de92c6f#32, 0x4a7484aa#32, 0x5cb0a9dc#32, 0x76f988da#32,
  0x983e5152#32, 0xa831c66d#32, 0xb00327c8#32, 0xbf597fc7#32, 0xc6e00bf3#32, 0xd5a79147#32, 0x06ca6351#32, 0x14292967#32,
  0x27b70a85#32, 0x2e1b2138#32, 0x4d2c6dfc#32, 0x53380d13#32, 0x650a7354#32, 0x766a0abb#32, 0x81c2c92e#32, 0x92722c85#32,
  0xa2bfe8a1#32, 0xa81a664b#32, 0xc24b8b70#32, 0xc76c51a3#32, 0xd192e819#32, 0xd6990624#32, 0xf40e3585#32, 0x106aa070#32,
  0x19a4c116#32, 0x1e376c08#32, 0x2748774c#32, 0x34b0bcb5#32, 0x391c0cb3#32, 0x4ed8aa4a#32, 0x5b9cca4f#32, 0x682e6ff3#32,
  0x748f82ee#32, 0x78a5636f#32, 0x84c87814#32, 0x8cc70208#32, 0x90befffa#32, 0xa4506ceb#32, 0xbef9a3f7#32, 0xc67178f2#32]
theorem shaK_len : shaK.length = 64 := rfl
def rol32 (x : BitVec 32) (s : Nat) : BitVec 32 := x <<< s ||| x >>> (32 - s)
def ror32 (x : BitVec 32) (n : Nat) : BitVec 32 := x >>> n ||| x <<< (32 - n)
theorem rol_ror (x : BitVec 32) (n : Nat) (h0 : 0 < n) (h1 : n < 32) : rol32 x (32 - n) = ror32 x n := by
  unfold rol32 ror32
  rw [show 32 - (32 - n) = n by omega, BitVec.or_comm]
theorem rol32_and (x : BitVec 32) (s : Nat) (hs : s < 32) : x <<< (BitVec.ofNat 64 s).toNat ||| x >>> (32#64 - BitVec.ofNat 64 s).toNat = rol32 x s := by
  have h1 : (BitVec.ofNat 64 s).toNat = s := by rw [BitVec.toNat_ofNat]; omega
  have h2 : (32#64 - BitVec.ofNat 64 s).toNat = 32 - s := by rw [BitVec.toNat_sub, h1]; simp; omega
  rw [h1, h2]; rfl
/-- What stands behind a message of n bytes. -/
def padb (n : Nat) : List (BitVec 8) := 0x80#8 :: (List.replicate ((119 - n % 64) % 64) 0#8 ++ highb (BitVec.ofNat 64 n * 8#64) 8 8)
def plen (n : Nat) : Nat := 1 + (119 - n % 64) % 64 + 8
theorem padb_len (n : Nat) : (padb n).length = plen n := by unfold padb plen; simp [highb_len]; omega
theorem plen_le (n : Nat) : plen n ≤ 72 := by unfold plen; omega
theorem plen_mod (n : Nat) : (n + plen n) % 64 = 0 := by unfold plen; omega
/-- A list, and zeros behind it up to n. -/
def fil {w : Nat} (xs : List (BitVec w)) (n : Nat) : List (BitVec w) := xs ++ List.replicate (n - xs.length) 0
theorem fil_len {w : Nat} (xs : List (BitVec w)) (n : Nat) (h : xs.length ≤ n) : (fil xs n).length = n := by unfold fil; simp; omega
theorem ath_fil {w : Nat} (xs : List (BitVec w)) (n j : Nat) (h : j < xs.length) : ath (fil xs n) j = ath xs j := ath_app_l _ _ _ h
theorem fil_set {w : Nat} (xs : List (BitVec w)) (n : Nat) (v : BitVec w) (h : xs.length < n) : (fil xs n).set xs.length v = fil (xs ++ [v]) n := by
  unfold fil
  rw [List.set_append_right _ _ (Nat.le_refl _), Nat.sub_self]
  rw [show n - xs.length = (n - (xs ++ [v]).length) + 1 by simp; omega, List.replicate_succ, List.set_cons_zero]
  simp
def sig0 (x : BitVec 32) : BitVec 32 := ror32 x 7 ^^^ ror32 x 18 ^^^ x >>> 3
def sig1 (x : BitVec 32) : BitVec 32 := ror32 x 17 ^^^ ror32 x 19 ^^^ x >>> 10
/-- A word of a block's schedule, out of those ahead of it. -/
def schn (b : List (BitVec 8)) (ws : List (BitVec 32)) (k : Nat) : BitVec 32 :=
  if k < 16 then (high (b.drop (4 * k)) 4).setWidth 32 else ath ws (k - 16) + sig0 (ath ws (k - 15)) + ath ws (k - 7) + sig1 (ath ws (k - 2))
def schw (b : List (BitVec 8)) : Nat → List (BitVec 32)
  | 0 => []
  | k + 1 => schw b k ++ [schn b (schw b k) k]
theorem schw_len (b : List (BitVec 8)) : ∀ k, (schw b k).length = k
  | 0 => rfl
  | k + 1 => by rw [schw, List.length_append, schw_len b k]; rfl
theorem fschw_len (b : List (BitVec 8)) (k : Nat) (h : k ≤ 64) : (fil (schw b k) 64).length = 64 := fil_len _ _ (by rw [schw_len]; exact h)
theorem schw_lo (b : List (BitVec 8)) (k : Nat) (h : k < 16) : (fil (schw b k) 64).set k ((high (b.drop (4 * k)) 4).setWidth 32) = fil (schw b (k + 1)) 64 := by
  have := fil_set (schw b k) 64 (schn b (schw b k) k) (by rw [schw_len]; omega)
  rw [schw_len] at this
  rw [schw, ← this, schn, if_pos h]
theorem schw_hi (b : List (BitVec 8)) (k : Nat) (h : 16 ≤ k) (h2 : k < 64) (v : BitVec 32) (hv : v = ath (fil (schw b k) 64) (k - 16) + sig0 (ath (fil (schw b k) 64) (k - 15)) + ath (fil (schw b k) 64) (k - 7) + sig1 (ath (fil (schw b k) 64) (k - 2))) : (fil (schw b k) 64).set k v = fil (schw b (k + 1)) 64 := by
  have := fil_set (schw b k) 64 (schn b (schw b k) k) (by rw [schw_len]; omega)
  rw [schw_len] at this
  rw [schw, ← this, schn, if_neg (by omega), hv]
  rw [ath_fil _ _ _ (by rw [schw_len]; omega), ath_fil _ _ _ (by rw [schw_len]; omega), ath_fil _ _ _ (by rw [schw_len]; omega), ath_fil _ _ _ (by rw [schw_len]; omega)]
theorem fil_zero (b : List (BitVec 8)) : (List.replicate 64 0#32) = fil (schw b 0) 64 := rfl
/-- A round. -/
def rnd (a : List (BitVec 32)) (k w : BitVec 32) : List (BitVec 32) :=
  [ath a 7 + (ror32 (ath a 4) 6 ^^^ ror32 (ath a 4) 11 ^^^ ror32 (ath a 4) 25) + (ath a 4 &&& ath a 5 ^^^ ~~~ath a 4 &&& ath a 6) + k + w +
    ((ror32 (ath a 0) 2 ^^^ ror32 (ath a 0) 13 ^^^ ror32 (ath a 0) 22) + (ath a 0 &&& ath a 1 ^^^ ath a 0 &&& ath a 2 ^^^ ath a 1 &&& ath a 2)),
   ath a 0, ath a 1, ath a 2,
   ath a 3 + (ath a 7 + (ror32 (ath a 4) 6 ^^^ ror32 (ath a 4) 11 ^^^ ror32 (ath a 4) 25) + (ath a 4 &&& ath a 5 ^^^ ~~~ath a 4 &&& ath a 6) + k + w),
   ath a 4, ath a 5, ath a 6]
def rounds (s ws : List (BitVec 32)) : Nat → List (BitVec 32)
  | 0 => s
  | k + 1 => rnd (rounds s ws k) (ath shaK k) (ath ws k)
theorem rounds_len (s ws : List (BitVec 32)) (h : s.length = 8) : ∀ k, (rounds s ws k).length = 8
  | 0 => h
  | _ + 1 => rfl
def addt (s a : List (BitVec 32)) : Nat → List (BitVec 32)
  | 0 => s
  | k + 1 => (addt s a k).set k (ath (addt s a k) k + ath a k)
theorem addt_len (s a : List (BitVec 32)) : ∀ k, (addt s a k).length = s.length
  | 0 => rfl
  | k + 1 => by rw [addt, List.length_set, addt_len s a k]
/-- A state behind a block. -/
def mixb (s : List (BitVec 32)) (b : List (BitVec 8)) : List (BitVec 32) := addt s (rounds s (schw b 64) 64) 8
theorem rounds_succ (s ws : List (BitVec 32)) (k : Nat) : rounds s ws (k + 1) = rnd (rounds s ws k) (ath shaK k) (ath ws k) := rfl
theorem rounds_zero (s ws : List (BitVec 32)) : rounds s ws 0 = s := rfl
theorem addt_succ (s a : List (BitVec 32)) (k : Nat) : addt s a (k + 1) = (addt s a k).set k (ath (addt s a k) k + ath a k) := rfl
theorem addt_zero (s a : List (BitVec 32)) : addt s a 0 = s := rfl
theorem mixb_def (s : List (BitVec 32)) (b : List (BitVec 8)) : mixb s b = addt s (rounds s (schw b 64) 64) 8 := rfl
theorem fil_all (b : List (BitVec 8)) : fil (schw b 64) 64 = schw b 64 := by unfold fil; rw [schw_len]; simp
theorem sig0_def (x : BitVec 32) : ror32 x 7 ^^^ ror32 x 18 ^^^ x >>> 3 = sig0 x := rfl
theorem sig1_def (x : BitVec 32) : ror32 x 17 ^^^ ror32 x 19 ^^^ x >>> 10 = sig1 x := rfl
theorem mixb_len (s : List (BitVec 32)) (b : List (BitVec 8)) : (mixb s b).length = s.length := addt_len _ _ 8
def shaH : List (BitVec 32) := [0x6a09e667#32, 0xbb67ae85#32, 0x3c6ef372#32, 0xa54ff53a#32, 0x510e527f#32, 0x9b05688c#32, 0x1f83d9ab#32, 0x5be0cd19#32]
/-- The state behind k blocks. -/
def hst (m : List (BitVec 8)) : Nat → List (BitVec 32)
  | 0 => shaH
  | k + 1 => mixb (hst m k) ((m.drop (64 * k)).take 64)
theorem hst_len (m : List (BitVec 8)) : ∀ k, (hst m k).length = 8
  | 0 => rfl
  | k + 1 => by rw [hst, mixb_len, hst_len m k]
theorem hst_zero (m : List (BitVec 8)) : hst m 0 = shaH := rfl
theorem hst_succ (m : List (BitVec 8)) (k : Nat) : hst m (k + 1) = mixb (hst m k) ((m.drop (64 * k)).take 64) := rfl
def shaout (s : List (BitVec 32)) : Nat → List (BitVec 8)
  | 0 => []
  | k + 1 => shaout s k ++ highb ((ath s k).setWidth 64) 4 4
theorem shaout_len (s : List (BitVec 32)) : ∀ k, (shaout s k).length = 4 * k
  | 0 => rfl
  | k + 1 => by rw [shaout, List.length_append, shaout_len s k, highb_len]; omega
theorem shaout_zero (s : List (BitVec 32)) : shaout s 0 = [] := rfl
theorem shaout_succ (s : List (BitVec 32)) (k : Nat) : shaout s (k + 1) = shaout s k ++ highb ((ath s k).setWidth 64) 4 4 := rfl
def shamsg (b : List (BitVec 8)) : List (BitVec 8) := b ++ padb b.length
theorem shamsg_len (b : List (BitVec 8)) : (shamsg b).length = b.length + plen b.length := by unfold shamsg; rw [List.length_append, padb_len]
theorem shamsg_def (b : List (BitVec 8)) : b ++ padb b.length = shamsg b := rfl
/-- SHA-256. -/
def shasum (b : List (BitVec 8)) : List (BitVec 8) := shaout (hst (shamsg b) ((b.length + plen b.length + 64 - 1) / 64)) 8
theorem shasum_def (b : List (BitVec 8)) : shasum b = shaout (hst (shamsg b) ((b.length + plen b.length + 64 - 1) / 64)) 8 := rfl
theorem shasum_len (b : List (BitVec 8)) : (shasum b).length = 32 := shaout_len _ 8
theorem shaH_len : shaH.length = 8 := rfl
theorem shablk (b : List (BitVec 8)) (k : Nat) (hk : k < (b.length + plen b.length + 64 - 1) / 64) : min 64 (b.length + plen b.length - 64 * k) = 64 ∧ (List.take 64 (List.drop (64 * k) (shamsg b))).length = 64 := by
  have h1 := plen_mod b.length
  have h2 := shamsg_len b
  constructor
  · omega
  · rw [List.length_take, List.length_drop, h2]; omega
attribute [irreducible] hst shaout shasum shamsg shaH plen padb
attribute [irreducible] schw rounds addt mixb shaK
end Go.Proofs.Ytemjinkdfjoicaa

/- MORE STEPS of the long operations, in zal Lean: products, quotients by one digit, digits of another base, bits. LONG DIVISION in zal Lean: the gue -/
import Derived.Test.YtfoafihodanmhaaGreatDoorGZAO
import Derived.Test.YtfoafihodanmhaaGreatDoorProg
import Derived.WalkSpells
import Derived.WalkLawsBesides
import Derived.StillTailTactics
set_option maxHeartbeats 8000000
set_option maxRecDepth 100000
namespace Go.Proofs.YtfoafihodanmhaaGreatDoor
namespace Nm
def mT (B P x Y i j:Nat):Nat:=P % B ^ (i + j) + x * (Y % B ^ j) * B ^ i
def mA (B P x Y i j:Nat):Nat:=mT B P x Y i j % B ^ (i + j) + P / B ^ (i + j) * B ^ (i + j)
theorem mT_zero (B P x Y i:Nat):mT B P x Y i 0=P % B ^ i:=by simp [mT,Nat.mod_one]
theorem mA_zero {B:Nat} (P x Y i:Nat):mA B P x Y i 0=P:=by
 rw [mA,mT_zero,Nat.add_zero,Nat.mod_mod];have:=Nat.div_add_mod P (B ^ i);rw [Nat.mul_comm] at this;omega
theorem mT_next (B P x Y i j:Nat):mT B P x Y i (j + 1)=mT B P x Y i j + (P / B ^ (i + j) % B + x * (Y / B ^ j % B)) * B ^ (i + j):=by
 rw [mT,mT,← J9,mod_next B P<|i + j,mod_next B Y j,Nat.mul_add,Nat.add_mul,Nat.add_mul,← Nat.mul_assoc x,Nat.mul_assoc (x * _)<|B ^ j,← Nat.pow_add,Nat.add_comm j i];omega
theorem mT_carry {B:Nat} (hB:0 < B) (P Y i j:Nat) {x:Nat} (hx:x < B):mT B P x Y i j / B ^ (i + j) < B:=by
 have hp:0 < B ^ (i + j):=Nat.pow_pos hB;have h1:=Nat.mod_lt P hp
 have h2:x * (Y % B ^ j) * B ^ i≤(B - 1) * B ^ (i + j):=by
  have:x * (Y % B ^ j)≤(B - 1) * B ^ j:=Xx o9 (Nat.le_of_lt<|Nat.mod_lt _<|Nat.pow_pos hB);have:=Nat.mul_le_mul_right (B ^ i) this;rwa [Nat.mul_assoc<|B - 1,← Nat.pow_add,Nat.add_comm j i] at this
 refine Nat.div_lt_of_lt_mul ?_;rw [mT,Nat.mul_comm _ B]
 have h3:B * B ^ (i + j)=B ^ (i + j) + (B - 1) * B ^ (i + j):=by
  obtain ⟨b,rfl⟩:∃ b,B=b + 1:=⟨B - 1,by omega⟩;rw [Nat.add_sub_cancel,Nat.add_mul,Nat.one_mul,Nat.add_comm]
 omega
theorem mT_step {B:Nat} (hB:0 < B) (P x Y i j:Nat):
  mT B P x Y i (j + 1) / B ^ (i + j + 1)=(mT B P x Y i j / B ^ (i + j) + (P / B ^ (i + j) % B + x * (Y / B ^ j % B))) / B∧
  mT B P x Y i (j + 1) % B ^ (i + j + 1)=mT B P x Y i j % B ^ (i + j) + (mT B P x Y i j / B ^ (i + j) + (P / B ^ (i + j) % B + x * (Y / B ^ j % B))) % B * B ^ (i + j):=by
 rw [mT_next,XI];exact Vi _ _ _ _ (Nat.pow_pos hB)
theorem mA_div {B:Nat} (hB:0 < B) (P x Y i j:Nat):mA B P x Y i j / B ^ (i + j)=P / B ^ (i + j):=by
 have hp:0 < B ^ (i + j):=Nat.pow_pos hB;rw [mA,Nat.add_mul_div_right _ _ hp,Nat.div_eq_of_lt<|Nat.mod_lt _ hp,JF]
theorem mA_mod {B:Nat} (P x Y i j:Nat):mA B P x Y i j % B ^ (i + j)=mT B P x Y i j % B ^ (i + j):=by
 rw [mA,Nat.add_mul_mod_self_right,Nat.mod_mod]
theorem mA_at {B:Nat} (hB:0 < B) (P x Y i j:Nat):mA B P x Y i j / B ^ (i + j) % B=P / B ^ (i + j) % B:=by rw [mA_div hB]
theorem mA_fill {B n:Nat} (hB:0 < B) (P x Y i j:Nat) (hi:i + j < n) (d:Nat) (hd:d=(mT B P x Y i j / B ^ (i + j) + (P / B ^ (i + j) % B + x * (Y / B ^ j % B))) % B):
  (pad B n<|mA B P x Y i j).set (i + j) d=pad B n (mA B P x Y i<|j + 1):=by
 rw [Wo hB hi (by rw [hd];exact Nat.mod_lt _ hB)];congr 1;rw [mA_mod]
 have e1:mA B P x Y i j / B ^ (i + j + 1)=P / B ^ (i + j + 1):=by
  rw [XI,← Nat.div_div_eq_div_mul,mA_div hB,Nat.div_div_eq_div_mul]
 rw [e1];show _=mT B P x Y i (j + 1) % B ^ (i + j + 1) + P / B ^ (i + j + 1) * B ^ (i + j + 1);rw [(mT_step hB P x Y i j).2,hd]
theorem mA_last {B n:Nat} (hB:2≤B) (X Y i m:Nat) (hY:len B Y≤m) (hi:i + m < n):
  (pad B n<|mA B (X % B ^ i * Y) (X / B ^ i % B) Y i m).set (i + m) (mT B (X % B ^ i * Y) (X / B ^ i % B) Y i m / B ^ (i + m))=pad B n (X % B ^ (i + 1) * Y):=by
 have hB0:0 < B:=by omega
 have hp:0 < B ^ (i + m):=Nat.pow_pos hB0;have hx:X / B ^ i % B < B:=Nat.mod_lt _ hB0;have hYm:=(len_le hB _ _).1 hY
 have hP:X % B ^ i * Y < B ^ (i + m):=by
  rw [Nat.pow_add];have h1:=Nat.mod_lt X (show 0 < B ^ i from Nat.pow_pos hB0)
  calc X % B ^ i * Y≤B ^ i * Y:=Nat.mul_le_mul_right _ (Nat.le_of_lt h1)
   _ < B ^ i * B ^ m:=Nat.mul_lt_mul_of_pos_left hYm (Nat.pow_pos hB0)
 have eA:mA B (X % B ^ i * Y) (X / B ^ i % B) Y i m=mT B (X % B ^ i * Y) (X / B ^ i % B) Y i m % B ^ (i + m):=by
  rw [mA,Nat.div_eq_of_lt hP,Nat.zero_mul,Nat.add_zero]
 have eT:mT B (X % B ^ i * Y) (X / B ^ i % B) Y i m=X % B ^ (i + 1) * Y:=by
  rw [mT,Nat.mod_eq_of_lt hP,Nat.mod_eq_of_lt hYm,mod_next,Nat.add_mul,Nat.mul_right_comm]
 rw [eA,pad_next hB0 hi (Nat.mod_lt _ hp)<|mT_carry hB0 _ _ _ _ hx,eT];congr 1;have:=Nat.div_add_mod (X % B ^ (i + 1) * Y) (B ^ (i + m));rw [Nat.mul_comm] at this;omega
theorem mul_lt {B X Y:Nat} (hB:2≤B):X * Y < B ^ (len B X + len B Y):=by
 rw [Nat.pow_add];have h1:=lt_pow_len hB X;have h2:=lt_pow_len hB Y
 calc X * Y≤B ^ len B X * Y:=Nat.mul_le_mul_right _ (Nat.le_of_lt h1)
  _ < B ^ len B X * B ^ len B Y:=Nat.mul_lt_mul_of_pos_left h2 (Nat.pow_pos o9)
theorem ds_step {B d:Nat} (hd:0 < d) (X k:Nat):
  X / B ^ k / d=X / B ^ (k + 1) / d * B + (X / B ^ (k + 1) % d * B + X / B ^ k % B) / d∧X / B ^ k % d=(X / B ^ (k + 1) % d * B + X / B ^ k % B) % d:=by
 have e:=div_next (B:=B) X k;have e2:=Nat.div_add_mod (X / B ^ (k + 1)) d;obtain ⟨q,hq⟩:∃ q,q=X / B ^ (k + 1) / d:=⟨_,rfl⟩;obtain ⟨r,hr⟩:∃ r,r=X / B ^ (k + 1) % d:=⟨_,rfl⟩;obtain ⟨x,hx⟩:∃ x,x=X / B ^ k % B:=⟨_,rfl⟩;rw [← hq,← hr] at e2
 have e3:X / B ^ k=r * B + x + d * (q * B):=by
  rw [e,← e2,← hx,Nat.add_mul,Nat.mul_assoc];omega
 rw [← hq,← hr,← hx,e3,Nat.add_mul_div_left _ _ hd,Nat.add_mul_mod_self_left];exact ⟨Nat.add_comm _ _,I⟩
theorem ds_lt {B d:Nat} (hB:0 < B) (hd:0 < d) (X k:Nat):(X / B ^ (k + 1) % d * B + X / B ^ k % B) / d < B:=by
 refine Nat.div_lt_of_lt_mul ?_;have h1:=Nat.mod_lt (X / B ^ (k + 1)) hd;have h2:=Nat.mod_lt (X / B ^ k) hB;have h3:(X / B ^ (k + 1) % d + 1) * B≤d * B:=Nat.mul_le_mul_right _ h1;rw [Nat.add_mul] at h3;omega
theorem ds_fill {B d n:Nat} (hB:0 < B) (hd:0 < d) (X k:Nat) (hk:k < n) (v:Nat) (hv:v=(X / B ^ (k + 1) % d * B + X / B ^ k % B) / d):
  (pad B n<|X / B ^ (k + 1) / d * B ^ (k + 1)).set k v=pad B n (X / B ^ k / d * B ^ k):=by
 have hp:0 < B ^ (k + 1):=Nat.pow_pos hB;rw [Wo hB hk (by rw [hv];exact ds_lt hB hd X k)];congr 1;rw [Nat.mul_div_cancel _ hp,(ds_step hd X k).1,hv]
 have e0:X / B ^ (k + 1) / d * B ^ (k + 1) % B ^ k=0:=by
  rw [XI,← Nat.mul_assoc,Nat.mul_right_comm,Nat.mul_mod_left]
 rw [e0,Nat.add_mul<|_ * B,Nat.mul_assoc _ B,Nat.mul_comm B,← XI,Nat.succ_eq_add_one];omega
theorem ds_top {B X n:Nat} (hB:2≤B) (h:len B X≤n):X / B ^ n=0:=Nat.div_eq_of_lt ((len_le hB _ _).1 h)
abbrev W32:Nat:=4294967296
theorem w32_pow (j:Nat):W32 ^ j=256 ^ (4 * j):=by rw [Nat.pow_mul]
theorem Kv (j r:Nat):256 ^ (4 * j + r)=W32 ^ j * 256 ^ r:=by rw [Nat.pow_add,← w32_pow]
theorem byte_word (X j r:Nat) (hr:r < 4):X / W32 ^ j % W32 / 256 ^ r % 256=X / 256 ^ (4 * j + r) % 256:=by
 rw [Kv,← Nat.div_div_eq_div_mul];exact div_mod_low (B:=256) (k:=4) d9 hr
theorem word_before (X j r:Nat) (hr:r < 4):X % 256 ^ (4 * j + r) / W32 ^ j % W32 < 256 ^ r:=by
 have h:X % 256 ^ (4 * j + r) / W32 ^ j < 256 ^ r:=Nat.div_lt_of_lt_mul (by rw [← Kv];exact Nat.mod_lt _<|Nat.pow_pos d9);exact Nat.lt_of_le_of_lt (Nat.mod_le _ _) h
theorem zez (X j r:Nat) (hr:r < 4):X % 256 ^ (4 * j + r + 1) / W32 ^ j % W32=X % 256 ^ (4 * j + r) / W32 ^ j % W32 + X / 256 ^ (4 * j + r) % 256 * 256 ^ r:=by
 have hp:0 < W32 ^ j:=Nat.pow_pos d9;have h:X % 256 ^ (4 * j + r) / W32 ^ j < 256 ^ r:=Nat.div_lt_of_lt_mul (by rw [← Kv];exact Nat.mod_lt _<|Nat.pow_pos d9);have hd:=Nat.mod_lt (X / 256 ^ (4 * j + r)) (show 0 < 256 by decide)
 have h4:256 ^ r * 256≤W32:=by
  have:256 ^ (r + 1)≤256 ^ 4:=Nat.pow_le_pow_right d9 o9;rwa [XI] at this
 have h5:X / 256 ^ (4 * j + r) % 256 * 256 ^ r≤255 * 256 ^ r:=Nat.mul_le_mul_right _ o9;rw [mod_next]
 have e:X / 256 ^ (4 * j + r) % 256 * 256 ^ (4 * j + r)=X / 256 ^ (4 * j + r) % 256 * 256 ^ r * W32 ^ j:=by
  rw [Kv j r,Nat.mul_comm<|W32 ^ j,Nat.mul_assoc]
 rw [e,Nat.add_mul_div_right _ _ hp,Nat.mod_eq_of_lt<|Ju h o9,Nat.mod_eq_of_lt];omega
theorem zey (X i j:Nat) (hj:j≠i / 4):X % 256 ^ i / W32 ^ j % W32=X % 256 ^ (i + 1) / W32 ^ j % W32:=by
 by_cases h:j < i / 4
 ·have e1:∀ k,4 * j + 4≤k→X % 256 ^ k / W32 ^ j % W32=X / W32 ^ j % W32:=by
   intro k hk;obtain ⟨d,rfl⟩:∃ d,k=4 * j + (4 + d):=⟨k - (4 * j + 4),by omega⟩;rw [Nat.pow_add,← w32_pow,Nat.mod_mul_right_div_self,Nat.pow_add];show X / W32 ^ j % (W32 * 256 ^ d) % W32=_;rw [Nat.mod_mul_right_mod]
  rw [e1 i o9,e1 (i + 1) o9]
 ·have hk:∀ k,k≤4 * j→X % 256 ^ k / W32 ^ j=0:=by
   intro k hk;refine Nat.div_eq_of_lt ?_;rw [w32_pow];exact Ju (Nat.mod_lt _<|Nat.pow_pos d9) (Nat.pow_le_pow_right d9 hk)
  rw [hk i o9,hk (i + 1) o9]
theorem word_fill (X m i:Nat) (hi:i / 4 < m) (d:Nat) (hd:d=X % 256 ^ i / W32 ^ (i / 4) % W32 + X / 256 ^ i % 256 * 256 ^ (i % 4)):
  (pad W32 m<|X % 256 ^ i).set (i / 4) d=pad W32 m (X % 256 ^ (i + 1)):=by
 have e:=zez X (i / 4) (i % 4) (Nat.mod_lt _ d9);rw [Nat.div_add_mod] at e;exact zcW hi (by rw [hd,e]) fun j _ hne=>zey X i j hne
theorem len_words (X:Nat):len W32 X≤(len 256 X + 3) / 4:=by
 rw [len_le d9,w32_pow];exact Ju (lt_pow_len d9 X) (Nat.pow_le_pow_right d9 o9)
theorem bits_top {X:Nat} (hX:X≠0):len 2 X=32 * (len W32 X - 1) + len 2 (X / W32 ^ (len W32 X - 1)):=by
 obtain ⟨n,hn⟩:∃ n,len W32 X=n + 1:=⟨len W32 X - 1,by have:len W32 X≠0:=fun h=>hX ((len_eq_zero d9).1 h);omega⟩
 have h1:X < W32 ^ (n + 1):=by rw [← hn];exact lt_pow_len d9 X
 have h2:W32 ^ n≤X:=by have:=zav (B:=W32) d9 hX;rwa [hn] at this
 rw [hn,Nat.add_sub_cancel]
 have ew:W32 ^ n=2 ^ (32 * n):=by rw [Nat.pow_mul]
 obtain ⟨q,hq⟩:∃ q,q=X / W32 ^ n:=⟨_,rfl⟩
 have hq0:q≠0:=by
  rw [hq];exact Nat.ne_of_gt (Nat.div_pos h2<|Nat.pow_pos d9)
 obtain ⟨b,hb⟩:∃ b,len 2 q=b + 1:=⟨len 2 q - 1,by have:len 2 q≠0:=fun h=>hq0 ((len_eq_zero d9).1 h);omega⟩
 have h3:q < 2 ^ (b + 1):=by rw [← hb];exact lt_pow_len d9 q
 have h4:2 ^ b≤q:=by have:=zav (B:=2) d9 hq0;rwa [hb] at this
 rw [← hq,hb,← J9];refine len_eq d9 ?_ ?_
 ·rw [J9,Nat.pow_add,← ew]
  have:X / W32 ^ n < 2 ^ (b + 1):=by rw [← hq];exact h3
  rwa [Nat.div_lt_iff_lt_mul<|Nat.pow_pos d9,Nat.mul_comm] at this
 ·rw [Nat.pow_add,← ew]
  have:2 ^ b≤X / W32 ^ n:=by rw [← hq];exact h4
  rwa [Nat.le_div_iff_mul_le<|Nat.pow_pos d9,Nat.mul_comm] at this
theorem bytes_bits (X:Nat):len 256 X=(len 2 X + 7) / 8:=by
 have h:∀ n,len 256 X≤n↔len 2 X≤8 * n:=fun n=>by
  rw [len_le d9,len_le d9,Nat.pow_mul]
 have h1:=(h<|len 256 X).1 (Js _);have h2:=(h<|(len 2 X + 7) / 8).2 o9;omega
theorem cmp_top {B X Y k:Nat} (h:X / B ^ (k + 1)=Y / B ^ (k + 1)):
  (X / B ^ k % B=Y / B ^ k % B→X / B ^ k=Y / B ^ k)∧(X / B ^ k % B < Y / B ^ k % B→X < Y):=by
 have e1:=div_next (B:=B) X k;have e2:=div_next (B:=B) Y k;rw [← h] at e2;refine ⟨fun h'=>by rw [e1,e2,h'],fun h'=> ?_⟩;apply Nat.lt_of_not_le;intro hle;have:=Nat.div_le_div_right (c:=B ^ k) hle;omega
theorem cmp_len {B X Y:Nat} (hB:2≤B) (h:len B X < len B Y):X < Y:=by
 apply Nat.lt_of_not_le;intro hle;have:=len_mono hB hle;omega
end Nm
namespace Nm
structure Gs (B U V n h v2 q r:Nat):Prop where
 top:U / B ^ (n + 1)=q * h + r
 ge:U / V≤q
section
variable {B U V n h v2:Nat}(hB:2≤B)(hV:V=V / B ^ n * B ^ n + V % B ^ n)(hh:h=V / B ^ (n + 1))(hn:V < B ^ (n + 2))(h2:V / B ^ n=h * B + v2)(hv2:v2 < B)(hU:U < V * B)(hbig:B≤2 * h)
include hB hh hbig hn
theorem gs_pos:0 < V∧0 < h∧h < B:=by
 have hh0:0 < h:=by omega
 refine ⟨?_,hh0,?_⟩
 ·apply Nat.pos_of_ne_zero;intro e;rw [e,Nat.zero_div] at hh;omega
 ·rw [hh];refine Nat.div_lt_of_lt_mul ?_;rw [← XI];exact hn
theorem gs_start:Gs B U V n h v2 (U / B ^ (n + 1) / h) (U / B ^ (n + 1) % h):=by
 obtain ⟨hV0,hh0,_⟩:=gs_pos hB hh hn hbig;refine ⟨?_,?_⟩
 ·have:=Nat.div_add_mod (U / B ^ (n + 1)) h;rw [Nat.mul_comm] at this;exact this.symm
 ·rw [Nat.le_div_iff_mul_le hh0,Nat.le_div_iff_mul_le<|Nat.pow_pos o9]
  have h1:h * B ^ (n + 1)≤V:=by rw [hh];exact Nat.div_mul_le_self _ _
  calc U / V * h * B ^ (n + 1)=U / V * (h * B ^ (n + 1)):=Nat.mul_assoc _ _ _
   _≤U / V * V:=Nat.mul_le_mul_left _ h1
   _≤U:=Nat.div_mul_le_self _ _
omit hn hbig in
include hU in
theorem gs_top:U / B ^ (n + 1) < (h + 1) * B:=by
 refine Nat.div_lt_of_lt_mul ?_
 have h1:V < (h + 1) * B ^ (n + 1):=by
  rw [hh];have:=Nat.div_add_mod V (B ^ (n + 1));have h3:=Nat.mod_lt V (show 0 < B ^ (n + 1) from Nat.pow_pos o9);rw [Nat.add_mul,Nat.one_mul,Nat.mul_comm];omega
 have h2:=Nat.mul_lt_mul_of_pos_right h1 (show 0 < B by omega);rw [Nat.mul_comm<|B ^ (n + 1),Nat.mul_right_comm];omega
theorem gs_first (hU:U < V * B) {q r:Nat} (g:Gs B U V n h v2 q r):q≤B + 1:=by
 obtain ⟨hV0,hh0,hhB⟩:=gs_pos hB hh hn hbig;have ht:=gs_top hB hh hU;rw [g.top] at ht;apply Nat.le_of_lt_succ;apply Nat.lt_of_not_le;intro hle;have h1:(B + 2) * h≤q * h:=Nat.mul_le_mul_right _ hle;rw [Nat.add_mul] at h1 ht;rw [Nat.mul_comm B h] at h1;omega
theorem gs_next (hU:U < V * B) (h2:V / B ^ n=h * B + v2) {q r u2:Nat} (g:Gs B U V n h v2 q r) (hu2:u2=U / B ^ n % B) (hc:B≤q∨r * B + u2 < q * v2):0 < q∧Gs B U V n h v2 (q - 1) (r + h):=by
 obtain ⟨hV0,hh0,hhB⟩:=gs_pos hB hh hn hbig
 have hlt:U / V < q:=by
  rcases hc with hc | hc
  ·exact Ju (Nat.div_lt_of_lt_mul hU) hc
  ·rw [Nat.div_lt_iff_lt_mul hV0]
   have e1:U / B ^ n=U / B ^ (n + 1) * B + u2:=by rw [hu2];exact div_next U n
   have e2:U / B ^ n < q * (V / B ^ n):=by
    rw [e1,g.top,h2,Nat.mul_add,Nat.add_mul,← Nat.mul_assoc];omega
   have h3:=Nat.div_add_mod U (B ^ n);have h4:=Nat.mod_lt U (show 0 < B ^ n from Nat.pow_pos o9);have h5:B ^ n * (U / B ^ n + 1)≤B ^ n * (q * (V / B ^ n)):=Nat.mul_le_mul_left _ e2
   have h6:B ^ n * (q * (V / B ^ n))≤q * V:=by
    rw [← Nat.mul_assoc,Nat.mul_comm (B ^ n) q,Nat.mul_assoc];exact Nat.mul_le_mul_left _ (Nat.mul_div_le _ _)
   rw [Nat.mul_add,Nat.mul_one] at h5;omega
 have hq:0 < q:=Nat.lt_of_le_of_lt (JC _) hlt;refine ⟨hq,⟨?_,Nat.le_sub_one_of_lt hlt⟩⟩;rw [g.top];obtain ⟨p,rfl⟩:∃ p,q=p + 1:=⟨q - 1,by omega⟩;rw [Nat.add_sub_cancel,Nat.add_mul];omega
theorem gs_end (hU:U < V * B) (h2:V / B ^ n=h * B + v2) (hv2:v2 < B) {q r u2:Nat} (g:Gs B U V n h v2 q r) (hu2:u2=U / B ^ n % B) (hc:(q < B∧q * v2≤r * B + u2)∨B≤r):q < B∧(q=U / V∨q=U / V + 1):=by
 obtain ⟨hV0,hh0,hhB⟩:=gs_pos hB hh hn hbig;have ht:=gs_top hB hh hU;rw [g.top,Nat.add_mul,Nat.one_mul] at ht
 have hqB:q < B:=by
  rcases hc with hc | hc
  ·exact hc.1
  ·apply Nat.lt_of_not_le;intro hle;have:B * h≤q * h:=Nat.mul_le_mul_right _ hle;rw [Nat.mul_comm B h] at this;omega
 have hle:q * v2≤r * B + u2:=by
  rcases hc with hc | hc
  ·exact hc.2
  ·have h3:q * v2≤B * B:=Xx (Nat.le_of_lt hqB) (Nat.le_of_lt hv2);have h4:B * B≤r * B:=Nat.mul_le_mul_right _ hc;omega
 refine ⟨hqB,?_⟩
 have e1:U / B ^ n=U / B ^ (n + 1) * B + u2:=by rw [hu2];exact div_next U n
 have e2:q * (V / B ^ n)≤U / B ^ n:=by
  rw [e1,g.top,h2,Nat.mul_add,Nat.add_mul,← Nat.mul_assoc];omega
 have h3:=Nat.div_add_mod V (B ^ n);have h4:=Nat.mod_lt V (show 0 < B ^ n from Nat.pow_pos o9)
 have h5:q * V≤U + q * (V % B ^ n):=by
  have:q * V=B ^ n * (q * (V / B ^ n)) + q * (V % B ^ n):=by
   rw [← Nat.mul_assoc,Nat.mul_comm (B ^ n) q,Nat.mul_assoc,← Nat.mul_add,h3]
  rw [this];have h6:B ^ n * (q * (V / B ^ n))≤U:=JG (Nat.mul_le_mul_left _ e2) (Nat.mul_div_le _ _);omega
 have h7:q * (V % B ^ n) < V:=by
  have h8:q * (V % B ^ n)≤B * (V % B ^ n):=Nat.mul_le_mul_right _ (Nat.le_of_lt hqB);have h9:B * (V % B ^ n) < B * B ^ n:=Nat.mul_lt_mul_of_pos_left h4 o9
  have h10:B ^ (n + 1)≤V:=by
   have:1 * B ^ (n + 1)≤h * B ^ (n + 1):=Nat.mul_le_mul_right _ hh0;rw [Nat.one_mul] at this;exact JG this (by rw [hh];exact Nat.div_mul_le_self _ _)
  rw [XI,Nat.mul_comm] at h10;omega
 have hge:=g.ge
 have hup:q - 1≤U / V:=by
  rw [Nat.le_div_iff_mul_le hV0,Nat.sub_mul,Nat.one_mul];omega
 omega
end
def sA (B U Z i:Nat):Nat:=df B U Z i + U / B ^ i * B ^ i
theorem sA_zero (B U Z:Nat):sA B U Z 0=U:=by simp [sA,df_zero]
theorem sA_at {B:Nat} (hB:0 < B) (U Z i:Nat):sA B U Z i / B ^ i % B=U / B ^ i % B:=by
 rw [sA,Nat.add_mul_div_right _ _<|Nat.pow_pos hB,Nat.div_eq_of_lt (df_lt hB U Z i).1,JF]
theorem sA_fill {B n:Nat} (hB:0 < B) (U Z i:Nat) (hi:i < n) (d:Nat) (hd:d=U / B ^ i % B + bw B U Z (i + 1) * B - Z / B ^ i % B - bw B U Z i):
  (pad B n<|sA B U Z i).set i d=pad B n (sA B U Z<|i + 1):=by
 obtain ⟨-,h2,h3⟩:=df_step hB U Z i;have hp:0 < B ^ i:=Nat.pow_pos hB;rw [Wo hB hi (by rw [hd];exact h3)];congr 1
 have e1:sA B U Z i % B ^ i=df B U Z i:=by rw [sA,Nat.add_mul_mod_self_right,Nat.mod_eq_of_lt (df_lt hB U Z i).1]
 have e2:sA B U Z i / B ^ (i + 1)=U / B ^ (i + 1):=by
  rw [XI,← Nat.div_div_eq_div_mul,sA,Nat.add_mul_div_right _ _ hp,Nat.div_eq_of_lt (df_lt hB U Z i).1,JF,Nat.div_div_eq_div_mul]
 rw [e1,e2,sA,h2,hd]
theorem sA_all {B U Z i:Nat} (hU:U < B ^ i):sA B U Z i=df B U Z i:=by rw [sA,Nat.div_eq_of_lt hU,Nat.zero_mul,Nat.add_zero]
theorem df_full {B U Z i:Nat} (hU:U < B ^ i) (hZ:Z < B ^ i):df B U Z i=(if U < Z then U + B ^ i - Z else U - Z)∧bw B U Z i=(if U < Z then 1 else 0):=by
 unfold df bw;rw [Nat.mod_eq_of_lt hU,Nat.mod_eq_of_lt hZ]
 constructor
 ·split
  ·rw [Nat.one_mul]
  ·rw [Nat.zero_mul,Nat.add_zero]
 ·rfl
theorem pr_step {B:Nat} (hB:0 < B) (q V i:Nat):
  q * (V % B ^ (i + 1)) / B ^ (i + 1)=(q * (V % B ^ i) / B ^ i + q * (V / B ^ i % B)) / B∧q * V / B ^ i % B=(q * (V % B ^ i) / B ^ i + q * (V / B ^ i % B)) % B:=by
 have hp:0 < B ^ i:=Nat.pow_pos hB
 have e:q * (V % B ^ (i + 1))=q * (V % B ^ i) + q * (V / B ^ i % B) * B ^ i:=by rw [mod_next,Nat.mul_add,Nat.mul_assoc]
 have c:=Vi (B ^ i) B (q * (V % B ^ i)) (q * (V / B ^ i % B)) hp
 constructor
 ·rw [e,XI];exact c.1
 ·have e1:q * V / B ^ i % B=q * (V % B ^ (i + 1)) / B ^ i % B:=by
   rw [← div_mod_low (x:=q * V) hB (show i < i + 1 by omega),← div_mod_low (x:=q * (V % B ^ (i + 1))) hB (show i < i + 1 by omega)];rw [Nat.mul_mod_mod]
  rw [e1,e,Nat.add_mul_div_right _ _ hp]
theorem pr_carry {B q:Nat} (hB:0 < B) (hq:q < B) (V i:Nat):q * (V % B ^ i) / B ^ i < B:=by
 refine Nat.div_lt_of_lt_mul ?_;have h1:=Nat.mod_lt V (show 0 < B ^ i from Nat.pow_pos hB);rw [Nat.mul_comm q]
 by_cases h0:q=0
 ·subst h0;rw [Nat.mul_zero];exact Nat.mul_pos (Nat.pow_pos hB) hB
 ·exact Nat.mul_lt_mul'' h1 hq
def aA (B R V i:Nat):Nat:=sm B R V i % B ^ i + R / B ^ i * B ^ i
theorem aA_zero (B R V:Nat):aA B R V 0=R:=by simp [aA,Nat.mod_one]
theorem aA_at {B:Nat} (hB:0 < B) (R V i:Nat):aA B R V i / B ^ i % B=R / B ^ i % B:=by
 have hp:0 < B ^ i:=Nat.pow_pos hB;rw [aA,Nat.add_mul_div_right _ _ hp,Nat.div_eq_of_lt<|Nat.mod_lt _ hp,JF]
theorem aA_fill {B n:Nat} (hB:0 < B) (R V i:Nat) (hi:i < n) (d:Nat) (hd:d=(sm B R V i / B ^ i + (R / B ^ i % B + V / B ^ i % B)) % B):
  (pad B n<|aA B R V i).set i d=pad B n (aA B R V<|i + 1):=by
 have hp:0 < B ^ i:=Nat.pow_pos hB;rw [Wo hB hi (by rw [hd];exact Nat.mod_lt _ hB)];congr 1
 have e1:aA B R V i % B ^ i=sm B R V i % B ^ i:=by rw [aA,Nat.add_mul_mod_self_right,Nat.mod_mod]
 have e2:aA B R V i / B ^ (i + 1)=R / B ^ (i + 1):=by
  rw [XI,← Nat.div_div_eq_div_mul,aA,Nat.add_mul_div_right _ _ hp,Nat.div_eq_of_lt<|Nat.mod_lt _ hp,JF,Nat.div_div_eq_div_mul]
 rw [e1,e2,aA,(sm_step hB R V i).2,hd]
theorem aA_last {B n R V:Nat} (hB:2≤B) (hR:R < B ^ (n + 1)) (hV:V < B ^ n):
  (pad B (n + 1)<|aA B R V n).set n ((R / B ^ n % B + sm B R V n / B ^ n) % B)=pad B (n + 1) ((R + V) % B ^ (n + 1)):=by
 have hB0:0 < B:=by omega
 have hd:(R / B ^ n % B + sm B R V n / B ^ n) % B=(sm B R V n / B ^ n + (R / B ^ n % B + V / B ^ n % B)) % B:=by
  rw [Nat.div_eq_of_lt hV,Nat.zero_mod,Nat.add_zero,Nat.add_comm]
 rw [aA_fill hB0 R V n o9 _ hd];congr 1;rw [aA,Nat.div_eq_of_lt hR,Nat.zero_mul,Nat.add_zero,sm,Nat.mod_eq_of_lt hR,Nat.mod_eq_of_lt<|Nat.lt_trans hV<|Nat.pow_lt_pow_right hB o9]
theorem kn_end {B n U V q : Nat} (hB : 2 ≤ B) (hV0 : 0 < V) (hV : V < B ^ n) (hU : U < V * B) (hq : q = U / V ∨ q = U / V + 1) :
    (¬ U < q * V → q = U / V ∧ U - q * V = U % V) ∧ (U < q * V → q - 1 = U / V ∧ (U + B ^ (n + 1) - q * V + V) % B ^ (n + 1) = U % V) := by
  have h1 := Nat.div_add_mod U V
  have h2 := Nat.mod_lt U hV0
  have h3 : U / V * V ≤ U := Nat.div_mul_le_self _ _
  rw [Nat.mul_comm] at h1
  have hlt : V < B ^ (n + 1) := Nat.lt_trans hV (Nat.pow_lt_pow_right hB (by omega))
  rcases hq with rfl | rfl
  · exact ⟨fun _ => ⟨rfl, by omega⟩, fun h => absurd h (Nat.not_lt.2 h3)⟩
  · rw [Nat.add_mul, Nat.one_mul]
    refine ⟨fun h => absurd (show U < U / V * V + V by omega) h, fun _ => ⟨Nat.add_sub_cancel _ _, ?_⟩⟩
    have e : U + B ^ (n + 1) - (U / V * V + V) + V = U % V + B ^ (n + 1) := by omega
    rw [e, Nat.add_mod_right, Nat.mod_eq_of_lt (by omega)]
end Nm
namespace Nm
theorem split3 (B A k:Nat):A=A % B ^ k + A / B ^ k % B * B ^ k + A / B ^ (k + 1) * B ^ (k + 1):=by
 rw [← mod_next];have:=Nat.div_add_mod A (B ^ (k + 1));rw [Nat.mul_comm] at this;omega
theorem pad_plus {B n A k e d:Nat} (hB:0 < B) (hk:k < n) (hd:d=A / B ^ k % B + e) (hlt:d < B):(pad B n A).set k d=pad B n (A + e * B ^ k):=by
 rw [Wo hB hk hlt];congr 1;have:=split3 B A k;rw [hd,Nat.add_mul];omega
theorem shl_step {S T X n i lo hi:Nat} (hST:S * T=W32) (hS:0 < S) (hi':i + 1 < n) (hlo:lo=(X / W32 ^ i % W32) * S % W32) (hhi:hi=(X / W32 ^ i % W32) * S / W32):
  ((pad W32 n<|X % W32 ^ i * S).set i<|X % W32 ^ i * S / W32 ^ i % W32 + lo).set (i + 1) hi=pad W32 n (X % W32 ^ (i + 1) * S)∧X % W32 ^ i * S / W32 ^ i % W32 < S∧lo % S=0∧X % W32 ^ i * S / W32 ^ i % W32 + lo < W32:=by
 have hW:0 < W32:=by decide
 have hp:0 < W32 ^ i:=Nat.pow_pos hW;have hT:0 < T:=Nat.pos_of_ne_zero (by rintro rfl;simp at hST);have hx:=Nat.mod_lt (X / W32 ^ i) hW
 have hSW:S≤W32:=by rw [← hST];exact Nat.le_mul_of_pos_right _ hT
 have hc:X % W32 ^ i * S / W32 ^ i < S:=Nat.div_lt_of_lt_mul (Nat.mul_lt_mul_of_pos_right (Nat.mod_lt _ hp) hS);have hcm:X % W32 ^ i * S / W32 ^ i % W32=X % W32 ^ i * S / W32 ^ i:=Nat.mod_eq_of_lt (Ju hc hSW)
 have hlo0:lo % S=0:=by
  rw [hlo,← hST,Nat.mul_comm _ S,Nat.mul_mod_mul_left,Nat.mul_mod_right]
 have hlolt:lo < W32:=by rw [hlo];exact Nat.mod_lt _ hW
 obtain ⟨c,hcc⟩:∃ c,lo=S * c:=⟨lo / S,by have:=Nat.div_add_mod lo S;omega⟩
 have hlo2:lo + S≤W32:=by
  have:S * c < S * T:=by rw [← hcc,hST];exact hlolt
  have hcT:c < T:=Nat.lt_of_mul_lt_mul_left this;have:S * (c + 1)≤S * T:=Nat.mul_le_mul_left _ hcT;rw [Nat.mul_add,hST,Nat.mul_one] at this;omega
 have hsum:X % W32 ^ i * S / W32 ^ i % W32 + lo < W32:=by rw [hcm];omega
 refine ⟨?_,by rw [hcm];exact hc,hlo0,hsum⟩;rw [pad_plus hW o9 rfl hsum]
 have hA:X % W32 ^ i * S + lo * W32 ^ i < W32 ^ (i + 1):=by
  have h1:=Nat.div_add_mod (X % W32 ^ i * S) (W32 ^ i);have h2:=Nat.mod_lt (X % W32 ^ i * S) hp;have h3:(X % W32 ^ i * S / W32 ^ i + lo + 1) * W32 ^ i≤W32 * W32 ^ i:=Nat.mul_le_mul_right _ (by rw [hcm] at hsum;omega);rw [Nat.add_mul,Nat.add_mul,Nat.one_mul,Nat.mul_comm W32] at h3;rw [XI];rw [Nat.mul_comm] at h1;omega
 have hhilt:hi < W32:=by
  rw [hhi];refine Nat.div_lt_of_lt_mul ?_
  calc X / W32 ^ i % W32 * S < W32 * S:=Nat.mul_lt_mul_of_pos_right hx hS
   _≤W32 * W32:=Nat.mul_le_mul_left _ hSW
 rw [pad_next hW hi' hA hhilt];congr 1;rw [mod_next,Nat.add_mul,Nat.mul_right_comm,XI,J9];congr 1;have:=Nat.div_add_mod (X / W32 ^ i % W32 * S) W32;rw [← hlo,← hhi] at this;rw [← this,Nat.add_mul,Nat.mul_comm (W32 ^ i) W32,← Nat.mul_assoc,Nat.mul_comm W32 hi];omega
theorem shr_word {S T X i:Nat} (hST:S * T=W32):X / S / W32 ^ i % W32=X / W32 ^ i % W32 / S + (X / W32 ^ (i + 1) % W32) * T % W32:=by
 have hW:0 < W32:=by decide
 have hS:0 < S:=Nat.pos_of_ne_zero (by rintro rfl;simp at hST);have hT:0 < T:=Nat.pos_of_ne_zero (by rintro rfl;simp at hST);rw [Nat.div_div_eq_div_mul,Nat.mul_comm S,← Nat.div_div_eq_div_mul];have e:=div_next (B:=W32) X i;have e2:=Nat.div_add_mod (X / W32 ^ (i + 1)) W32
 generalize X / W32 ^ (i + 1)=y at *
 generalize hx:X / W32 ^ i % W32=x at *
 have hxl:x < W32:=by rw [← hx];exact Nat.mod_lt _ hW
 rw [e]
 have e3:(y * W32 + x) / S=y * T + x / S:=by
  rw [← hST,← Nat.mul_assoc,Nat.mul_comm y S,Nat.mul_assoc,Nat.mul_add_div hS]
 rw [e3];have hxS:x / S < T:=Nat.div_lt_of_lt_mul (by rw [hST];exact hxl)
 have e4:(y % W32) * T % W32=y * T % W32:=by rw [Nat.mod_mul_mod]
 rw [e4]
 have e5:y * T % W32=y % S * T:=by rw [← hST,Nat.mul_mod_mul_right]
 rw [Nat.add_mod,e5]
 have h6:y % S * T + x / S < W32:=by
  have:=Nat.mod_lt y hS;have h7:(y % S + 1) * T≤S * T:=Nat.mul_le_mul_right _ this;rw [Nat.add_mul,hST] at h7;omega
 rw [Nat.mod_eq_of_lt (a:=x / S) o9,Nat.mod_eq_of_lt h6];omega
end Nm
end Go.Proofs.YtfoafihodanmhaaGreatDoor
namespace Go.Proofs.YtfoafihodanmhaaGreatDoor
open Go.RowKit
open Nm (W32)
def lenV:Value→Nat | .slice _ n _=>n | _=>0
theorem zay:(Tryz.prog.info? 209).map (fun i=>(i.zero,i.size,i.bytes))=some (some<|.int .u32 0,1,4):=by kernel_rfl
theorem info8:(Tryz.prog.info? 5).map (fun i=>(i.zero,i.size,i.bytes))=some (some<|.int .u8 0,1,1):=by kernel_rfl
structure NatS (w:World) (A:Option Addr) (n c X:Nat):Prop where
 n_eq:n=Nm.len W32 X
 le:n≤c
 rd:RV w A (cN .u32<|Nm.dg W32 X)
theorem NatS.keep {w w':World} {A:Option Addr} {n c X:Nat} (h:NatS w A n c X) (ho:Only [] w w'):NatS w' A n c X:=⟨h.n_eq,h.le,h.rd.keep0 ho⟩
theorem NatS.zero (w:World) (A:Option Addr) (c:Nat):NatS w A 0 c 0:=⟨by rw [Nm.len_zero],JC _,by rw [Nm.dg_zero];exact RV.nil⟩
theorem NatS.at {w:World} {A:Option Addr} {n c X:Nat} (h:NatS w A n c X) (h0:0 < n):∃ g o,A=some ⟨g,o,none⟩∧g < w.heap.size∧∀ j,j < n→w.cell? ⟨g,o + j,none⟩=some (.int .u32 ((X / W32 ^ j % W32:Nat):Int)):=by
 have hl:(cN .u32<|Nm.dg W32 X).length=n:=by rw [Zh,Nm.dg_length,h.n_eq]
 obtain ⟨g,o,e,hg,hc⟩:=h.rd o9;refine ⟨g,o,e,hg,fun j hj=> ?_⟩;rw [hc j o9,ZQ (by rw [Zh] at hl;omega),Nm.dg_getD d9]
theorem zdz {w:World} {A:Option Addr} {n c X:Nat} (hc:n≤c) (hX:X < W32 ^ n) (hr:RV w A (cN .u32<|Nm.pad W32 n X)):NatS w A (Nm.len W32 X) c X:=by
 have hle:=(Nm.len_le (B:=W32) d9 n X).2 hX;refine ⟨I,JG hle hc,?_⟩;rw [Nm.dg_pad d9,← Nm.take_pad W32 _ _ _ hle,cN,List.map_take];exact hr.take _
theorem padAt {w:World} {A:Option Addr} {k:IntKind} {B n X:Nat} (hr:RV w A (cN k<|Nm.pad B n X)) (h0:0 < n):∃ g o,A=some ⟨g,o,none⟩∧g < w.heap.size∧∀ j,j < n→w.cell? ⟨g,o + j,none⟩=some (.int k ((X / B ^ j % B:Nat):Int)):=by
 obtain ⟨g,o,e,hg,hc⟩:=hr (by simpa using h0);refine ⟨g,o,e,hg,fun j hj=> ?_⟩;rw [hc j (by simpa using hj),ZQ (by simpa using hj),Nm.pad_getD _ _ _ _ hj]
theorem qa (w:World) (A:Option Addr) (n c X:Nat) (hc:n≤c) (hm:n≤1000000) (hX:X < W32 ^ n) (hr:RV w A (cN .u32<|Nm.pad W32 n X)):
  Calls Tryz.prog 121 #[.slice A n c] w fun e w'=>∃ m,e= .returned (.slice A m c)∧w=w'∧NatS w A m c X:=by
 have Hr:=Jm hr;have HX:=Jm hX;have hns:=zdz hc hX hr;clear hr hX
 go_enter Tryz.func121,Tryz.ntmps121
 go_wp2
 go_loopw [0] (fun x wr=>∃ k:Nat,k≤n∧x= .slice A k c∧Hid (X < W32 ^ k)∧w=wr) (fun x _=>lenV x)
 case atStart=>exact ⟨n,Js _,rfl,HX.out,rfl⟩
 case round=>
  obtain ⟨k,hk,rfl,hXk,rfl⟩:=hrel;rcases (show k=0∨∃ j,k=j + 1 from by cases k;exact .inl rfl;exact .inr ⟨_,rfl⟩) with rfl | ⟨j,rfl⟩
  ·go_wp2
   go_ret
   have:X=0:=by simpa using hXk.out
   subst this;exact ⟨0,I,I,NatS.zero _ _ _⟩
  ·obtain ⟨g,o,rfl,hg,hcl⟩:=padAt Hr.out o9;have c1:=hcl j o9;clear hcl;obtain ⟨x,Hx⟩:∃ x:Nat,Hid (x=X / W32 ^ j % W32):=⟨_,rfl⟩;rw [← Hx.out] at c1
   have hcj:(j:Int)≤(c:Int):=by omega
   have hjm:(j:Int)≤1000000:=by omega
   by_cases h0:x=0
   ·subst h0
    go_wp2
    go_roundw
    case rel=>exact ⟨j,by omega,rfl,Nm.top_zero d9 hXk.out Hx.out.symm,trivial⟩
    case measure=>simp [lenV]
   ·have e1:((x:Int) == 0)=false:=Xb.2 o9;have hl:=Nm.top_len d9 hXk.out (by rw [← Hx.out];exact h0);rw [hl] at hns
    go_wp2
    go_ret
    exact ⟨j + 1,I,I,hns⟩
theorem NatS.lt {w:World} {A:Option Addr} {n c X:Nat} (h:NatS w A n c X):X < W32 ^ n:=by rw [h.n_eq];exact Nm.lt_pow_len d9 X
def Cmp (X Y:Nat) (r:Int):Prop:=(X < Y∧r= -1)∨(X=Y∧r=0)∨(Y < X∧r=1)
theorem Z6 (w:World) (A B:Option Addr) (n c m d X Y:Nat) (hn:n≤1000000) (hm:m≤1000000) (hA:NatS w A n c X) (hB:NatS w B m d Y):
  Calls Tryz.prog 118 #[.slice A n c,.slice B m d] w fun e w'=>∃ r:Int,e= .returned (.int .i64 r)∧Hid (Cmp X Y r)∧Only [] w w':=by
 by_cases hnm:n=m
 ·subst hnm;have hX:=hA.lt;have hY:=hB.lt;have HX:=Jm hX;have HY:=Jm hY;clear hX hY
  go_enter Tryz.func118,Tryz.ntmps118
  go_wp2
  go_loopw [4,5] (fun _ i wr=>∃ k:Nat,k≤n∧∃ z:Int,z=(k:Int) - 1∧i= .int .i64 z∧Hid (X / W32 ^ k=Y / W32 ^ k)∧Only [] w wr) (fun _ i _=>(intOf i + 1).toNat)
  case atStart=>exact ⟨n,Js _,_,rfl,by go_num,by unfold Hid;rw [Nat.div_eq_of_lt HX.out,Nat.div_eq_of_lt HY.out],Only.refl _ _⟩
  case round=>
   obtain ⟨k,hk,z,hz,rfl,he,hO⟩:=hrel;rcases (show k=0∨∃ j,k=j + 1 from by cases k;exact .inl rfl;exact .inr ⟨_,rfl⟩) with rfl | ⟨j,rfl⟩
   ·obtain rfl:z= -1:=by omega
    clear hz
    go_wp2
    go_ret
    exact ⟨0,I,.inr<|.inl ⟨by simpa using he.out,rfl⟩,hO⟩
   ·obtain rfl:z=(j:Int):=by omega
    clear hz;obtain ⟨ga,oa,rfl,hga,hca⟩:=(hA.keep hO).at o9;obtain ⟨gb,ob,rfl,hgb,hcb⟩:=(hB.keep hO).at o9;have c1:=hca j o9;have c2:=hcb j o9;clear hca hcb;have ht:=Jm (Nm.cmp_top he.out);have ht':=Jm (Nm.cmp_top he.out.symm)
    revert c1 c2 ht ht'
    generalize X / W32 ^ j % W32=x
    generalize Y / W32 ^ j % W32=y
    intro c1 c2 ht ht'
    have hjn:(j:Int) < (n:Int):=by omega
    have hjm:(j:Int)≤1000000:=by omega
    by_cases h1:x < y
    ·have h1I:(x:Int) < (y:Int):=by omega
     go_wp2
     refine Reg.wp [] [.r 0,.r 1,.r 2,.r 3,.r 4,.r 5,.r 6,.r 7,.r 8] k9 k9 (fun d _ _ _ _ h=>by cases d <;> exact h) ?_
     simp only [Reg.pick,List.getD_cons_succ,List.getD_cons_zero]
     iterate 9 (apply Reg.read;(· (intro t K hK;go_simp;(try go_ints);(try ((go_ite <;> go_prune);go_simp));(try go_ints);exact hK _ rfl));(· (intro K hK;go_simp;exact hK _ rfl)))
     refine Reg.fin ?_
     go_wp2
     go_ret
     exact ⟨-1,I,.inl ⟨ht.out.2 h1,I⟩,hO.drew⟩
    ·have h1I:(y:Int)≤(x:Int):=by omega
     by_cases h2:y < x
     ·have h2I:(y:Int) < (x:Int):=by omega
      go_wp2
      refine Reg.wp [] [.r 0,.r 1,.r 2,.r 3,.r 4,.r 5,.r 6,.r 7,.r 8] k9 k9 (fun d _ _ _ _ h=>by cases d <;> exact h) ?_
      simp only [Reg.pick,List.getD_cons_succ,List.getD_cons_zero]
      iterate 9 (apply Reg.read;(· (intro t K hK;go_simp;(try go_ints);(try ((go_ite <;> go_prune);go_simp));(try go_ints);exact hK _ rfl));(· (intro K hK;go_simp;exact hK _ rfl)))
      refine Reg.fin ?_
      go_wp2
      refine Reg.wp [] [.r 0,.r 1,.r 2,.r 3,.r 4,.r 5,.r 6,.r 7,.r 8] k9 k9 (fun d _ _ _ _ h=>by cases d <;> exact h) ?_
      simp only [Reg.pick,List.getD_cons_succ,List.getD_cons_zero]
      iterate 9 (apply Reg.read;(· (intro t K hK;go_simp;(try go_ints);(try ((go_ite <;> go_prune);go_simp));(try go_ints);exact hK _ rfl));(· (intro K hK;go_simp;exact hK _ rfl)))
      refine Reg.fin ?_
      go_wp2
      go_ret
      exact ⟨1,I,.inr<|.inr ⟨ht'.out.2 h2,I⟩,hO.drew.drew⟩
     ·obtain rfl:x=y:=by omega
      have Ht:=Jm (ht.out.1 rfl);clear ht ht' h1I h1 h2
      go_wp2
      refine Reg.wp [] [.r 0,.r 1,.r 2,.r 3,.r 4,.r 5,.r 6,.r 7,.r 8] k9 k9 (fun d _ _ _ _ h=>by cases d <;> exact h) ?_
      simp only [Reg.pick,List.getD_cons_succ,List.getD_cons_zero]
      iterate 9 (apply Reg.read;(· (intro t K hK;go_simp;(try go_ints);(try ((go_ite <;> go_prune);go_simp));(try go_ints);exact hK _ rfl));(· (intro K hK;go_simp;exact hK _ rfl)))
      refine Reg.fin ?_
      go_wp2
      refine Reg.wp [] [.r 0,.r 1,.r 2,.r 3,.r 4,.r 5,.r 6,.r 7,.r 8] k9 k9 (fun d _ _ _ _ h=>by cases d <;> exact h) ?_
      simp only [Reg.pick,List.getD_cons_succ,List.getD_cons_zero]
      iterate 9 (apply Reg.read;(· (intro t K hK;go_simp;(try go_ints);(try ((go_ite <;> go_prune);go_simp));(try go_ints);exact hK _ rfl));(· (intro K hK;go_simp;exact hK _ rfl)))
      refine Reg.fin ?_
      go_wp2
      go_roundw
      case rel=>exact ⟨j,by omega,_,rfl,by go_num,Ht,hO.drew.drew⟩
      case measure=>simp [intOf]
 ·have e1:((n:Int) == (m:Int))=false:=Xb.2 o9
  have e2:((n:Int) != (m:Int))=true:=by rw [bne_iff_ne];omega
  have hla:=hA.n_eq;have hlb:=hB.n_eq
  by_cases hlt:n < m
  ·have hltI:(n:Int) < (m:Int):=by omega
   have hxy:X < Y:=Nm.cmp_len (B:=W32) d9 o9;clear hla hlb hA hB
   go_enter Tryz.func118,Tryz.ntmps118
   go_wp2
   go_ret
   exact ⟨-1,I,.inl ⟨hxy,I⟩,Only.refl _ _⟩
  ·have hltI:(m:Int)≤(n:Int):=by omega
   have hxy:Y < X:=Nm.cmp_len (B:=W32) d9 o9;clear hla hlb hA hB
   go_enter Tryz.func118,Tryz.ntmps118
   go_wp2
   go_ret
   exact ⟨1,I,.inr<|.inr ⟨hxy,I⟩,Only.refl _ _⟩
theorem qZ (n:Nat):List.replicate n (Value.int .u32 0)=cN .u32 (Nm.pad W32 n 0):=by rw [VE,Nm.pad_zero]
theorem addNat_ge (w:World) (A B:Option Addr) (n c m d X Y:Nat) (hn:n≤999999) (hmn:m≤n) (hA:NatS w A n c X) (hB:NatS w B m d Y):
  Calls Tryz.prog 138 #[.slice A n c,.slice B m d] w fun e w'=>∃ A' n' c',e= .returned (.slice A' n' c')∧NatS w' A' n' c' (X + Y)∧Only [] w w':=by
 have hmnI:(m:Int)≤(n:Int):=by omega
 have Hm:=Jm hB.n_eq
 go_enter Tryz.func138,Tryz.ntmps138
 go_wp2_with (refine q8 rfl 204 _ _ rfl 209 (.int .u32 0) 4 Tryz.underlying204 zay rfl .i64 .i64 _ _ (n + 1) (n + 1) o9 o9 rfl rfl (Js _) o9 d9 ?_;intro w1 _ hB1 hO1)
 rw [qZ] at hB1
 go_loopw [6,7,21] (fun carry _ i wr=>∃ k:Nat,k≤n∧i= .int .i64 (k:Int)∧(∃ cr:Nat,carry= .int .u64 (cr:Int)∧Hid (cr=Nm.sm W32 X Y k / W32 ^ k))∧Blk wr w.heap.size 209 (cN .u32<|Nm.pad W32 (n + 1)<|Nm.sm W32 X Y k % W32 ^ k)∧Only [] w wr) (fun _ _ i _=>n - (intOf i).toNat)
 case atStart=>exact ⟨0,JC _,rfl,⟨0,rfl,by unfold Hid;rw [Nm.sm_zero];rfl⟩,by rw [Nm.sm_zero];exact hB1,hO1⟩
 case round=>
  clear hB1 hO1;obtain ⟨k,hk,rfl,⟨cr,rfl,hcr⟩,hBk,hO⟩:=hrel;have hcr1:=Nm.sm_carry (B:=W32) d9 X Y k;rw [← hcr.out] at hcr1
  have hcrI:(cr:Int)≤1:=by omega
  by_cases hlt:k < n
  ·have hltI:(k:Int) < (n:Int):=by omega
   have hkm:(k:Int)≤1000000:=by omega
   obtain ⟨ga,oa,hAe,hga,hca⟩:=(hA.keep hO).at o9;have c1:=hca k hlt;have hst:=Jm (Nm.sm_step (B:=W32) d9 X Y k);have hfl:=Jm (Nm.sm_fill (B:=W32) (n:=n + 1) d9 X Y k o9);rw [← hcr.out] at hst hfl;have hxl:X / W32 ^ k % W32 < 4294967296:=Nat.mod_lt _ d9;have hyl:Y / W32 ^ k % W32 < 4294967296:=Nat.mod_lt _ d9;have hy0:m≤k→Y / W32 ^ k % W32=0:=fun h=>Nm.high_zero d9 (by rw [← Hm.out];exact h)
   by_cases hkm2:k < m
   ·have hkmI:(k:Int) < (m:Int):=by omega
    obtain ⟨gb,ob,hBe,hgb,hcb⟩:=(hB.keep hO).at o9;have c2:=hcb k hkm2;clear hca hcb hy0
    revert c1 c2 hst hfl hxl hyl
    generalize X / W32 ^ k % W32=x
    generalize Y / W32 ^ k % W32=y
    intro c1 hst hfl hxl hyl c2
    have hxI:(x:Int) < 4294967296:=by omega
    have hyI:(y:Int) < 4294967296:=by omega
    subst hAe hBe;obtain ⟨d,Hd⟩:∃ d:Nat,Hid (d=(cr + (x + y)) % 4294967296):=⟨_,rfl⟩;obtain ⟨e,He⟩:∃ e:Nat,Hid (e=(cr + (x + y)) / 4294967296):=⟨_,rfl⟩
    have hd:((cr:Int) + (x:Int) + (y:Int)) % 4294967296=(d:Int):=by have:=Hd.out;omega
    have he:((cr:Int) + (x:Int) + (y:Int)) / 4294967296=(e:Int):=by have:=He.out;omega
    have hB':=hBk.set k (.int .u32 (d:Int));rw [ZW,hfl.out d Hd.out] at hB';have HB':=Jm hB';have c3:=hBk.cellv (i:=k) (ZQ (by simp;omega));have fz:=hBk.frozen k;clear hB' hBk
    go_wp2
    go_roundw
    case rel=>exact ⟨k + 1,by omega,by go_num,⟨e,rfl,by unfold Hid;rw [hst.out.1];exact He.out⟩,HB'.out,hO.setCell (p:=⟨w.heap.size,k,none⟩) (.inr<|Js _) _⟩
    case measure=>simp [intOf];omega
   ·have hkmI:(m:Int)≤(k:Int):=by omega
    rw [hy0 o9,Nat.add_zero] at hst hfl;clear hca hy0 hyl
    revert c1 hst hfl hxl
    generalize X / W32 ^ k % W32=x
    intro c1 hst hfl hxl
    have hxI:(x:Int) < 4294967296:=by omega
    subst hAe;obtain ⟨d,Hd⟩:∃ d:Nat,Hid (d=(cr + x) % 4294967296):=⟨_,rfl⟩;obtain ⟨e,He⟩:∃ e:Nat,Hid (e=(cr + x) / 4294967296):=⟨_,rfl⟩
    have hd:((cr:Int) + (x:Int)) % 4294967296=(d:Int):=by have:=Hd.out;omega
    have he:((cr:Int) + (x:Int)) / 4294967296=(e:Int):=by have:=He.out;omega
    have hB':=hBk.set k (.int .u32 (d:Int));rw [ZW,hfl.out d Hd.out] at hB';have HB':=Jm hB';have c3:=hBk.cellv (i:=k) (ZQ (by simp;omega));have fz:=hBk.frozen k;clear hB' hBk
    go_wp2
    go_roundw
    case rel=>exact ⟨k + 1,by omega,by go_num,⟨e,rfl,by unfold Hid;rw [hst.out.1];exact He.out⟩,HB'.out,hO.setCell (p:=⟨w.heap.size,k,none⟩) (.inr<|Js _) _⟩
    case measure=>simp [intOf];omega
  ·obtain rfl:k=n:=by omega
   have hB':=hBk.set k (.int .u32 (cr:Int))
   have hlx:Nm.len W32 X≤k:=by rw [hA.n_eq];exact Js _
   have hly:Nm.len W32 Y≤k:=by rw [← Hm.out];omega
   rw [ZW,hcr.out,Nm.sm_last d9 hlx hly,← hcr.out] at hB';have hlt':=Nm.sum_lt d9 hlx hly;have HB':=Jm hB';have Hlt':=Jm hlt';have c3:=hBk.cellv (i:=k) (ZQ s9);have fz:=hBk.frozen k
   have hkm:(k:Int)≤1000000:=by omega
   have hO':Only [] w (wr.setCell ⟨w.heap.size,k,none⟩<|.int .u32 (cr:Int)):=hO.setCell (p:=⟨w.heap.size,k,none⟩) (.inr<|Js _) _;clear hB' hBk hlt' hlx hly
   go_wp2_with (go_at_call 121;refine (qa _ _ (k + 1) (k + 1) (X + Y) (Js _) o9 Hlt'.out HB'.out.rv).mono ?_;rintro e w' ⟨m',rfl,rfl,hN⟩)
   go_ret
   exact ⟨_,_,_,I,hN,hO'⟩
theorem addNat_lt (w:World) (A B:Option Addr) (n c m d X Y:Nat) (hn:n≤999999) (hmn:m < n) (hA:NatS w A n c X) (hB:NatS w B m d Y):
  Calls Tryz.prog 138 #[.slice B m d,.slice A n c] w fun e w'=>∃ A' n' c',e= .returned (.slice A' n' c')∧NatS w' A' n' c' (X + Y)∧Only [] w w':=by
 have hmnI:(m:Int) < (n:Int):=by omega
 have Hm:=Jm hB.n_eq
 go_enter Tryz.func138,Tryz.ntmps138
 go_wp2_with (refine q8 rfl 204 _ _ rfl 209 (.int .u32 0) 4 Tryz.underlying204 zay rfl .i64 .i64 _ _ (n + 1) (n + 1) o9 o9 rfl rfl (Js _) o9 d9 ?_;intro w1 _ hB1 hO1)
 rw [qZ] at hB1
 go_loopw [6,7,21] (fun carry _ i wr=>∃ k:Nat,k≤n∧i= .int .i64 (k:Int)∧(∃ cr:Nat,carry= .int .u64 (cr:Int)∧Hid (cr=Nm.sm W32 X Y k / W32 ^ k))∧Blk wr w.heap.size 209 (cN .u32<|Nm.pad W32 (n + 1)<|Nm.sm W32 X Y k % W32 ^ k)∧Only [] w wr) (fun _ _ i _=>n - (intOf i).toNat)
 case atStart=>exact ⟨0,JC _,rfl,⟨0,rfl,by unfold Hid;rw [Nm.sm_zero];rfl⟩,by rw [Nm.sm_zero];exact hB1,hO1⟩
 case round=>
  clear hB1 hO1;obtain ⟨k,hk,rfl,⟨cr,rfl,hcr⟩,hBk,hO⟩:=hrel;have hcr1:=Nm.sm_carry (B:=W32) d9 X Y k;rw [← hcr.out] at hcr1
  have hcrI:(cr:Int)≤1:=by omega
  by_cases hlt:k < n
  ·have hltI:(k:Int) < (n:Int):=by omega
   have hkm:(k:Int)≤1000000:=by omega
   obtain ⟨ga,oa,hAe,hga,hca⟩:=(hA.keep hO).at o9;have c1:=hca k hlt;have hst:=Jm (Nm.sm_step (B:=W32) d9 X Y k);have hfl:=Jm (Nm.sm_fill (B:=W32) (n:=n + 1) d9 X Y k o9);rw [← hcr.out] at hst hfl;have hxl:X / W32 ^ k % W32 < 4294967296:=Nat.mod_lt _ d9;have hyl:Y / W32 ^ k % W32 < 4294967296:=Nat.mod_lt _ d9;have hy0:m≤k→Y / W32 ^ k % W32=0:=fun h=>Nm.high_zero d9 (by rw [← Hm.out];exact h)
   by_cases hkm2:k < m
   ·have hkmI:(k:Int) < (m:Int):=by omega
    obtain ⟨gb,ob,hBe,hgb,hcb⟩:=(hB.keep hO).at o9;have c2:=hcb k hkm2;clear hca hcb hy0
    revert c1 c2 hst hfl hxl hyl
    generalize X / W32 ^ k % W32=x
    generalize Y / W32 ^ k % W32=y
    intro c1 hst hfl hxl hyl c2
    have hxI:(x:Int) < 4294967296:=by omega
    have hyI:(y:Int) < 4294967296:=by omega
    subst hAe hBe;obtain ⟨d,Hd⟩:∃ d:Nat,Hid (d=(cr + (x + y)) % 4294967296):=⟨_,rfl⟩;obtain ⟨e,He⟩:∃ e:Nat,Hid (e=(cr + (x + y)) / 4294967296):=⟨_,rfl⟩
    have hd:((cr:Int) + (x:Int) + (y:Int)) % 4294967296=(d:Int):=by have:=Hd.out;omega
    have he:((cr:Int) + (x:Int) + (y:Int)) / 4294967296=(e:Int):=by have:=He.out;omega
    have hB':=hBk.set k (.int .u32 (d:Int));rw [ZW,hfl.out d Hd.out] at hB';have HB':=Jm hB';have c3:=hBk.cellv (i:=k) (ZQ (by simp;omega));have fz:=hBk.frozen k;clear hB' hBk
    go_wp2
    go_roundw
    case rel=>exact ⟨k + 1,by omega,by go_num,⟨e,rfl,by unfold Hid;rw [hst.out.1];exact He.out⟩,HB'.out,hO.setCell (p:=⟨w.heap.size,k,none⟩) (.inr<|Js _) _⟩
    case measure=>simp [intOf];omega
   ·have hkmI:(m:Int)≤(k:Int):=by omega
    rw [hy0 o9,Nat.add_zero] at hst hfl;clear hca hy0 hyl
    revert c1 hst hfl hxl
    generalize X / W32 ^ k % W32=x
    intro c1 hst hfl hxl
    have hxI:(x:Int) < 4294967296:=by omega
    subst hAe;obtain ⟨d,Hd⟩:∃ d:Nat,Hid (d=(cr + x) % 4294967296):=⟨_,rfl⟩;obtain ⟨e,He⟩:∃ e:Nat,Hid (e=(cr + x) / 4294967296):=⟨_,rfl⟩
    have hd:((cr:Int) + (x:Int)) % 4294967296=(d:Int):=by have:=Hd.out;omega
    have he:((cr:Int) + (x:Int)) / 4294967296=(e:Int):=by have:=He.out;omega
    have hB':=hBk.set k (.int .u32 (d:Int));rw [ZW,hfl.out d Hd.out] at hB';have HB':=Jm hB';have c3:=hBk.cellv (i:=k) (ZQ (by simp;omega));have fz:=hBk.frozen k;clear hB' hBk
    go_wp2
    go_roundw
    case rel=>exact ⟨k + 1,by omega,by go_num,⟨e,rfl,by unfold Hid;rw [hst.out.1];exact He.out⟩,HB'.out,hO.setCell (p:=⟨w.heap.size,k,none⟩) (.inr<|Js _) _⟩
    case measure=>simp [intOf];omega
  ·obtain rfl:k=n:=by omega
   have hB':=hBk.set k (.int .u32 (cr:Int))
   have hlx:Nm.len W32 X≤k:=by rw [hA.n_eq];exact Js _
   have hly:Nm.len W32 Y≤k:=by rw [← Hm.out];omega
   rw [ZW,hcr.out,Nm.sm_last d9 hlx hly,← hcr.out] at hB';have hlt':=Nm.sum_lt d9 hlx hly;have HB':=Jm hB';have Hlt':=Jm hlt';have c3:=hBk.cellv (i:=k) (ZQ s9);have fz:=hBk.frozen k
   have hkm:(k:Int)≤1000000:=by omega
   have hO':Only [] w (wr.setCell ⟨w.heap.size,k,none⟩<|.int .u32 (cr:Int)):=hO.setCell (p:=⟨w.heap.size,k,none⟩) (.inr<|Js _) _;clear hB' hBk hlt' hlx hly
   go_wp2_with (go_at_call 121;refine (qa _ _ (k + 1) (k + 1) (X + Y) (Js _) o9 Hlt'.out HB'.out.rv).mono ?_;rintro e w' ⟨m',rfl,rfl,hN⟩)
   go_ret
   exact ⟨_,_,_,I,hN,hO'⟩
theorem Vj (w:World) (A B:Option Addr) (n c m d X Y:Nat) (hn:n≤999999) (hm:m≤999999) (hA:NatS w A n c X) (hB:NatS w B m d Y):
  Calls Tryz.prog 138 #[.slice A n c,.slice B m d] w fun e w'=>∃ A' n' c',e= .returned (.slice A' n' c')∧NatS w' A' n' c' (X + Y)∧Only [] w w':=by
 by_cases h:m≤n
 ·exact addNat_ge w A B n c m d X Y hn h hA hB
 ·rw [Nat.add_comm];exact addNat_lt w B A m d n c Y X hm o9 hB hA
theorem zbd {z:Int} (h1: -18446744073709551616≤z) (h2:z < 0):IntKind.u64.wrap z=z + 18446744073709551616:=by
 simp [IntKind.wrap,IntKind.signed,IntKind.bits];omega
theorem jP (w:World) (A B:Option Addr) (n c m d X Y:Nat) (hn:n≤999999) (hA:NatS w A n c X) (hB:NatS w B m d Y) (hXY:Y≤X):
  Calls Tryz.prog 139 #[.slice A n c,.slice B m d] w fun e w'=>∃ A' n' c',e= .returned (.slice A' n' c')∧NatS w' A' n' c' (X - Y)∧Only [] w w':=by
 have Hm:=Jm hB.n_eq
 have hmn:m≤n:=by rw [hA.n_eq,hB.n_eq];exact Nm.len_mono d9 hXY
 go_enter Tryz.func139,Tryz.ntmps139
 go_wp2_with (refine q8 rfl 204 _ _ rfl 209 (.int .u32 0) 4 Tryz.underlying204 zay rfl .i64 .i64 _ _ n n o9 o9 rfl rfl (Js _) o9 d9 ?_;intro w1 _ hB1 hO1)
 rw [qZ] at hB1
 go_loopw [6,7,8,14] (fun borrow _ _ i wr=>∃ k:Nat,k≤n∧i= .int .i64 (k:Int)∧(∃ b:Nat,borrow= .int .u64 (b:Int)∧Hid (b=Nm.bw W32 X Y k))∧Blk wr w.heap.size 209 (cN .u32<|Nm.pad W32 n<|Nm.df W32 X Y k)∧Only [] w wr) (fun _ _ _ i _=>n - (intOf i).toNat)
 case atStart=>exact ⟨0,JC _,rfl,⟨0,rfl,by unfold Hid;rw [Nm.bw_zero]⟩,by rw [Nm.df_zero];exact hB1,hO1⟩
 case round=>
  clear hB1 hO1;obtain ⟨k,hk,rfl,⟨b,rfl,hb⟩,hBk,hO⟩:=hrel;have hb1:=Nm.bw_le W32 X Y k;rw [← hb.out] at hb1
  have hbI:(b:Int)≤1:=by omega
  by_cases hlt:k < n
  ·have hltI:(k:Int) < (n:Int):=by omega
   have hkm:(k:Int)≤1000000:=by omega
   obtain ⟨ga,oa,hAe,hga,hca⟩:=(hA.keep hO).at o9;have c1:=hca k hlt;have hst:=Jm (Nm.df_step (B:=W32) d9 X Y k).1;have hfl:=Jm (Nm.df_fill (B:=W32) (n:=n) d9 X Y k hlt);rw [← hb.out] at hst hfl;obtain ⟨b',hb'⟩:∃ b',Hid (b'=Nm.bw W32 X Y (k + 1)):=⟨_,rfl⟩;rw [← hb'.out] at hst hfl;have hxl:X / W32 ^ k % W32 < 4294967296:=Nat.mod_lt _ d9;have hyl:Y / W32 ^ k % W32 < 4294967296:=Nat.mod_lt _ d9;have hy0:m≤k→Y / W32 ^ k % W32=0:=fun h=>Nm.high_zero d9 (by rw [← Hm.out];exact h)
   by_cases hkm2:k < m
   ·have hkmI:(k:Int) < (m:Int):=by omega
    obtain ⟨gb,ob,hBe,hgb,hcb⟩:=(hB.keep hO).at o9;have c2:=hcb k hkm2;clear hca hcb hy0
    generalize X / W32 ^ k % W32=x at c1 hst hfl hxl
    generalize Y / W32 ^ k % W32=y at c2 hst hfl hyl
    have hxI:(x:Int) < 4294967296:=by omega
    have hyI:(y:Int) < 4294967296:=by omega
    subst hAe hBe
    by_cases hneg:x < y + b
    ·obtain rfl:b'=1:=by rw [hst.out,Jh hneg]
     obtain ⟨dd,Hd⟩:∃ d:Nat,Hid (d=x + 4294967296 - y - b):=⟨_,rfl⟩
     have hnegI:(x:Int) - (b:Int) - (y:Int) < 0:=by omega
     by_cases hxb:x < b
     ·obtain rfl:x=0:=by omega
      obtain rfl:b=1:=by omega
      have hw0:IntKind.u64.wrap (-1)=18446744073709551615:=by decide +kernel
      have hw1:(18446744073709551615 - (y:Int)) % 4294967296=(dd:Int):=by have:=Hd.out;omega
      have hw2:(18446744073709551615 - (y:Int)) / 9223372036854775808=1:=by omega
      have hB':=hBk.set k (.int .u32 (dd:Int));rw [ZW,hfl.out dd (by rw [Hd.out];rfl)] at hB';have HB':=Jm hB';have c3:=hBk.cellv (i:=k) (ZQ (by simp;omega));have fz:=hBk.frozen k;clear hB' hBk
      go_wp2
      go_roundw
      case rel=>exact ⟨k + 1,by omega,by go_num,⟨1,rfl,hb'⟩,HB'.out,hO.setCell (p:=⟨w.heap.size,k,none⟩) (.inr<|Js _) _⟩
      case measure=>simp [intOf];omega
     ·have hxbI:(b:Int)≤(x:Int):=by omega
      obtain ⟨v,hv⟩:∃ v:Nat,Hid ((v:Int)=(x:Int) - (b:Int) - (y:Int) + 18446744073709551616):=⟨((x:Int) - (b:Int) - (y:Int) + 18446744073709551616).toNat,by unfold Hid;omega⟩
      have hw0:IntKind.u64.wrap ((x:Int) - (b:Int) - (y:Int))=(v:Int):=by rw [zbd o9 hnegI,hv.out]
      have hw1:(v:Int) % 4294967296=(dd:Int):=by have:=hv.out;have:=Hd.out;omega
      have hw2:(v:Int) / 9223372036854775808=1:=by have:=hv.out;omega
      have hB':=hBk.set k (.int .u32 (dd:Int));rw [ZW,hfl.out dd (by rw [Hd.out];rfl)] at hB';have HB':=Jm hB';have c3:=hBk.cellv (i:=k) (ZQ (by simp;omega));have fz:=hBk.frozen k;clear hB' hBk
      go_wp2
      go_roundw
      case rel=>exact ⟨k + 1,by omega,by go_num,⟨1,rfl,hb'⟩,HB'.out,hO.setCell (p:=⟨w.heap.size,k,none⟩) (.inr<|Js _) _⟩
      case measure=>simp [intOf];omega
    ·obtain rfl:b'=0:=by rw [hst.out,Jb hneg]
     have hnegI:0≤(x:Int) - (b:Int) - (y:Int):=by omega
     obtain ⟨dd,Hd⟩:∃ d:Nat,Hid (d=x - y - b):=⟨_,rfl⟩
     have hd0:(x:Int) - (b:Int) - (y:Int)=(dd:Int):=by have:=Hd.out;omega
     have hd1:(dd:Int) < 4294967296:=by omega
     have hw2:(dd:Int) / 9223372036854775808=0:=by omega
     have hB':=hBk.set k (.int .u32 (dd:Int));rw [ZW,hfl.out dd (by rw [Hd.out];simp)] at hB';have HB':=Jm hB';have c3:=hBk.cellv (i:=k) (ZQ (by simp;omega));have fz:=hBk.frozen k;clear hB' hBk
     go_wp2
     go_roundw
     case rel=>exact ⟨k + 1,by omega,by go_num,⟨0,rfl,hb'⟩,HB'.out,hO.setCell (p:=⟨w.heap.size,k,none⟩) (.inr<|Js _) _⟩
     case measure=>simp [intOf];omega
   ·have hkmI:(m:Int)≤(k:Int):=by omega
    rw [hy0 o9] at hst hfl;clear hca hy0 hyl
    generalize X / W32 ^ k % W32=x at c1 hst hfl hxl
    have hxI:(x:Int) < 4294967296:=by omega
    subst hAe
    by_cases hneg:x < b
    ·obtain rfl:b'=1:=by rw [hst.out,Jh o9]
     obtain rfl:x=0:=by omega
     obtain rfl:b=1:=by omega
     have hw0:IntKind.u64.wrap (-1)=18446744073709551615:=by decide +kernel
     have hB':=hBk.set k (.int .u32 ((4294967295:Nat):Int));rw [ZW,hfl.out 4294967295 rfl] at hB';have HB':=Jm hB';have c3:=hBk.cellv (i:=k) (ZQ (by simp;omega));have fz:=hBk.frozen k;clear hB' hBk
     go_wp2
     go_roundw
     case rel=>exact ⟨k + 1,by omega,by go_num,⟨1,rfl,hb'⟩,HB'.out,hO.setCell (p:=⟨w.heap.size,k,none⟩) (.inr<|Js _) _⟩
     case measure=>simp [intOf];omega
    ·obtain rfl:b'=0:=by rw [hst.out,Jb o9]
     have hnegI:0≤(x:Int) - (b:Int):=by omega
     obtain ⟨dd,Hd⟩:∃ d:Nat,Hid (d=x - b):=⟨_,rfl⟩
     have hd0:(x:Int) - (b:Int)=(dd:Int):=by have:=Hd.out;omega
     have hd1:(dd:Int) < 4294967296:=by omega
     have hw2:(dd:Int) / 9223372036854775808=0:=by omega
     have hB':=hBk.set k (.int .u32 (dd:Int));rw [ZW,hfl.out dd (by rw [Hd.out];simp)] at hB';have HB':=Jm hB';have c3:=hBk.cellv (i:=k) (ZQ (by simp;omega));have fz:=hBk.frozen k;clear hB' hBk
     go_wp2
     go_roundw
     case rel=>exact ⟨k + 1,by omega,by go_num,⟨0,rfl,hb'⟩,HB'.out,hO.setCell (p:=⟨w.heap.size,k,none⟩) (.inr<|Js _) _⟩
     case measure=>simp [intOf];omega
  ·obtain rfl:k=n:=by omega
   have hlx:Nm.len W32 X≤k:=by rw [hA.n_eq];exact Js _
   rw [Nm.df_all d9 hlx hXY] at hBk;have Hlt:=Jm (Nat.lt_of_le_of_lt (Nat.sub_le X Y) hA.lt)
   have hkm:(k:Int)≤1000000:=by omega
   clear hlx
   go_wp2_with (go_at_call 121;refine (qa _ _ k k (X - Y) (Js _) o9 Hlt.out hBk.rv).mono ?_;rintro e w' ⟨m',rfl,rfl,hN⟩)
   go_ret
   exact ⟨_,_,_,I,hN,hO⟩
theorem mul32_le {x y:Nat} (hx:x < 4294967296) (hy:y < 4294967296):x * y≤18446744065119617025:=by
 have:x * y≤4294967295 * 4294967295:=Xx o9 o9;omega
theorem zeQ (w:World) (A B:Option Addr) (n c m d X Y:Nat) (hn:n≤400000) (hm:m≤400000) (hA:NatS w A n c X) (hB:NatS w B m d Y):
  Calls Tryz.prog 186 #[.slice A n c,.slice B m d] w fun e w'=>∃ A' n' c',e= .returned (.slice A' n' c')∧NatS w' A' n' c' (X * Y)∧Only [] w w':=by
 have Hm:=Jm hB.n_eq;have Hn:=Jm hA.n_eq;obtain ⟨nm,hnm⟩:∃ nm,nm=n + m:=⟨_,rfl⟩
 have hnmI:(n:Int) + (m:Int)=(nm:Int):=by omega
 have Hnm:=Jm hnm
 have hnm1:nm≤800000:=by omega
 clear hnm
 go_enter Tryz.func186,Tryz.ntmps186
 go_wp2_with (refine q8 rfl 204 _ _ rfl 209 (.int .u32 0) 4 Tryz.underlying204 zay rfl .i64 .i64 _ _ nm nm o9 o9 rfl rfl (Js _) o9 d9 ?_;intro w1 _ hB1 hO1)
 rw [qZ] at hB1
 go_loopw [19] (fun i wr=>∃ k:Nat,k≤n∧i= .int .i64 (k:Int)∧Blk wr w.heap.size 209 (cN .u32<|Nm.pad W32 nm<|X % W32 ^ k * Y)∧Only [] w wr) (fun i _=>n - (intOf i).toNat)
 case atStart=>exact ⟨0,JC _,rfl,by rw [Nat.pow_zero,Nat.mod_one,Nat.zero_mul];exact hB1,hO1⟩
 case round=>
  clear hB1 hO1;obtain ⟨k,hk,rfl,hBk,hO⟩:=hrel
  by_cases hlt:k < n
  ·have hltI:(k:Int) < (n:Int):=by omega
   have hkm:(k:Int)≤400000:=by omega
   obtain ⟨ga,oa,hAe,hga,hca⟩:=(hA.keep hO).at o9;have c1:=hca k hlt;clear hca;have hxl:X / W32 ^ k % W32 < 4294967296:=Nat.mod_lt _ d9;obtain ⟨x,Hx⟩:∃ x,Hid (x=X / W32 ^ k % W32):=⟨_,rfl⟩;rw [← Hx.out] at c1 hxl;obtain ⟨P,HP⟩:∃ P,Hid (P=X % W32 ^ k * Y):=⟨_,rfl⟩;rw [← HP.out] at hBk
   have hxI:(x:Int) < 4294967296:=by omega
   subst hAe
   go_wp2
   go_loopw [8,26] (fun carry j wr=>∃ q:Nat,q≤m∧j= .int .i64 (q:Int)∧(∃ cr:Nat,carry= .int .u64 (cr:Int)∧Hid (cr=Nm.mT W32 P x Y k q / W32 ^ (k + q)))∧Blk wr w.heap.size 209 (cN .u32<|Nm.pad W32 nm<|Nm.mA W32 P x Y k q)∧Only [] w wr) (fun _ j _=>m - (intOf j).toNat)
   case atStart=>exact ⟨0,JC _,rfl,⟨0,rfl,by unfold Hid;rw [Nm.mT_zero,Nat.add_zero,Nat.div_eq_of_lt<|Nat.mod_lt _<|Nat.pow_pos d9]⟩,by rw [Nm.mA_zero];exact hBk,hO⟩
   case round=>
    clear hBk hO;obtain ⟨q,hq,rfl,⟨cr,rfl,hcr⟩,hBq,hO⟩:=hrel;have hcr1:=Nm.mT_carry (B:=W32) d9 P Y k q hxl;rw [← hcr.out] at hcr1;have hcr1:cr < 4294967296:=hcr1
    have hcrI:(cr:Int) < 4294967296:=by omega
    by_cases hqm:q < m
    ·have hqI:(q:Int) < (m:Int):=by omega
     have hqm1:(q:Int)≤400000:=by omega
     have hkq:k + q < nm:=by rw [Hnm.out];omega
     have hkqI:(k:Int) + (q:Int) < (nm:Int):=by omega
     obtain ⟨gb,ob,hBe,hgb,hcb⟩:=(hB.keep hO).at o9;have c2:=hcb q hqm;clear hcb;have c3:=hBq.cellv (i:=k + q) (ZQ (by simpa using hkq));rw [Nm.pad_getD _ _ _ _ hkq,Nm.mA_at d9] at c3;have hst:=Jm (Nm.mT_step (B:=W32) d9 P x Y k q).1;have hfl:=Jm (Nm.mA_fill (B:=W32) (n:=nm) d9 P x Y k q hkq);rw [← hcr.out] at hst hfl;have hyl:Y / W32 ^ q % W32 < 4294967296:=Nat.mod_lt _ d9;have hol:P / W32 ^ (k + q) % W32 < 4294967296:=Nat.mod_lt _ d9
     generalize Y / W32 ^ q % W32=y at c2 hst hfl hyl
     generalize P / W32 ^ (k + q) % W32=o at c3 hst hfl hol
     have hp1:=mul32_le hxl hyl;obtain ⟨p,Hp⟩:∃ p,Hid (p=x * y):=⟨_,rfl⟩;rw [← Hp.out] at hp1 hst hfl
     have hpI:(x:Int) * (y:Int)=(p:Int):=by rw [Hp.out,Int.natCast_mul]
     have hp1I:(p:Int)≤18446744065119617025:=by omega
     have hoI:(o:Int) < 4294967296:=by omega
     subst hBe;obtain ⟨dd,Hd⟩:∃ d:Nat,Hid (d=(cr + (o + p)) % 4294967296):=⟨_,rfl⟩;obtain ⟨e,He⟩:∃ e:Nat,Hid (e=(cr + (o + p)) / 4294967296):=⟨_,rfl⟩
     have hd:((cr:Int) + ((p:Int) + (o:Int))) % 4294967296=(dd:Int):=by have:=Hd.out;omega
     have he:((cr:Int) + ((p:Int) + (o:Int))) / 4294967296=(e:Int):=by have:=He.out;omega
     have hB':=hBq.set (k + q) (.int .u32 (dd:Int));rw [ZW,hfl.out dd Hd.out] at hB';have HB':=Jm hB';have fz:=hBq.frozen (k + q);clear hB' hBq
     go_wp2
     go_roundw
     case rel=>exact ⟨q + 1,by omega,by go_num,⟨e,rfl,by unfold Hid;rw [← J9,hst.out];exact He.out⟩,HB'.out,hO.setCell (p:=⟨w.heap.size,k + q,none⟩) (.inr<|Js _) _⟩
     case measure=>simp [intOf];omega
    ·obtain rfl:q=m:=by omega
     have hkq:k + q < nm:=by rw [Hnm.out];omega
     have hkqI:(k:Int) + (q:Int) < (nm:Int):=by omega
     have hB':=hBq.set (k + q) (.int .u32 (cr:Int));rw [ZW,hcr.out,HP.out,Hx.out,Nm.mA_last d9 X Y k q (by rw [Hm.out];exact Js _) hkq,← Hx.out,← HP.out,← hcr.out] at hB';have HB':=Jm hB';have c3:=hBq.cellv (i:=k + q) (ZQ (by simpa using hkq));have fz:=hBq.frozen (k + q)
     have hqm1:(q:Int)≤400000:=by omega
     clear hB' hBq
     go_wp2
     go_roundw
     case rel=>exact ⟨k + 1,by omega,by go_num,HB'.out,hO.setCell (p:=⟨w.heap.size,k + q,none⟩) (.inr<|Js _) _⟩
     case measure=>simp [intOf];omega
  ·obtain rfl:k=n:=by omega
   have hX:=hA.lt;rw [Nat.mod_eq_of_lt hX] at hBk;have Hlt:=Jm (Nm.mul_lt (B:=W32) (X:=X) (Y:=Y) d9);rw [← Hn.out,← Hm.out,← Hnm.out] at Hlt;clear hX
   go_wp2_with (go_at_call 121;refine (qa _ _ nm nm (X * Y) (Js _) o9 Hlt.out hBk.rv).mono ?_;rintro e w' ⟨m',rfl,rfl,hN⟩)
   go_ret
   exact ⟨_,_,_,I,hN,hO⟩
theorem or64 (r x:Nat) (hr:r < 4294967296) (hx:x < 4294967296):bits .or .u64 ((r:Int) * 4294967296) (x:Int)=((r * 4294967296 + x:Nat):Int):=by
 have h:=u64_or_nat (r * 4294967296) x o9 o9
 have e:r * 4294967296 ||| x=r * 4294967296 + x:=by
  have:=Nat.two_pow_add_eq_or_of_lt (i:=32) (b:=x) o9 r;rw [Nat.mul_comm r];exact this.symm
 rw [e] at h;rw [← h];simp
theorem zcb (w:World) (A:Option Addr) (n c X d:Nat) (hn:n≤999999) (hd:0 < d) (hd2:d < 4294967296) (hA:NatS w A n c X):
  Calls Tryz.prog 158 #[.slice A n c,.int .u32 (d:Int)] w fun e w'=>∃ A' n' c' r,e= .returned (.tuple #[.slice A' n' c',.int .u32 (r:Nat)])∧NatS w' A' n' c' (X / d)∧Hid (r=X % d)∧Only [] w w'∧(∀ p,A'=some p→p.block=w.heap.size):=by
 have hdI:0 < (d:Int):=by omega
 have hd2I:(d:Int) < 4294967296:=by omega
 have hd0:((d:Int) == 0)=false:=Xb.2 o9
 go_enter Tryz.func158,Tryz.ntmps158
 go_wp2_with (refine q8 rfl 204 _ _ rfl 209 (.int .u32 0) 4 Tryz.underlying204 zay rfl .i64 .i64 _ _ n n o9 o9 rfl rfl (Js _) o9 d9 ?_;intro w1 _ hB1 hO1)
 rw [qZ] at hB1;have Htop:=Jm (Nm.ds_top (B:=W32) (X:=X) (n:=n) d9 (by rw [hA.n_eq];exact Js _))
 go_loopw [7,8] (fun rv i wr=>∃ k:Nat,k≤n∧(∃ z:Int,z=(k:Int) - 1∧i= .int .i64 z)∧(∃ r:Nat,rv= .int .u64 (r:Int)∧Hid (r=X / W32 ^ k % d))∧Blk wr w.heap.size 209 (cN .u32<|Nm.pad W32 n<|X / W32 ^ k / d * W32 ^ k)∧Only [] w wr) (fun _ i _=>(intOf i + 1).toNat)
 case atStart=>exact ⟨n,Js _,⟨_,rfl,by go_num⟩,⟨0,rfl,by unfold Hid;rw [Htop.out,Nat.zero_mod]⟩,by rw [Htop.out,Nat.zero_div,Nat.zero_mul];exact hB1,hO1⟩
 case round=>
  clear hB1 hO1;obtain ⟨k,hk,⟨z,hz,rfl⟩,⟨r,rfl,hr⟩,hBk,hO⟩:=hrel
  have hrd:r < d:=by rw [hr.out];exact Nat.mod_lt _ hd
  have hrI:(r:Int) < 4294967296:=by omega
  rcases (show k=0∨∃ j,k=j + 1 from by cases k;exact .inl rfl;exact .inr ⟨_,rfl⟩) with rfl | ⟨j,rfl⟩
  ·obtain rfl:z= -1:=by omega
   clear hz;rw [Nat.pow_zero,Nat.div_one,Nat.mul_one] at hBk;have Hlt:=Jm (Nat.lt_of_le_of_lt (Nat.div_le_self X d) hA.lt)
   have hr':Hid (r=X % d):=by unfold Hid;rw [hr.out,Nat.pow_zero,Nat.div_one]
   go_wp2_with (go_at_call 121;refine (qa _ _ n n (X / d) (Js _) o9 Hlt.out hBk.rv).mono ?_;rintro e w' ⟨m',rfl,rfl,hN⟩)
   go_ret2
   exact ⟨_,_,_,r,I,hN,hr',hO,fun p hp=>by injection hp with hp;subst hp;rfl⟩
  ·obtain rfl:z=(j:Int):=by omega
   clear hz
   have hjn:(j:Int) < (n:Int):=by omega
   have hjm:(j:Int)≤1000000:=by omega
   obtain ⟨ga,oa,hAe,hga,hca⟩:=(hA.keep hO).at o9;have c1:=hca j o9;clear hca;have hst:=Jm (Nm.ds_step (B:=W32) hd X j);have hfl:=Jm (Nm.ds_fill (B:=W32) (n:=n) d9 hd X j o9);have hql:=Nm.ds_lt (B:=W32) d9 hd X j;rw [← hr.out] at hst hfl hql;have hxl:X / W32 ^ j % W32 < 4294967296:=Nat.mod_lt _ d9
   generalize X / W32 ^ j % W32=x at c1 hst hfl hql hxl
   have hor:=or64 r x o9 hxl;obtain ⟨v,Hv⟩:∃ v,Hid (v=r * 4294967296 + x):=⟨_,rfl⟩;have hv0:v=r * W32 + x:=Hv.out;rw [← Hv.out] at hor;rw [← hv0] at hst hfl hql;clear hv0
   have hv1:(v:Int) < 18446744073709551616:=by have:=Hv.out;omega
   have hxI:(x:Int) < 4294967296:=by omega
   obtain ⟨q,Hq⟩:∃ q,Hid (q=v / d):=⟨_,rfl⟩;obtain ⟨s,Hs⟩:∃ s,Hid (s=v % d):=⟨_,rfl⟩
   have hqI:(v:Int) / (d:Int)=(q:Int):=by rw [Hq.out];simp
   have hsI:(v:Int) % (d:Int)=(s:Int):=by rw [Hs.out];simp
   rw [← Hq.out] at hql
   have hq1:(q:Int) < 4294967296:=by have:q < 4294967296:=hql;omega
   have hB':=hBk.set j (.int .u32 (q:Int));rw [ZW,hfl.out q Hq.out] at hB';have HB':=Jm hB';have c3:=hBk.cellv (i:=j) (ZQ (by simp;omega));have fz:=hBk.frozen j;subst hAe;clear hB' hBk hql
   go_wp2
   go_roundw
   case rel=>exact ⟨j,by omega,⟨_,rfl,by go_num⟩,⟨s,by rw [hsI],by unfold Hid;rw [hst.out.2];exact Hs.out⟩,HB'.out,hO.setCell (p:=⟨w.heap.size,j,none⟩) (.inr<|Js _) _⟩
   case measure=>simp [intOf]

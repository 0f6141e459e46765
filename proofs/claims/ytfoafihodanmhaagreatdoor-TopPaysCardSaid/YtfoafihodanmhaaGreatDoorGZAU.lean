/- THE WALKS of number's shiftLeft, shiftRight. THE WALK of number's quotientWord. THE WALK of number's divNat, for a divisor of two words or more. -/
import Derived.Test.YtfoafihodanmhaaGreatDoorGZAT
import Derived.Lib.ItoaNum
set_option maxHeartbeats 8000000
set_option maxRecDepth 100000
namespace Go.Proofs.YtfoafihodanmhaaGreatDoor
open Go.RowKit
open Nm (W32)
namespace Sx
theorem zcY {X j:Nat} {i:Int} (hi:i=(j:Int)) (hj:j < (cN .u32<|Nm.dg W32 X).length):(cN .u32<|Nm.dg W32 X)[i.toNat]? =some (.int .u32 ((X / W32 ^ j % W32:Nat):Int)):=by
 subst hi;rw [J7,ZQ (by simpa using hj),Nm.dg_getD d9]
theorem own_atw {n A o j:Nat} (ho:o=j) (hj:j < n):((cN .u32<|Nm.pad W32 n A).map isD)[o]? =some (isD<|.int .u32 ((A / W32 ^ j % W32:Nat):Int)):=by
 subst ho;rw [JJ,ZQ (by simpa using hj),Nm.pad_getD _ _ _ _ hj]
 rfl
theorem Va {n A j:Nat} {i:Int} (hi:i=(j:Int)) (hj:j < n):(cN .u32<|Nm.pad W32 n A)[i.toNat]? =some (.int .u32 ((A / W32 ^ j % W32:Nat):Int)):=by
 subst hi;rw [J7,ZQ (by simpa using hj),Nm.pad_getD _ _ _ _ hj]
theorem zfE (A j:Nat):A / W32 ^ j % W32 < 4294967296:=Nat.mod_lt _ d9
theorem st_pow {s:Nat} (hs:s < 32):2 ^ s * 2 ^ (32 - s)=W32:=by rw [← Nat.pow_add,show s + (32 - s)=32 by omega]
theorem pow32 {s:Nat} (hs:s < 32):2 ^ s≤2147483648:=JG (Nat.pow_le_pow_right d9 (show s≤31 by omega)) d9
theorem shl64 {x s:Nat} (hx:x < 4294967296) (hs:s≤32):IntKind.u64.wrap ((x:Int) * 2 ^ (min s IntKind.u64.bits))=((x * 2 ^ s:Nat):Int):=by
 have h1:min s IntKind.u64.bits=s:=XA (JG hs d9);have h2:2 ^ s≤4294967296:=JG (Nat.pow_le_pow_right d9 hs) d9;have h3:x * 2 ^ s≤4294967295 * 4294967296:=Xx o9 h2
 have e:(x:Int) * 2 ^ s=((x * 2 ^ s:Nat):Int):=by simp
 rw [h1,e];exact Y8 o9 o9
theorem lo32 (v:Nat):IntKind.u32.wrap (v:Int)=((v % 4294967296:Nat):Int):=by rw [wrap_u32];simp
theorem hi64 (v:Nat):(v:Int) / 2 ^ (min 32 IntKind.u64.bits)=((v / 4294967296:Nat):Int):=by
 have:min 32 IntKind.u64.bits=32:=rfl;rw [this];simp
theorem or_low {a lo s:Nat} (ha:a < 2 ^ s) (hl:lo % 2 ^ s=0) (hlt:a + lo < W32):bits .or .u32 (a:Int) (lo:Int)=((a + lo:Nat):Int):=by
 have hlt':a + lo < 4294967296:=hlt;rw [u32_or_nat a lo o9 o9];congr 1;obtain ⟨c,hc⟩:∃ c,lo=2 ^ s * c:=⟨lo / 2 ^ s,by have:=Nat.div_add_mod lo (2 ^ s);omega⟩;have:=Nat.two_pow_add_eq_or_of_lt ha c;rw [hc,Nat.or_comm,Nat.add_comm];exact this.symm
theorem own_set2 {n A C j k d e:Nat} {o p:Nat} {u v:Int} (ho:o=j) (hp:p=k) (hu:u=(d:Int)) (hv:v=(e:Int)) (hm:((Nm.pad W32 n A).set j d).set k e=Nm.pad W32 n C):
  (((cN .u32<|Nm.pad W32 n A).map isD).set o<|isD<|.int .u32 u).set p (isD<|.int .u32 v)=(cN .u32<|Nm.pad W32 n C).map isD:=by
 subst ho hp hu hv;rw [← hm,← List.map_set,ZW,← List.map_set,ZW]
theorem con_shl {X s:Nat} (hX:X < W32 ^ 100) (hs:s < 32):ConO Tryz.prog 160 [jz X,ZK (s:Int)] ((cN .u32<|Nm.dg W32 X).length + 1) ((cN .u32<|Nm.pad W32 ((cN .u32<|Nm.dg W32 X).length + 1)<|X * 2 ^ s).map isD):=by
 have hn:(cN .u32<|Nm.dg W32 X).length=Nm.len W32 X:=by rw [Zh,Nm.dg_length]
 have hn1:(cN .u32<|Nm.dg W32 X).length≤100:=by rw [hn];exact (Nm.len_le (B:=W32) d9 100 _).2 hX
 have hXn:X < W32 ^ (cN .u32<|Nm.dg W32 X).length:=by rw [hn];exact Nm.lt_pow_len d9 X
 refine con_ofO Tryz.func160 k9 I k9 fun base w0=>(zn<|zf I<|zN<|zd I<|za I (Rd.len (e:=209) I k9)<|za I (Rd.add I I ⟨by omega,by omega⟩) (SWl.e2 (S:=[]) (zdC (e:=209) (z:= .int .u32 0) (n:=(cN .u32<|Nm.dg W32 X).length + 1) 4 I I k9 k9 I o9 o9 o9 d9 I) fun g12=>(zf I<|ze<|zh<|zn<|zd I<|za I (Rd.len (e:=209) I k9)<|zd I<|ze<|SW.block<|yd (ι:={k:Nat // k≤(cN .u32<|Nm.dg W32 X).length}) (fun ⟨k,hk⟩=>St.of [(1,ZK (s:Int)),(5,isD<|.slice (some ⟨g12,0,none⟩) ((cN .u32<|Nm.dg W32 X).length + 1)<|(cN .u32<|Nm.dg W32 X).length + 1),(13,jz X),(14,ZK ((cN .u32<|Nm.dg W32 X).length:Int)),(15,ZK (k:Int))] [(g12,(cN .u32<|Nm.pad W32 ((cN .u32<|Nm.dg W32 X).length + 1)<|X % W32 ^ k * 2 ^ s).map isD)]) (fun ⟨k,hk⟩=>(cN .u32<|Nm.dg W32 X).length - k) (⟨0,JC _⟩) ?_ ?_)))
 ·exact ⟨⟨_,I,(sT I)⟩,[0],by decide,⟨⟨_,rfl,zfJ (by rw [Nat.pow_zero,Nat.mod_one,Nat.zero_mul,qZ])⟩,trivial⟩⟩
 ·rintro ⟨k,hk⟩ K0 hK0;refine zn (za I (yc I I)<|ze<|zh<|zC I (fun hb16=> ?_) (fun hb16=> ?_))
  ·have hlt:k < (cN .u32<|Nm.dg W32 X).length:=(by have:=oT hb16;omega);have hx:=zfE X k;have hstep:=Nm.shl_step (n:=(cN .u32<|Nm.dg W32 X).length + 1) (X:=X) (i:=k) (st_pow hs) (Nat.pow_pos d9) o9 rfl rfl;have hhi:X / W32 ^ k % W32 * 2 ^ s / 4294967296 < 4294967296:=Nat.div_lt_of_lt_mul (Nat.mul_lt_mul_of_lt_of_le hx (JG (pow32 hs) d9) d9);refine zq (zj<|zh<|SW.block<|zn<|zd I<|za I (KW (e:=209) I I k9 k9 o9<|zcY (j:=k) I hlt)<|za I (qd I k9 s9)<|zf I<|zf I<|zN<|zd I<|za I (ZZ .u32 I k9 k9<|Y8 o9 o9)<|zd I<|za I (jK (s:=s) I I<|shl64 hx o9)<|zf I<|zN<|zd I<|zd I<|za I (Ya (e:=209) I I k9 k9 o9 o9)<|za I (qe 0 I I (own_atw (j:=k) o9 o9) k9 zm)<|zd I<|za I (ZZ .u64 I k9 k9<|lo32 _)<|za I (zcI I I<|or_low hstep.2.1 hstep.2.2.1 hstep.2.2.2)<|za I (Ya (e:=209) I I k9 k9 o9 o9)<|zu (S:=[_]) (ZG 0 I I I k9 (by simp at hlt ⊢;omega)<|m9 I)<|ze<|zi<|zd I<|zd I<|za I (Rd.add I I ⟨by omega,by omega⟩)<|zd I ?_);exact za I (jJ (s:=32) I I<|hi64 _) (za I (ZZ .u64 I k9 k9 (by rw [lo32,Nat.mod_eq_of_lt hhi]))<|za I (Ya (e:=209) I I k9 k9 o9 o9)<|zu (S:=[_]) (ZG 0 I I I k9 (by simp at hlt ⊢;omega)<|m9 I)<|zF<|SN.block<|zj<|zi<|za I (Rd.add I I ⟨by omega,by omega⟩)<|zd I<|zF (fun a w hh=>hK0 (⟨k + 1,hlt⟩) (by show (cN .u32<|Nm.dg W32 X).length - (k + 1) < (cN .u32<|Nm.dg W32 X).length - k;omega) a w<|hh.sub<|⟨⟨_,I,⟨lq I,⟨lq I,⟨lq I,⟨lq I,⟨⟨_,I,Yi o9⟩,t9⟩⟩⟩⟩⟩⟩,[0],by decide,⟨⟨_,rfl,zfJ<|own_set2 (j:=k) (k:=k + 1) o9 o9 rfl rfl hstep.1⟩,trivial⟩⟩))
  ·obtain rfl:k=(cN .u32<|Nm.dg W32 X).length:=by have:=oF hb16;omega
   refine zQ ?_
   repeat (first | refine zX ?_ | refine zY d9 ?_)
   exact zZ (zj<|zn<|zd I<|zf I<|ze<|SW.retO (fn:=Tryz.f160) (fun _ _ h=>h) 0 I I I<|zfJ (by rw [Nat.mod_eq_of_lt hXn]))
theorem le_sl {xs ys:List Value} (h:xs=ys):Le (slD xs) (slD ys):=by subst h;exact zc _
theorem set_at {ds:List D} {o:Nat} {d:D} (h:o < ds.length):(ds.set o d)[o]? =some d:=by simp [h]
theorem shr32 {x s:Nat} (hs:s < 32):(x:Int) / 2 ^ (min s IntKind.u32.bits)=((x / 2 ^ s:Nat):Int):=by
 have h1:min s IntKind.u32.bits=s:=XA (JG (Nat.le_of_lt hs) d9);rw [h1];simp
theorem zdJ {n R s k v:Nat} (hs:s < 32) (hk:k < n) (hv:v=R / W32 ^ k % W32 / 2 ^ s + (R / W32 ^ (k + 1) % W32) * 2 ^ (32 - s) % W32):(Nm.pad W32 n<|R / 2 ^ s % W32 ^ k).set k v=Nm.pad W32 n (R / 2 ^ s % W32 ^ (k + 1)):=by
 have h:=Nm.shr_word (S:=2 ^ s) (T:=2 ^ (32 - s)) (X:=R) (i:=k) (st_pow hs);rw [← hv] at h;rw [Nm.pad_next d9 hk (Nat.mod_lt _<|Nat.pow_pos d9) (by rw [← h];exact Nat.mod_lt _ d9),← h,← Nm.mod_next]
theorem shr_or {R s k:Nat} (hs:s < 32):bits .or .u32 ((R / W32 ^ k % W32 / 2 ^ s:Nat):Int) (((R / W32 ^ (k + 1) % W32) * 2 ^ (32 - s) % 4294967296:Nat):Int)=((R / W32 ^ k % W32 / 2 ^ s + (R / W32 ^ (k + 1) % W32) * 2 ^ (32 - s) % W32:Nat):Int):=by
 have hST:=st_pow hs;have hx:=zfE R k;have ha:R / W32 ^ k % W32 / 2 ^ s < 2 ^ (32 - s):=Nat.div_lt_of_lt_mul (by rw [hST];exact hx)
 have hl:(R / W32 ^ (k + 1) % W32) * 2 ^ (32 - s) % W32 % 2 ^ (32 - s)=0:=by
  rw [← hST,Nat.mul_mod_mul_right,Nat.mul_mod_left]
 refine or_low ha hl ?_;have h:=Nm.shr_word (S:=2 ^ s) (T:=2 ^ (32 - s)) (X:=R) (i:=k) hST;rw [← h];exact Nat.mod_lt _ d9
theorem zbk {n A C j d:Nat} {o:Nat} {u:Int} (ho:o=j) (hu:u=(d:Int)) (hm:(Nm.pad W32 n A).set j d=Nm.pad W32 n C):((cN .u32<|Nm.pad W32 n A).map isD).set o (isD<|.int .u32 u)=(cN .u32<|Nm.pad W32 n C).map isD:=by
 subst ho hu;rw [← hm,← List.map_set,ZW]
theorem own_set11 {n A C j d:Nat} {o p:Nat} {u v:Int} (ho:o=j) (hp:p=j) (hv:v=(d:Int)) (hm:(Nm.pad W32 n A).set j d=Nm.pad W32 n C):(((cN .u32<|Nm.pad W32 n A).map isD).set o<|isD<|.int .u32 u).set p (isD<|.int .u32 v)=(cN .u32<|Nm.pad W32 n C).map isD:=by
 subst ho hp;rw [List.set_set];exact zbk I hv hm
theorem con_shr {R s n:Nat} (hR:R < W32 ^ n) (hn1:n≤1000) (hs:s < 32):Con Tryz.prog 162 [slD<|cN .u32<|Nm.pad W32 n R,ZK (s:Int)] (slD<|cN .u32<|Nm.pad W32 n<|R / 2 ^ s):=by
 have hn:(cN .u32<|Nm.pad W32 n R).length=n:=by simp
 refine yy Tryz.func162 k9 I k9 fun base w0=>(zn<|zf I<|zN<|zd I<|za I (Rd.len (e:=209) I k9) (SWl.e2 (S:=[]) (zdC (e:=209) (z:= .int .u32 0) (n:=n) 4 I I k9 k9 I (by rw [hn]) (by rw [hn]) o9 d9 I) fun g10=>(zf I<|ze<|zh<|zn<|zd I<|za I (Rd.len (e:=209) I k9)<|zd I<|ze<|SW.block<|yd (ι:={k:Nat // k≤n}) (fun ⟨k,hk⟩=>St.of [(0,slD<|cN .u32<|Nm.pad W32 n R),(1,ZK (s:Int)),(5,isD<|.slice (some ⟨g10,0,none⟩) n n),(11,slD<|cN .u32<|Nm.pad W32 n R),(12,ZK (n:Int)),(13,ZK (k:Int))] [(g10,(cN .u32<|Nm.pad W32 n<|R / 2 ^ s % W32 ^ k).map isD)]) (fun ⟨k,hk⟩=>n - k) (⟨0,JC _⟩) ?_ ?_)))
 ·exact ⟨⟨_,I,⟨lq I,⟨lq I,⟨lq I,⟨lq I,⟨⟨_,I,Yi (by rw [hn])⟩,⟨lq I,t9⟩⟩⟩⟩⟩⟩⟩,[0],by decide,⟨⟨_,rfl,zfJ (by rw [Nat.pow_zero,Nat.mod_one,qZ])⟩,trivial⟩⟩
 ·rintro ⟨k,hk⟩ K0 hK0;refine zn (za I (yc I I)<|ze<|zh<|zC I (fun hb14=> ?_) (fun hb14=> ?_))
  ·have hlt:k < n:=(by have:=oT hb14;omega);have hx:=zfE R k;have hy:=zfE R (k + 1);refine zq (zj<|zh<|SW.block<|zn<|zd I<|za I (KW (e:=209) I I k9 k9 o9<|Va (j:=k) I hlt)<|za I (qd I k9 s9)<|zf I<|zf I<|zN<|zd I<|zd I<|zd I<|zd I<|za I (jJ (s:=s) I I<|shr32 hs)<|za I (Ya (e:=209) I I k9 k9 o9 o9)<|zu (S:=[_]) (ZG 0 I I I k9 (by simp;omega)<|m9 I)<|zN<|zd I<|za I (Rd.add I I ⟨by omega,by omega⟩)<|zd I<|za I (Rd.len (e:=209) I k9)<|za I (yc I I)<|ze<|zC I (fun hb28=> ?_) (fun hb28=> ?_))
   ·have hlt2:k + 1 < n:=(by have:=oT hb28;omega)
    exact yl [g10] (rr [0,1,2]<|.q 3<|rr [4,5,6,7,8,9,10,11,12,13,14,15]<|.e 16 .fin .no) k9 k9 (fun d _ _ _ _ h=>by cases d <;> exact h) (zz I I<|zz I I<|zl I I (Ya (e:=209) I I k9 k9 o9 o9)<|ZX I I (qe 0 I I (set_at (by simp;omega)) k9 zm)<|zz I I<|zz I I<|zl I I (Rd.add I I ⟨by omega,by omega⟩)<|zl I I (KW (e:=209) I I k9 k9 o9<|Va (j:=k + 1) o9 hlt2)<|zl I I (qd I k9<|jT (j:=0) I Vd)<|zl I I (ZZ .u32 I k9 k9<|Y8 o9 o9)<|zz I I<|zl I I (yG I I ⟨by omega,by omega⟩)<|zl I I (jK (s:=32 - s) I (by rw [show ((32 - s:Nat):Int)=32 - (s:Int) by omega];rfl)<|shl64 hy o9)<|zl I I (ZZ .u64 I k9 k9<|lo32 _)<|zl I I (zcI I I<|shr_or hs)<|zl I I (Ya (e:=209) I I k9 k9 o9 o9)<|Zm I (ZG 0 I I I k9 (by simp;omega)<|Jc (i:=0) I)<|y9<|SN.block<|zj<|zi<|za I (Rd.add I I ⟨by omega,by omega⟩)<|zd I<|zF (fun a w hh=>hK0 (⟨k + 1,hlt⟩) (by show n - (k + 1) < n - k;omega) a w<|hh.sub<|⟨⟨_,I,⟨lq I,⟨lq I,⟨lq I,⟨lq I,⟨lq I,⟨⟨_,I,Yi o9⟩,t9⟩⟩⟩⟩⟩⟩⟩,[0],by decide,⟨⟨_,rfl,zfJ<|own_set11 (j:=k) o9 o9 rfl<|zdJ hs hlt rfl⟩,trivial⟩⟩))
   ·have hlast:R / W32 ^ (k + 1) % W32=0:=(by have h9:=oF hb28;rw [show k + 1=n by omega,Nat.div_eq_of_lt hR];rfl);exact zq (SN.block<|zj<|zi<|za I (Rd.add I I ⟨by omega,by omega⟩)<|zd I<|zF (fun a w hh=>hK0 (⟨k + 1,hlt⟩) (by show n - (k + 1) < n - k;omega) a w<|hh.sub<|⟨⟨_,I,⟨lq I,⟨lq I,⟨lq I,⟨lq I,⟨lq I,⟨⟨_,I,Yi o9⟩,t9⟩⟩⟩⟩⟩⟩⟩,[0],by decide,⟨⟨_,rfl,zfJ<|zbk (j:=k) o9 rfl<|zdJ hs hlt (by rw [hlast,Nat.zero_mul,Nat.zero_mod,Nat.add_zero])⟩,trivial⟩⟩))
  ·obtain rfl:n=k:=by have:=oF hb14;omega
   refine zQ ?_
   repeat (first | refine zX ?_ | refine zY d9 ?_)
   refine zZ (zj<|zn<|Vp 5 0 (cN .u32<|Nm.pad W32 n<|R / 2 ^ s % W32 ^ n) I I s9 (Js _) I<|zd I<|zf I<|ze<|zO (fn:=Tryz.f162) (fun _ _ h=>h)<|Rs.le (zG I<|zk I) ?_);exact le_sl (by rw [Nat.mod_eq_of_lt<|Nat.lt_of_le_of_lt (Nat.div_le_self _ _) hR])
end Sx
namespace Sx
theorem zc0 {k:IntKind} {a b:Int} (h:a=b):Le (isD<|.int k a) (isD<|.int k b):=by subst h;exact zc _
theorem sub1 {q:Nat} (h0:0 < q) (h:q≤4294967297):IntKind.u64.wrap ((q:Int) - 1)=((q - 1:Nat):Int):=by
 rw [show (q:Int) - 1=((q - 1:Nat):Int) by omega];exact Y8 o9 o9
theorem cv64 {x y:Nat} (h:x=y) (hx:x < 4294967296):IntKind.u64.wrap (x:Int)=(y:Int):=by
 subst h;exact Y8 o9 o9
theorem add64 {a b:Nat} (h:a + b < 18446744073709551616):IntKind.u64.wrap ((a:Int) + (b:Int))=((a + b:Nat):Int):=by
 rw [← Int.natCast_add];exact Y8 o9 o9
theorem mul64 {a b:Nat} (ha:a≤4294967295) (hb:b≤4294967295):IntKind.u64.wrap ((a:Int) * (b:Int))=((a * b:Nat):Int):=by
 have:=Xx ha hb;rw [← Int.natCast_mul];exact Y8 o9 o9
theorem quo64 {a b:Nat} (ha:a < 18446744073709551616):IntKind.u64.wrap ((a:Int).tdiv (b:Int))=((a / b:Nat):Int):=by
 have h:=Nat.div_le_self a b;rw [← Int.ofNat_tdiv]
 generalize a / b=z at h ⊢
 exact Y8 o9 o9
theorem or64 {a b c:Nat} (ha:a < 4294967296) (hb:b < 4294967296) (h:a * 4294967296 + b=c):bits .or .u64 ((a * 2 ^ 32:Nat):Int) (b:Int)=(c:Int):=by
 subst h;have h:=u64_or_nat (a * 2 ^ 32) b o9 o9;rw [h];congr 1;have:=Nat.two_pow_add_eq_or_of_lt (i:=32) (b:=b) o9 a;rw [show a * 2 ^ 32=2 ^ 32 * a from Nat.mul_comm _ _];exact this.symm
theorem sub64 {x y b:Nat} (hx:x < 4294967296) (hy:y < 4294967296) (hb:b≤1):IntKind.u64.wrap (IntKind.u64.wrap ((x:Int) - (y:Int)) - (b:Int))=((if x < y + b then x + 18446744073709551616 - y - b else x - y - b:Nat):Int):=by
 rw [zbN,zbN]
 split <;> omega
theorem zdG {x y b c:Nat} (hx:x < 4294967296) (hy:y < 4294967296) (hb:b≤1) (hc:c=if x < y + b then 1 else 0):IntKind.u32.wrap ((if x < y + b then x + 18446744073709551616 - y - b else x - y - b:Nat):Int)=((x + c * W32 - y - b:Nat):Int):=by
 have e:W32=4294967296:=rfl;rw [lo32,hc,e]
 split <;> omega
theorem zdH {x y b c:Nat} (hx:x < 4294967296) (hy:y < 4294967296) (hb:b≤1) (hc:c=if x < y + b then 1 else 0):((if x < y + b then x + 18446744073709551616 - y - b else x - y - b:Nat):Int) / 2 ^ (min 63 IntKind.u64.bits)=(c:Int):=by
 have e:min 63 IntKind.u64.bits=63:=rfl;rw [e,hc]
 split <;> omega
theorem add32 {a b c:Nat} (h:(a + b) % W32=c):IntKind.u32.wrap ((a:Int) + (b:Int))=(c:Int):=by
 rw [← Int.natCast_add,lo32];exact JY _ h
theorem zcT {lo hi:LN} {n A o j x:Nat} (ho:o=lo.length + j) (hj:j < n) (hx:A / W32 ^ j % W32=x):((cN .u32<|lo ++ Nm.pad W32 n A ++ hi).map isD)[o]? =some (isD<|.int .u32 (x:Int)):=by
 subst ho hx
 have h1:j < (Nm.pad W32 n A).length:=by simpa using hj
 have e:(lo ++ Nm.pad W32 n A ++ hi).getD (lo.length + j) 0=A / W32 ^ j % W32:=by
  rw [Jr,Jq,JR o9,Nat.add_sub_cancel_left,JB h1,← Jr,Nm.pad_getD _ _ _ _ hj]
 rw [JJ,ZQ (by simp;omega),e]
 rfl
theorem zbV {lo hi:LN} {n A C o j d:Nat} {v:Int} (ho:o=lo.length + j) (hj:j < n) (hv:v=(d:Int)) (hm:(Nm.pad W32 n A).set j d=Nm.pad W32 n C):((cN .u32<|lo ++ Nm.pad W32 n A ++ hi).map isD).set o (isD<|.int .u32 v)=(cN .u32<|lo ++ Nm.pad W32 n C ++ hi).map isD:=by
 have h1:j < (Nm.pad W32 n A).length:=by simpa using hj
 refine own_set (j:=lo.length + j) ho hv ?_;rw [Jq,Xa _ _ o9,Nat.add_sub_cancel_left,List.set_append_left _ _ h1,hm,Jq]
theorem zdO {lo hi:LN} {n A o j:Nat} (ho:o=lo.length + j) (hj:j < n):o < ((cN .u32<|lo ++ Nm.pad W32 n A ++ hi).map isD).length:=by
 simp;omega
theorem con_qw {lo up:LN} {g c U V m:Nat} (hm:m≤1000) (hV:V < W32 ^ (m + 2)) (hbig:W32≤2 * (V / W32 ^ (m + 1))) (hU:U < V * W32):ConB Tryz.prog 161 g ((cN .u32<|lo ++ Nm.pad W32 (m + 3) (U) ++ up).map isD) ((cN .u32<|lo ++ Nm.pad W32 (m + 3) (U % V) ++ up).map isD) [isD<|.slice (some ⟨g,lo.length,none⟩) (m + 3) c,slD<|cN .u32<|Nm.pad W32 (m + 2) V] (isD<|.int .u32 ((U / V:Nat):Int)):=by
 have hB:2≤W32:=by decide
 have eB:W32=4294967296:=rfl
 have hn:(cN .u32<|Nm.pad W32 (m + 2) V).length=m + 2:=by simp
 obtain ⟨h,hh⟩:∃ h,h=V / W32 ^ (m + 1):=⟨_,rfl⟩;obtain ⟨v2,hv2⟩:∃ v2,v2=V / W32 ^ m % W32:=⟨_,rfl⟩;obtain ⟨u2,hu2⟩:∃ u2,u2=U / W32 ^ m % W32:=⟨_,rfl⟩;rw [← hh] at hbig;obtain ⟨hV0,hh0,hhB⟩:=Nm.gs_pos hB hh hV hbig
 have h2:V / W32 ^ m=h * W32 + v2:=by rw [hh,hv2,XI,← Nat.div_div_eq_div_mul];exact (Nat.div_add_mod' _ _).symm
 have hv2B:v2 < W32:=by rw [hv2];exact Nat.mod_lt _ d9
 have hu2B:u2 < 4294967296:=by rw [hu2];exact Nat.mod_lt _ d9
 have hUp:U < W32 ^ (m + 3):=Ju hU (by rw [XI W32<|m + 2];exact Nat.mul_le_mul_right _<|Nat.le_of_lt hV)
 have eh:V / W32 ^ (m + 1) % W32=h:=by rw [← hh];exact Nat.mod_eq_of_lt hhB
 have hut:=zfE U (m + 2);have hut1:=zfE U (m + 1)
 have htop:(U / W32 ^ (m + 2) % W32) * 4294967296 + U / W32 ^ (m + 1) % W32=U / W32 ^ (m + 1):=by rw [Nat.mod_eq_of_lt<|Nat.div_lt_of_lt_mul (by rw [← XI];exact hUp),XI W32<|m + 1,← Nat.div_div_eq_div_mul];exact Nat.div_add_mod' _ _
 have htB:U / W32 ^ (m + 1) < 18446744073709551616:=by omega
 refine con_ofB Tryz.func161 k9 I k9 fun base w0=>(zn<|zf I<|zN<|zd I<|za I (Rd.len (e:=209) I k9)<|zf I<|zN<|zd I<|zd I<|za I (yG I I ⟨by omega,by omega⟩)<|za I (KW (e:=209) I I k9 k9 o9<|Va (j:=m + 1) o9 o9)<|za I (qd I k9 s9)<|za I (ZZ .u32 I k9 k9<|cv64 eh o9)<|zf I<|ze<|zh<|yl [] (rr [0,1,2,3,4,5,6,7,8,9,10,11,12,13] .fin) k9 k9 (fun d _ _ _ _ h=>by cases d <;> exact h)<|zz I I<|zz I I<|zl I I (Ya (e:=209) I I k9 k9 o9 o9)<|zl I I (qe 0 I I (zcT (j:=m + 2) o9 o9 I) k9 zm)<|zl I I (ZZ .u32 I k9 k9<|cv64 I hut)<|zl I I (jK (s:=32) I I<|shl64 hut d9)<|zz I I<|zz I I<|zl I I (yG I I ⟨by omega,by omega⟩)<|zl I I (Ya (e:=209) I I k9 k9 o9 o9)<|zl I I (qe 0 I I (zcT (j:=m + 1) o9 o9 I) k9 zm)<|zl I I (ZZ .u32 I k9 k9<|cv64 I hut1)<|zl I I (zcI I I<|or64 hut hut1 htop)<|yR I I ?_)
 refine yE (zn<|zd I<|zd I<|za I (Rd.quoW I I o9<|quo64 htB)<|zf I<|zN<|zd I<|zd I<|za I (Rd.remW I I o9 (Int.ofNat_tmod _ _).symm)<|zf I<|ze<|zh<|jq (fun σ=>∃ q,(q < W32∧(q=U / V∨q=U / V + 1))∧σ=St.of [(0,isD<|.slice (some ⟨g,lo.length,none⟩) (m + 3) c),(1,slD<|cN .u32<|Nm.pad W32 (m + 2) V),(5,ZK ((m + 2:Nat):Int)),(8,isD<|.int .u64 ((q:Nat):Int))] [(g,(cN .u32<|lo ++ Nm.pad W32 (m + 3) (U) ++ up).map isD)]) ?_ ?_)
 ·refine SW.block (yd (ι:={p:Nat × Nat // Nm.Gs W32 U V m h v2 p.1 p.2∧p.2 < W32}) (fun ⟨⟨q,r⟩,hgr⟩=>St.of [(0,isD<|.slice (some ⟨g,lo.length,none⟩) (m + 3) c),(1,slD<|cN .u32<|Nm.pad W32 (m + 2) V),(5,ZK ((m + 2:Nat):Int)),(6,isD<|.int .u64 ((h:Nat):Int)),(8,isD<|.int .u64 ((q:Nat):Int)),(9,isD<|.int .u64 ((r:Nat):Int))] [(g,(cN .u32<|lo ++ Nm.pad W32 (m + 3) (U) ++ up).map isD)]) (fun ⟨⟨q,r⟩,hgr⟩=>q) (⟨(U / W32 ^ (m + 1) / h,U / W32 ^ (m + 1) % h),Nm.gs_start hB hh hV hbig,Nat.lt_trans (Nat.mod_lt _ hh0) hhB⟩) ?_ ?_)
  ·exact ⟨⟨_,I,⟨lq I,⟨lq I,⟨⟨_,I,Yi o9⟩,(sT I)⟩⟩⟩⟩,[0],by decide,⟨la rfl,trivial⟩⟩
  ·rintro ⟨⟨q,r⟩,hg,hr⟩ K0 hK0;have hg:Nm.Gs W32 U V m h v2 q r:=hg;have hr:r < 4294967296:=hr
   have hq:q≤4294967297:=Nm.gs_first hB hh hV hbig hU hg
   refine zh (zh<|yl [] (rr [0,1,2,3,4,5,6,7,8,9,10,11,12,13,14,15,16,17,18,19,20,21] .fin) k9 k9 (fun d _ _ _ _ h=>by cases d <;> exact h)<|zz I I<|zl I I (YF I I)<|zz I I<|Zq 45 I (fun hb45=> ?_) (fun hb45=> ?_))
   ·have hc:W32≤q∨r * W32 + u2 < q * v2:= .inl (by have:=oT hb45;omega);obtain ⟨hq0,hg2⟩:=Nm.gs_next hB hh hV hbig hU h2 hg hu2 hc;refine zD I I I hb45 I I (zD I I I hb45 I I<|zD I I I hb45 I I<|zD I I I hb45 I I<|zD I I I hb45 I I<|zD I I I hb45 I I<|zD I I I hb45 I I<|zD I I I hb45 I I<|zD I I I hb45 I I<|zD I I I hb45 I I<|zD I I I hb45 I I<|zD I I I hb45 I I<|zD I I I hb45 I I<|zD I I I hb45 I I<|zD I I I hb45 I I<|zD I I I hb45 I I<|zD I I I hb45 I I<|zD I I I hb45 I I<|zl I I (zE I hb45 I)<|yE<|yj I I<|zq<|zj<|SW.block<|zn<|zd I<|za I (Kp I I<|sub1 hq0 hq)<|zf I<|zN<|zd I<|zd I<|za I (Vq I I<|add64 o9)<|zf I<|ze ?_);refine zn (zd I<|za I (YF I I)<|ze<|zC I (fun hb71=> ?_) (fun hb71=> ?_))
    ·have hend:=Nm.gs_end hB hh hV hbig hU h2 hv2B hg2 hu2 (.inr (by have h9:=oT hb71;rw [eB];omega));refine zQ ?_
     repeat (first | refine zX ?_ | refine zY d9 ?_)
     exact zZ (Zw ⟨q - 1,hend,I⟩<|sB [0] I I)
    ·have hr2:r + h < W32:=by have h9:=oF hb71;rw [eB];omega
     exact zq (SN.block (fun a w hh=>hK0 (⟨(q - 1,r + h),hg2,hr2⟩) (by show q - 1 < q;omega) a w<|hh.sub<|sB [0] I I))
   ·have hqB:q < 4294967296:=by have:=oF hb45;omega
    refine zy I I I hb45 I I (zH I) (zy I I I hb45 I I (zH I)<|zy I I I hb45 I I (zH I)<|zy I I I hb45 I I (yG I I ⟨by omega,by omega⟩)<|zy I I I hb45 I I (KW (e:=209) I I k9 k9 o9<|Va (j:=m) o9 o9)<|zy I I I hb45 I I (qd I k9 s9)<|zy I I I hb45 I I (ZZ .u32 I k9 k9<|cv64 hv2.symm o9)<|zy I I I hb45 I I (Rd.mulW I I<|mul64 o9 o9)<|zy I I I hb45 I I (zH I)<|zy I I I hb45 I I (jK (s:=32) I I<|shl64 hr d9)<|zy I I I hb45 I I (zH I)<|zy I I I hb45 I I (zH I)<|zy I I I hb45 I I (yG I I ⟨by omega,by omega⟩)<|zy I I I hb45 I I (Ya (e:=209) I I k9 k9 o9 o9)<|zy I I I hb45 I I (qe 0 I I (zcT (j:=m) o9 o9 hu2.symm) k9 zm)<|zy I I I hb45 I I (ZZ .u32 I k9 k9<|cv64 I hu2B)<|zy I I I hb45 I I (zcI I I<|or64 hr hu2B I)<|zy I I I hb45 I I (yV I I)<|zl I I (zw I hb45 I)<|yE<|zC I (fun hb64=> ?_) (fun hb64=> ?_))
    ·have hc:W32≤q∨r * W32 + u2 < q * v2:= .inr (by have h9:=oT hb64;rw [eB];omega);obtain ⟨hq0,hg2⟩:=Nm.gs_next hB hh hV hbig hU h2 hg hu2 hc;refine zq (zj<|SW.block<|zn<|zd I<|za I (Kp I I<|sub1 hq0 hq)<|zf I<|zN<|zd I<|zd I<|za I (Vq I I<|add64 o9)<|zf I<|zN<|zd I<|za I (YF I I)<|ze<|zC I (fun hb71=> ?_) (fun hb71=> ?_))
     ·have hend:=Nm.gs_end hB hh hV hbig hU h2 hv2B hg2 hu2 (.inr (by have h9:=oT hb71;rw [eB];omega));refine zQ ?_
      repeat (first | refine zX ?_ | refine zY d9 ?_)
      exact zZ (Zw ⟨q - 1,hend,I⟩<|sB [0] I I)
     ·have hr2:r + h < W32:=by have h9:=oF hb71;rw [eB];omega
      exact zq (SN.block (fun a w hh=>hK0 (⟨(q - 1,r + h),hg2,hr2⟩) (by show q - 1 < q;omega) a w<|hh.sub<|sB [0] I I))
    ·have hend:=Nm.gs_end hB hh hV hbig hU h2 hv2B hg hu2 (.inl ⟨hqB,by have h9:=oF hb64;rw [eB];omega⟩);refine zQ ?_
     repeat (first | refine zX ?_ | refine zY d9 ?_)
     exact zZ (Zw ⟨q,hend,I⟩<|sB [0] I I)
 ·rintro _ ⟨q,⟨hqB,hqv⟩,rfl⟩;refine zj (zn<|zf I<|zf I<|ze<|zh<|zn<|zd I<|za I (Rd.len (e:=209) I k9)<|zd I<|ze<|SW.block<|yd (ι:={i:Nat // i≤m + 2}) (fun ⟨i,hi⟩=>St.of [(0,isD<|.slice (some ⟨g,lo.length,none⟩) (m + 3) c),(1,slD<|cN .u32<|Nm.pad W32 (m + 2) V),(5,ZK ((m + 2:Nat):Int)),(8,isD<|.int .u64 ((q:Nat):Int)),(10,isD<|.int .u64 ((Nm.bw W32 U (q * V) i:Nat):Int)),(11,isD<|.int .u64 ((q * (V % W32 ^ i) / W32 ^ i:Nat):Int)),(73,ZK ((m + 2:Nat):Int)),(74,ZK (i:Int))] [(g,(cN .u32<|lo ++ Nm.pad W32 (m + 3) (Nm.sA W32 U (q * V) i) ++ up).map isD)]) (fun ⟨i,hi⟩=>m + 2 - i) (⟨0,JC _⟩) ?_ ?_)
  ·exact ⟨⟨_,I,⟨lq I,⟨lq I,⟨lq I,⟨lq I,⟨⟨_,I,zc0 (by rw [Nm.bw_zero];rfl)⟩,⟨⟨_,I,zc0 (by rw [Nat.pow_zero,Nat.mod_one];simp)⟩,⟨⟨_,I,Yi (by rw [hn])⟩,⟨lq I,t9⟩⟩⟩⟩⟩⟩⟩⟩⟩,[0],by decide,⟨⟨_,rfl,zfJ (by rw [Nm.sA_zero])⟩,trivial⟩⟩
  ·rintro ⟨i,hi⟩ K1 hK1;refine zn (za I (yc I I)<|ze<|zh<|zC I (fun hb75=> ?_) (fun hb75=> ?_))
   ·have hlt:i < m + 2:=(by have:=oT hb75;omega);have hvi:=zfE V i;have hui:=zfE U i;have hzi:=zfE (q * V) i;have hps:=Nm.pr_step (B:=W32) d9 q V i;have hpc:q * (V % W32 ^ i) / W32 ^ i < 4294967296:=Nm.pr_carry d9 hqB V i;have hqv':q * (V / W32 ^ i % W32)≤4294967295 * 4294967295:=Xx (by have:=hqB;have e:W32=4294967296:=rfl;omega) o9;have hbw:=(Nm.df_step (B:=W32) d9 U (q * V) i).1;have hb1:=Nm.bw_le W32 U (q * V) i;refine zq (zj<|zh<|SW.block<|zn<|zd I<|zf I<|zN<|zd I<|zd I<|zd I<|zd I<|za I (KW (e:=209) I I k9 k9 o9<|Va (j:=i) o9 o9)<|za I (qd I k9 s9)<|za I (ZZ .u32 I k9 k9<|cv64 I hvi)<|za I (Rd.mulW I I<|mul64 o9 o9)<|za I (Vq I I<|add64 o9)<|zf I<|zN<|zd I<|zd I<|za I (Ya (e:=209) I I k9 k9 o9 o9)<|za I (qe 0 I I (zcT (j:=i) o9 o9<|Nm.sA_at d9 U (q * V) i) k9 zm)<|za I (ZZ .u32 I k9 k9<|cv64 I hui)<|zd I<|za I (ZZ .u64 I k9 k9<|(lo32 _).trans<|JY (fun n:Nat=>(n:Int)) hps.2.symm)<|za I (ZZ .u32 I k9 k9<|cv64 I hzi)<|za I (Kp I I I)<|zd I<|za I (Kp I I<|sub64 hui hzi hb1)<|zf I<|ze ?_)
    exact zn (zd I<|zd I<|zd I<|za I (ZZ .u64 I k9 k9<|zdG hui hzi hb1 hbw)<|za I (Ya (e:=209) I I k9 k9 o9 o9)<|zu (S:=[_]) (ZG 0 I I I k9 (zdO (j:=i) o9 o9)<|m9 I)<|zN<|zd I<|za I (jJ (s:=63) I I<|zdH hui hzi hb1 hbw)<|zf I<|ze<|zi<|zd I<|za I (jJ (s:=32) I I<|hi64 _)<|zf I<|zF<|SN.block<|zj<|zi<|za I (Rd.add I I ⟨by omega,by omega⟩)<|zd I<|zF (fun a w hh=>hK1 (⟨i + 1,hlt⟩) (by show m + 2 - (i + 1) < m + 2 - i;omega) a w<|hh.sub<|⟨⟨_,I,⟨lq I,⟨lq I,⟨lq I,⟨lq I,⟨lq I,⟨⟨_,I,zc0<|JY _ hps.1.symm⟩,⟨lq I,⟨⟨_,I,Yi o9⟩,t9⟩⟩⟩⟩⟩⟩⟩⟩⟩,[0],by decide,⟨⟨_,rfl,zfJ<|zbV (j:=i) o9 o9 rfl<|Nm.sA_fill d9 U (q * V) i o9 _ rfl⟩,trivial⟩⟩))
   ·obtain rfl:i=m + 2:=(by have:=oF hb75;omega);have hzt:=zfE (q * V) (m + 2);have hqV:q * V < W32 ^ (m + 3):=(by rw [XI W32<|m + 2,Nat.mul_comm];exact Nat.mul_lt_mul_of_lt_of_le hV (Nat.le_of_lt hqB) d9);have hct:q * (V % W32 ^ (m + 2)) / W32 ^ (m + 2)=q * V / W32 ^ (m + 2) % W32:=(by rw [Nat.mod_eq_of_lt hV,Nat.mod_eq_of_lt<|Nat.div_lt_of_lt_mul (by rw [← XI];exact hqV)]);have hbt:Nm.bw W32 U (q * V) (m + 3)=_:=(Nm.df_step (B:=W32) d9 U (q * V)<|m + 2).1;have hbt1:=Nm.bw_le W32 U (q * V) (m + 2);have hdf:=Nm.df_full hUp hqV;have hst:(Nm.pad W32 (m + 3)<|Nm.sA W32 U (q * V)<|m + 2).set (m + 2) _=Nm.pad W32 (m + 3) (Nm.sA W32 U (q * V)<|m + 3):=Nm.sA_fill d9 U (q * V) (m + 2) o9 _ rfl;refine zQ ?_
    repeat (first | refine zX ?_ | refine zY d9 ?_)
    refine zZ (zj<|zn<|zd I<|zd I<|za I (Ya (e:=209) I I k9 k9 o9 o9)<|za I (qe 0 I I (zcT (j:=m + 2) o9 o9<|Nm.sA_at d9 U (q * V)<|m + 2) k9 zm)<|za I (ZZ .u32 I k9 k9<|cv64 I hut)<|zd I<|za I (Kp I (by rw [hct];rfl) I)<|zd I<|za I (Kp I I<|sub64 hut hzt hbt1)<|zf I<|zN<|zd I<|zd I<|zd I<|za I (ZZ .u64 I k9 k9<|zdG hut hzt hbt1 hbt)<|za I (Ya (e:=209) I I k9 k9 o9 o9)<|zu (S:=[_]) (ZG 0 I I I k9 (zdO (j:=m + 2) o9 o9)<|m9 I)<|ze<|zh<|zn<|zd I<|za I (jJ (s:=63) I I<|zdH hut hzt hbt1 hbt)<|za I (yv I I)<|ze<|zC I (fun hb123=> ?_) (fun hb123=> ?_))
    ·have hlt:U < q * V:=(by by_cases h7:U < q * V;exact h7;rw [hdf.2,Jb h7] at hb123;exact absurd hb123 d9);obtain ⟨R,hR⟩:∃ R,R=U + W32 ^ (m + 3) - q * V:=⟨_,rfl⟩;have hRlt:R < W32 ^ (m + 2 + 1):=(by show R < W32 ^ (m + 3);omega);obtain ⟨hq1,hrem⟩:=(Nm.kn_end (n:=m + 2) hB hV0 hV hU hqv).2 hlt;have hRs:Nm.sA W32 U (q * V) (m + 3)=R:=(by rw [Nm.sA_all hUp,hdf.1,Jh hlt,hR]);have hrem2:(R + V) % W32 ^ (m + 2 + 1)=U % V:=(by rw [hR];exact hrem);have hq0:0 < q:=(by apply Nat.pos_of_ne_zero;intro e;rw [e,Nat.zero_mul] at hlt;omega);have hout:IntKind.u32.wrap ((q - 1:Nat):Int)=((U / V:Nat):Int):=(by rw [lo32,Nat.mod_eq_of_lt o9,hq1]);refine zn (zd I<|za I (Kp I I<|sub1 hq0 o9)<|zf I<|zN<|zf I<|ze<|zh<|zn<|zd I<|za I (Rd.len (e:=209) I k9)<|zd I<|ze<|SW.block<|yd (ι:={i:Nat // i≤m + 2}) (fun ⟨i,hi⟩=>St.of [(0,isD<|.slice (some ⟨g,lo.length,none⟩) (m + 3) c),(1,slD<|cN .u32<|Nm.pad W32 (m + 2) V),(5,ZK ((m + 2:Nat):Int)),(8,isD<|.int .u64 ((q - 1:Nat):Int)),(11,isD<|.int .u64 ((Nm.sm W32 R V i / W32 ^ i:Nat):Int)),(127,ZK ((m + 2:Nat):Int)),(128,ZK (i:Int))] [(g,(cN .u32<|lo ++ Nm.pad W32 (m + 3) (Nm.aA W32 R V i) ++ up).map isD)]) (fun ⟨i,hi⟩=>m + 2 - i) (⟨0,JC _⟩) ?_ ?_)
     ·exact ⟨⟨_,I,⟨lq I,⟨lq I,⟨lq I,⟨lq I,⟨⟨_,I,zc0 (by rw [Nm.sm_zero];simp)⟩,⟨⟨_,I,Yi (by rw [hn])⟩,⟨lq I,t9⟩⟩⟩⟩⟩⟩⟩⟩,[0],by decide,⟨⟨_,rfl,zfJ<|(zbV (j:=m + 2) o9 o9 rfl hst).trans (by rw [Nm.aA_zero,hRs])⟩,trivial⟩⟩
     ·rintro ⟨i,hi⟩ K2 hK2;refine zn (za I (yc I I)<|ze<|zh<|zC I (fun hb129=> ?_) (fun hb129=> ?_))
      ·have hlt:i < m + 2:=(by have:=oT hb129;omega);have hvi:=zfE V i;have hri:=zfE R i;have hsc:=Nm.sm_carry (B:=W32) d9 R V i
       refine zq (zj<|zh<|SW.block<|zn<|zd I<|zf I<|ze<|zh<|yl [] (rr [0,1,2,3,4,5,6,7,8,9,10,11,12,13] .fin) k9 k9 (fun d _ _ _ _ h=>by cases d <;> exact h)<|zz I I<|zz I I<|zz I I<|zl I I (Ya (e:=209) I I k9 k9 o9 o9)<|zl I I (qe 0 I I (zcT (j:=i) o9 o9<|Nm.aA_at d9 R V i) k9 zm)<|zl I I (ZZ .u32 I k9 k9<|cv64 I hri)<|zz I I<|zz I I<|zl I I (KW (e:=209) I I k9 k9 o9<|Va (j:=i) o9 o9)<|zl I I (qd I k9 s9)<|zl I I (ZZ .u32 I k9 k9<|cv64 I hvi)<|zl I I (Vq I I<|add64 o9)<|zl I I (Vq I I<|add64 o9)<|yR I I<|yE<|zn<|zd I<|zd I<|zd I<|za I (ZZ .u64 I k9 k9<|lo32 _)<|za I (Ya (e:=209) I I k9 k9 o9 o9)<|zu (S:=[_]) (ZG 0 I I I k9 (zdO (j:=i) o9 o9)<|m9 I)<|ze<|zi<|zd I ?_)
       exact za I (jJ (s:=32) I I<|hi64 _) (zf I<|zF<|SN.block<|zj<|zi<|za I (Rd.add I I ⟨by omega,by omega⟩)<|zd I<|zF (fun a w hh=>hK2 (⟨i + 1,hlt⟩) (by show m + 2 - (i + 1) < m + 2 - i;omega) a w<|hh.sub<|⟨⟨_,I,⟨lq I,⟨lq I,⟨lq I,⟨lq I,⟨⟨_,I,zc0<|JY _ (Nm.sm_step d9 R V i).1.symm⟩,⟨lq I,⟨⟨_,I,Yi o9⟩,t9⟩⟩⟩⟩⟩⟩⟩⟩,[0],by decide,⟨⟨_,rfl,zfJ<|zbV (j:=i) o9 o9 rfl<|Nm.aA_fill d9 R V i o9 _ rfl⟩,trivial⟩⟩))
      ·obtain rfl:i=m + 2:=(by have:=oF hb129;omega);have hsc:=Nm.sm_carry (B:=W32) d9 R V (m + 2);refine zQ ?_
       repeat (first | refine zX ?_ | refine zY d9 ?_)
       refine zZ (zj<|zi<|zd I<|zd I<|za I (Ya (e:=209) I I k9 k9 o9 o9)<|za I (qe 0 I I (zcT (j:=m + 2) o9 o9<|Nm.aA_at d9 R V<|m + 2) k9 zm)<|zd I<|za I (ZZ .u64 I k9 k9<|(lo32 _).trans<|JY _<|Nat.mod_eq_of_lt o9)<|za I (Vq I I<|add32 I)<|za I (Ya (e:=209) I I k9 k9 o9 o9)<|zu (S:=[_]) (ZG 0 I I I k9 (zdO (j:=m + 2) o9 o9)<|m9 I)<|zN<|zd I<|za I (ZZ .u64 I k9 k9<|hout)<|zf I<|ze<|zbG (fn:=Tryz.f161) (fun _ _ h=>h) (Rs.le (zG I<|zk I) ?_) I ?_);exact zc _;exact zfJ ((zbV (j:=m + 2) o9 o9 I<|Nm.aA_last hB hRlt hV).trans (by rw [hrem2]))
    ·have hnl:¬U < q * V:=(by by_cases h7:U < q * V;rw [hdf.2,Jh h7] at hb123;exact absurd hb123 d9;exact h7);obtain ⟨hq1,hrem⟩:=(Nm.kn_end (n:=m + 2) hB hV0 hV hU hqv).1 hnl;have hRs:Nm.sA W32 U (q * V) (m + 3)=U % V:=(by rw [Nm.sA_all hUp,hdf.1,Jb hnl,hrem]);have hout:IntKind.u32.wrap ((q:Nat):Int)=((U / V:Nat):Int):=(by rw [lo32,Nat.mod_eq_of_lt o9,hq1]);refine zq (zj<|zn<|zd I<|za I (ZZ .u64 I k9 k9<|hout)<|zf I<|ze<|zbG (fn:=Tryz.f161) (fun _ _ h=>h) (Rs.le (zG I<|zk I) ?_) I ?_);exact zc _;exact zfJ ((zbV (j:=m + 2) o9 o9 I hst).trans (by rw [hRs]))
end Sx
namespace Sx
theorem SW.freeze {P:Program} {Γ:Cx} {σ:St} {b:Code} {Q:Exit→Act→World→Prop} (i j:Nat) {g c n:Nat} {ds:List D} (xs:List Value) (hi:σ.tm i=some (isD<|.slice (some ⟨g,0,none⟩) n c)) (hj:σ.bx[j]? =some (.c g ds)) (hn:n=xs.length) (hc:n≤c) (hds:ds=xs.map isD) (h:SW P Γ ⟨fun k=>_root_.cond (Nat.beq k i) (some<|slD xs)<|σ.tm k,σ.bx.eraseIdx j⟩ b Q):SW P Γ σ b Q:=
 fun a w hh=>by subst hn hds;exact h a w (hh.freeze hi hc hj)
theorem WC {n X Y:Nat} (h:Y=X) (hn:n≤1000000) (hX:X < W32 ^ n):Con Tryz.prog 121 [slD<|cN .u32<|Nm.pad W32 n Y] (jz X):=by
 subst h;refine ⟨enters_of Tryz.func121 k9 I,fun L w vs hL _ ha=> ?_⟩;obtain ⟨u,rfl,A,c,rfl,hc,hr,haw⟩:=zcu ha
 have hl:(cN .u32<|Nm.pad W32 n Y).length=n:=by simp
 rw [hl] at hc haw ⊢;refine (qa w A n c Y hc hn hX hr).mono ?_;rintro r w' ⟨m,rfl,rfl,hN⟩;refine ⟨_,I,zbZ hN (fun h0=>haw ?_),Only.refl _ _⟩;have h1:=(Nm.len_le (B:=W32) d9 n Y).2 hX;rw [← hN.n_eq] at h1;omega
theorem zcl {X Y:Nat} (hX:X < W32 ^ 100) (hXY:Y≤X):Con Tryz.prog 118 [jz X,jz Y] (ZK (if X=Y then 0 else 1)):=by
 refine ⟨enters_of Tryz.func118 k9 I,fun L w vs hL _ ha=> ?_⟩;obtain ⟨u,v,rfl,hu,hv⟩:=zbB ha;obtain ⟨A,n,c,rfl,h1,-⟩:=jy hu;obtain ⟨B,m,d,rfl,h2,-⟩:=jy hv
 have hn:n≤100:=by rw [h1.n_eq];exact (Nm.len_le (B:=W32) d9 100 X).2 hX
 have hm:m≤100:=by rw [h2.n_eq];exact (Nm.len_le (B:=W32) d9 100 Y).2 (Nat.lt_of_le_of_lt hXY hX)
 refine (Z6 w A B n c m d X Y o9 o9 h1 h2).mono ?_;rintro r w' ⟨z,rfl,hz,hO⟩;refine ⟨_,I,?_,hO⟩;have hz':Cmp X Y z:=hz;show Value.int .i64 z= .int .i64 _;rcases hz' with ⟨h,_⟩ | ⟨h,e⟩ | ⟨h,e⟩
 ·omega
 ·rw [Jh h,e]
 ·rw [Jb o9,e]
def lz (x:Nat):Nat:=32 - Lib.bitLen x
theorem lz_spec {x:Nat} (h0:0 < x) (h:x < 4294967296):lz x < 32∧2147483648≤x * 2 ^ lz x∧(x + 1) * 2 ^ lz x≤4294967296:=by
 have hle:Lib.bitLen x≤32:=Lib.bitLen_le x 32 d9 h;obtain ⟨h1,h2,h3⟩:=Lib.bitLenAux_bounds 64 x (Nat.lt_trans h d9) o9;have e:Lib.bitLen x=Lib.bitLenAux 64 x:=rfl;rw [← e] at h1 h2 h3;unfold lz
 generalize Lib.bitLen x=L at *
 refine ⟨by omega,?_,?_⟩
 ·have:=Nat.mul_le_mul_right (2 ^ (32 - L)) h2;rw [← Nat.pow_add,show L - 1 + (32 - L)=31 by omega] at this;exact this
 ·have:=Nat.mul_le_mul_right (2 ^ (32 - L)) (Nat.succ_le_of_lt h3);rw [← Nat.pow_add,show L + (32 - L)=32 by omega] at this;exact this
theorem con_lz {x s:Nat} (h:x < 4294967296) (hs:s=lz x):Con Tryz.prog 159 [isD<|.int .u32 (x:Int)] (ZK (s:Int)):=by
 refine ⟨enters_of Tryz.func159 k9 I,fun L w vs hL _ ha=> ?_⟩;obtain ⟨u,rfl,rfl⟩:=zcu ha;refine (Kl (x:Int) w o9 o9).mono ?_;rintro r w' ⟨rfl,rfl⟩;refine ⟨_,I,?_,Only.refl _ _⟩;have hle:Lib.bitLen x≤32:=Lib.bitLen_le x 32 d9 h;show Value.int .i64 _= .int .i64 _;rw [hs,J7];unfold lz;congr 1;omega
theorem qL (B:Nat):∀ (a b x:Nat),Nm.pad B (a + b) x=Nm.pad B a x ++ Nm.pad B b (x / B ^ a)
 | 0,b,x=>by simp [Nm.pad]
 | a + 1,b,x=>by
  rw [show a + 1 + b=(a + b) + 1 by omega,Nm.pad,Nm.pad,qL B a b,List.cons_append,Nat.div_div_eq_div_mul,XI,Nat.mul_comm]
theorem pad_mod {B:Nat} (hB:0 < B) (n x:Nat):Nm.pad B n (x % B ^ n)=Nm.pad B n x:=Nm.pad_ext fun i hi=>Nm.div_mod_low hB hi
theorem zdQ {n k x:Nat} (h:k≤n):(cN .u32<|Nm.pad W32 n x).take k=cN .u32 (Nm.pad W32 k x):=by
 obtain ⟨b,rfl⟩:∃ b,n=k + b:=⟨n - k,by omega⟩;rw [qL,cN_append,JQ s9,Ji s9]
theorem con_qw' {g c j k m V R N:Nat} (hN:N=j + (m + 3) + k) (hm:m≤1000) (hV:V < W32 ^ (m + 2)) (hbig:W32≤2 * (V / W32 ^ (m + 1))) (hR:R < V * W32 ^ (j + 1)):
  ConB Tryz.prog 161 g ((cN .u32<|Nm.pad W32 N R).map isD) ((cN .u32<|Nm.pad W32 N<|R % (V * W32 ^ j)).map isD) [isD<|.slice (some ⟨g,j,none⟩) (m + 3) c,slD<|cN .u32<|Nm.pad W32 (m + 2) V] (isD<|.int .u32 ((R / W32 ^ j / V:Nat):Int)):=by
 subst hN;have hp:0 < W32 ^ j:=Nat.pow_pos d9;have hU:R / W32 ^ j < V * W32:=Nat.div_lt_of_lt_mul (by rw [XI] at hR;rw [Nat.mul_comm,Nat.mul_assoc,Nat.mul_comm W32];exact hR);have h:=con_qw (lo:=Nm.pad W32 j R) (up:=Nm.pad W32 k<|R / W32 ^ (j + (m + 3))) (g:=g) (c:=c) (U:=R / W32 ^ j) hm hV hbig hU;rw [Nm.pad_length] at h
 have hp2:R / W32 ^ (j + (m + 3))=0:=by
  rw [Nat.pow_add,← Nat.div_div_eq_div_mul];refine Nat.div_eq_of_lt (Ju hU ?_);rw [XI W32<|m + 2];exact Nat.mul_le_mul_right _ (Nat.le_of_lt hV)
 have e1:Nm.pad W32 (j + (m + 3) + k) R=Nm.pad W32 j R ++ Nm.pad W32 (m + 3) (R / W32 ^ j) ++ Nm.pad W32 k (R / W32 ^ (j + (m + 3))):=by rw [qL,qL]
 have e3:R % (V * W32 ^ j)=R % W32 ^ j + W32 ^ j * (R / W32 ^ j % V):=by rw [Nat.mul_comm V,Nat.mod_mul]
 have e4:R % (V * W32 ^ j) / W32 ^ j=R / W32 ^ j % V:=by rw [e3,Nat.add_mul_div_left _ _ hp,Nat.div_eq_of_lt<|Nat.mod_lt _ hp,JF]
 have e5:R % (V * W32 ^ j) / W32 ^ (j + (m + 3))=0:=Nat.le_zero.1 (JG (Nat.div_le_div_right<|Nat.mod_le _ _)<|Nat.le_of_eq hp2)
 have e6:Nm.pad W32 j (R % (V * W32 ^ j))=Nm.pad W32 j R:=by
  rw [← pad_mod d9 j (R % (V * W32 ^ j)),e3,Nat.add_mul_mod_self_left,Nat.mod_mod,pad_mod d9]
 have e2:Nm.pad W32 (j + (m + 3) + k) (R % (V * W32 ^ j))=Nm.pad W32 j R ++ Nm.pad W32 (m + 3) (R / W32 ^ j % V) ++ Nm.pad W32 k (R / W32 ^ (j + (m + 3))):=by
  rw [qL,qL,e4,e5,e6,hp2]
 rw [e1,e2];exact h
theorem dv_digit {Ux V j:Nat} (hV:0 < V):Ux % (V * W32 ^ (j + 1)) / W32 ^ j / V=Ux / V / W32 ^ j % W32:=by
 rw [Nat.div_div_eq_div_mul,XI,← Nat.mul_assoc,Nat.mul_comm (W32 ^ j) V,Nat.mod_mul_right_div_self,Nat.div_div_eq_div_mul]
theorem dv_put {K Q j:Nat} (hj:j < K):(Nm.pad W32 K<|Q / W32 ^ (j + 1) * W32 ^ (j + 1)).set j (Q / W32 ^ j % W32)=Nm.pad W32 K (Q / W32 ^ j * W32 ^ j):=by
 have hp:0 < W32 ^ j:=Nat.pow_pos d9
 have e0:Q / W32 ^ (j + 1) * W32 ^ (j + 1)=Q / W32 ^ (j + 1) * W32 * W32 ^ j:=by rw [XI,Nat.mul_assoc,Nat.mul_comm<|W32 ^ j]
 rw [Nm.pad_plus d9 hj (e:=Q / W32 ^ j % W32) (by rw [e0,Nat.mul_div_cancel _ hp,Nat.mul_mod_left,JF])<|Nat.mod_lt _ d9,e0,← Nat.add_mul];congr 2;rw [XI,← Nat.div_div_eq_div_mul];exact Nat.div_add_mod' _ _
theorem dv_rest {Ux V j:Nat}:Ux % (V * W32 ^ (j + 1)) % (V * W32 ^ j)=Ux % (V * W32 ^ j):=Nat.mod_mod_of_dvd _ ⟨W32,by rw [XI,Nat.mul_assoc]⟩
theorem zfg {X Y m:Nat} (hX:X < W32 ^ 100) (hY2:Nm.len W32 Y=m + 2) (hXY:Y≤X):Con Tryz.prog 137 [jz X,jz Y] (ZH [jz<|X / Y,jz<|X % Y]):=by
 have eB:W32=4294967296:=rfl;have hYX:Y < W32 ^ 100:=Nat.lt_of_le_of_lt hXY hX
 have hLX:(cN .u32<|Nm.dg W32 X).length=Nm.len W32 X:=by rw [Zh,Nm.dg_length]
 have hLY:(cN .u32<|Nm.dg W32 Y).length=m + 2:=by rw [Zh,Nm.dg_length,hY2]
 have hLX1:(cN .u32<|Nm.dg W32 X).length≤100:=by rw [hLX];exact (Nm.len_le (B:=W32) d9 100 _).2 hX
 have hXn:X < W32 ^ (cN .u32<|Nm.dg W32 X).length:=by rw [hLX];exact Nm.lt_pow_len d9 X
 have hYn:Y < W32 ^ (m + 2):=by rw [← hY2];exact Nm.lt_pow_len d9 Y
 have hYl:W32 ^ (m + 1)≤Y:=by have h1:=(Nm.len_le (B:=W32) d9 (m + 1) Y);by_cases h2:Y < W32 ^ (m + 1);have:=h1.2 h2;omega;omega
 have hge:m + 2≤(cN .u32<|Nm.dg W32 X).length:=by have h1:=(Nm.len_le (B:=W32) d9 (m + 1) X);rw [hLX];by_cases h2:Nm.len W32 X≤m + 1;have:=h1.1 h2;omega;omega
 obtain ⟨tp,htp⟩:∃ tp,tp=Y / W32 ^ (m + 1) % W32:=⟨_,rfl⟩
 have htp1:tp=Y / W32 ^ (m + 1):=by rw [htp];exact Nat.mod_eq_of_lt (Nat.div_lt_of_lt_mul (by rw [← XI];exact hYn))
 have htp0:0 < tp:=by rw [htp1];exact Nat.div_pos hYl (Nat.pow_pos d9)
 have htpB:tp < 4294967296:=by rw [htp];exact Nat.mod_lt _ d9
 obtain ⟨s,hs⟩:∃ s,s=lz tp:=⟨_,rfl⟩;obtain ⟨hs32,hlo,hhi⟩:=lz_spec htp0 htpB;rw [← hs] at hs32 hlo hhi;have hS:0 < 2 ^ s:=Nat.pow_pos d9;have hpw:0 < W32 ^ (m + 1):=Nat.pow_pos d9;have hY0:0 < Y:=Ju hpw hYl;have hV0:0 < Y * 2 ^ s:=Nat.mul_pos hY0 hS
 have hV:Y * 2 ^ s < W32 ^ (m + 2):=by have h1:Y < (tp + 1) * W32 ^ (m + 1):=(by rw [htp1,Nat.mul_comm];exact Nat.lt_mul_div_succ Y hpw);have h2:=Nat.mul_lt_mul_of_pos_right h1 hS;have h3:=Nat.mul_le_mul_right (W32 ^ (m + 1)) hhi;have h4:(tp + 1) * W32 ^ (m + 1) * 2 ^ s=(tp + 1) * 2 ^ s * W32 ^ (m + 1):=Nat.mul_right_comm _ _ _;have h5:W32 ^ (m + 2)=4294967296 * W32 ^ (m + 1):=(by rw [XI W32<|m + 1,Nat.mul_comm]);omega
 have hbig:W32≤2 * (Y * 2 ^ s / W32 ^ (m + 1)):=by have h1:tp * 2 ^ s≤Y * 2 ^ s / W32 ^ (m + 1):=(by rw [Nat.le_div_iff_mul_le hpw,Nat.mul_right_comm,htp1];exact Nat.mul_le_mul_right _<|Nat.div_mul_le_self _ _);omega
 have hQ:X * 2 ^ s / (Y * 2 ^ s)=X / Y:=Nat.mul_div_mul_right _ _ hS
 have hfitY:X < Y * W32 ^ ((cN .u32<|Nm.dg W32 X).length - (cN .u32<|Nm.dg W32 Y).length + 1):=by refine Ju hXn (JG ?_<|Nat.mul_le_mul_right _ hYl);rw [← Nat.pow_add];exact Nat.pow_le_pow_right d9 o9
 have hfit:X * 2 ^ s < Y * 2 ^ s * W32 ^ ((cN .u32<|Nm.dg W32 X).length - (cN .u32<|Nm.dg W32 Y).length + 1):=by rw [Nat.mul_right_comm];exact Nat.mul_lt_mul_of_pos_right hfitY hS
 have hQK:X / Y < W32 ^ ((cN .u32<|Nm.dg W32 X).length - (cN .u32<|Nm.dg W32 Y).length + 1):=Nat.div_lt_of_lt_mul hfitY;have hQ0:X / Y / W32 ^ ((cN .u32<|Nm.dg W32 X).length - (cN .u32<|Nm.dg W32 Y).length + 1)=0:=Nat.div_eq_of_lt hQK
 have hR:X * 2 ^ s % (Y * 2 ^ s * W32 ^ 0) / 2 ^ s=X % Y:=by rw [Nat.pow_zero,Nat.mul_one,Nat.mul_mod_mul_right,Nat.mul_div_cancel _ hS]
 have hR0:X * 2 ^ s % (Y * 2 ^ s * W32 ^ 0) < W32 ^ (m + 2):=by rw [Nat.pow_zero,Nat.mul_one];exact Nat.lt_trans (Nat.mod_lt _ hV0) hV
 have hRm:X % Y < W32 ^ (m + 2):=Nat.lt_trans (Nat.mod_lt _ hY0) hYn
 refine yy Tryz.func137 k9 I k9 fun base w0=>(zn<|zf I<|zf I<|ze<|zh<|zn<|zd I<|zd I<|zu (S:=[]) (zv (zcl hX hXY) I ⟨zc _,zc _,t9⟩ I)<|za I (yc I I)<|ze<|zK I (Jd (by split <;> omega))<|zq<|zj<|zh<|zn<|zd I<|za I (Rd.len (e:=209) I k9)<|za I (Zr I I)<|ze<|zK I (Jd o9)<|zq<|zj<|zn<|zd I<|za I (Rd.len (e:=209) I k9)<|zf I<|zN<|zd I ?_)
 refine zd I (za I (yG I I ⟨by omega,by omega⟩)<|za I (KW (e:=209) I I k9 k9 o9<|zcY (j:=m + 1) o9 o9)<|za I (Rd.le (qd I k9 s9)<|zc0<|JY _ htp.symm)<|zu (S:=[]) (zv (con_lz htpB hs) I ⟨zc _,t9⟩ I)<|zf I<|zN<|zd I<|zd I (SWl.e2 (S:=[]) (zex (con_shl hYX hs32) I ⟨zc _,zc _,t9⟩ I) fun g44=>(zd I<|Vp 44 0 (cN .u32<|Nm.pad W32 ((cN .u32<|Nm.dg W32 Y).length + 1)<|Y * 2 ^ s) I I s9 (Js _) I<|za I (Rd.shS (e:=209) I I k9 k9 s9)<|zf I<|zN<|zd I<|zd I (SWl.e2 (S:=[]) (zex (con_shl hX hs32) I ⟨zc _,zc _,t9⟩ I) fun g49=>(zf I<|zN<|zd I<|za I (Rd.len (e:=209) I k9)<|zd I<|za I (yG I I ⟨by omega,by omega⟩)<|za I (Rd.add I I ⟨by omega,by omega⟩) (SWl.e2 (S:=[]) (zdC (e:=209) (z:= .int .u32 0) (n:=(cN .u32<|Nm.dg W32 X).length - (cN .u32<|Nm.dg W32 Y).length + 1) 4 I I k9 k9 I o9 o9 o9 d9 I) fun g55=>(zf I<|ze<|zh<|zh ?_)))))));refine zi (zd I<|za I (Zx (e:=209) I k9)<|za I (yG I I ⟨by omega,by omega⟩)<|zf I<|ze<|SW.block<|yd (ι:={t:Nat // t≤(cN .u32<|Nm.dg W32 X).length - (cN .u32<|Nm.dg W32 Y).length + 1}) (fun ⟨t,ht⟩=>St.of [(8,ZK ((m + 2:Nat):Int)),(9,ZK (s:Int)),(10,slD<|cN .u32<|Nm.pad W32 (m + 2)<|Y * 2 ^ s),(11,isD<|.slice (some ⟨g49,0,none⟩) ((cN .u32<|Nm.dg W32 X).length + 1)<|(cN .u32<|Nm.dg W32 X).length + 1),(12,isD<|.slice (some ⟨g55,0,none⟩) ((cN .u32<|Nm.dg W32 X).length - (cN .u32<|Nm.dg W32 Y).length + 1)<|(cN .u32<|Nm.dg W32 X).length - (cN .u32<|Nm.dg W32 Y).length + 1),(13,ZK<|(t:Int) - 1)] [(g49,(cN .u32<|Nm.pad W32 ((cN .u32<|Nm.dg W32 X).length + 1)<|X * 2 ^ s % ((Y * 2 ^ s) * W32 ^ t)).map isD),(g55,(cN .u32<|Nm.pad W32 ((cN .u32<|Nm.dg W32 X).length - (cN .u32<|Nm.dg W32 Y).length + 1)<|X / Y / W32 ^ t * W32 ^ t).map isD)]) (fun ⟨t,ht⟩=>t) (⟨(cN .u32<|Nm.dg W32 X).length - (cN .u32<|Nm.dg W32 Y).length + 1,Js _⟩) ?_ ?_)
 ·exact ⟨⟨_,I,⟨⟨_,I,Yi o9⟩,⟨lq I,⟨⟨_,I,le_sl (by rw [hLY,zdQ o9])⟩,(sT I)⟩⟩⟩⟩,[0,1],by decide,⟨⟨_,rfl,zfJ (by rw [Nat.mod_eq_of_lt hfit])⟩,⟨⟨_,rfl,zfJ (by rw [qZ,hQ0,Nat.zero_mul])⟩,trivial⟩⟩⟩
 ·rintro ⟨t,ht⟩ K0 hK0;refine zh (zn<|zd I<|za I (YF I I)<|ze<|zC I (fun hb60=> ?_) (fun hb60=> ?_))
  ·obtain ⟨j,rfl⟩:∃ j,t=j + 1:=⟨t - 1,by have:=oT hb60;omega⟩;exact zq (zj<|zh<|SW.block<|zi<|zd I<|zd I<|zd I<|za I (Rd.le (zH I)<|Yi (b:=(j:Int)) o9)<|zd I<|zd I<|za I (Rd.add I I ⟨by omega,by omega⟩)<|za I (Rd.le (Rd.add I I ⟨by omega,by omega⟩)<|Yi (b:=((j + m + 3:Nat):Int)) o9)<|za I (Rd.slE (e:=209) I I I k9 k9 o9 o9 o9)<|zd I<|zu (S:=[_]) (Ef.callB 0 (con_qw' (k:=(cN .u32<|Nm.dg W32 X).length + 1 - (j + (m + 3))) o9 o9 hV hbig<|Nat.mod_lt _<|Nat.mul_pos hV0<|Nat.pow_pos d9) I ⟨zI (by rw [JF,show j + m + 3 - j=m + 3 by omega]),zc _,t9⟩ I (m9 I) I)<|za I (Ya (e:=209) I I k9 k9 o9 o9)<|zu (S:=[_]) (ZG 1 I I I k9 (by rw [JO,Zh,Nm.pad_length];omega)<|m9 I)<|zF<|SN.block<|zj<|zi<|zd I<|za I (yG I I ⟨by omega,by omega⟩)<|zf I<|zF (fun a w hh=>hK0 (⟨j,by omega⟩) (by show j < j + 1;omega) a w<|hh.sub<|⟨⟨_,I,⟨lq I,⟨lq I,⟨lq I,⟨lq I,⟨lq I,⟨⟨_,I,Yi o9⟩,t9⟩⟩⟩⟩⟩⟩⟩,[0,1],by decide,⟨⟨_,rfl,zfJ (by rw [dv_rest])⟩,⟨⟨_,rfl,zfJ<|zbk (j:=j) o9 rfl (by rw [dv_digit hV0,hQ];exact dv_put o9)⟩,trivial⟩⟩⟩))
  ·obtain rfl:t=0:=by have:=oF hb60;omega
   refine zQ ?_
   repeat (first | refine zX ?_ | refine zY d9 ?_)
   refine zZ (zj<|zh<|SW.freeze 12 1 (cN .u32<|Nm.pad W32 ((cN .u32<|Nm.dg W32 X).length - (cN .u32<|Nm.dg W32 Y).length + 1)<|X / Y / W32 ^ 0 * W32 ^ 0) I I s9 (Js _) I<|SW.freeze 11 0 (cN .u32<|Nm.pad W32 ((cN .u32<|Nm.dg W32 X).length + 1)<|X * 2 ^ s % ((Y * 2 ^ s) * W32 ^ 0)) I I s9 (Js _) I<|yl [] (rr [0,2,3,4,5]<|.n 1 (.n 6 (.n 7 (.r 8<|.r 9 .fin) .no) .no) .no) k9 k9 (fun d _ _ _ _ h=>by cases d <;> exact h)<|zz I I<|zz I I<|zz I I<|zl I I (Rd.shS (e:=209) I I k9 k9 (by rw [Zh,Nm.pad_length];omega))<|zz I I<|yZ I (zv (WC (by rw [Nat.pow_zero,Nat.div_one,Nat.mul_one]) o9 hQK) I ⟨zc _,t9⟩ I)<|yZ I (zv (con_shr hR0 o9 hs32) I ⟨le_sl<|zdQ o9,zc _,t9⟩ I)<|yZ I (zv (WC hR o9 hRm) I ⟨zc _,t9⟩ I)<|yR I I<|yR I I<|yE ?_)
   refine zO (fn:=Tryz.f137) (fun _ _ h=>h) (Rs.two I (zk I)<|zk I)

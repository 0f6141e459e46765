/- ASSIGNMENTS, in zal Lean: the greatest value of an assignment, from the last block to the first one. ASSIGNMENTS, in zal Lean: the search of the r -/
import Derived.Test.YtfoafihodanmhaaGreatDoorGZAC
namespace Go.Proofs.YtfoafihodanmhaaGreatDoor
namespace Co
abbrev bt (s i:Nat):Bool:=s.testBit i
theorem zen:∀ s < 64,∀ i < 6,bt s i=true→s - 2 ^ i < 64∧∀ j < 6,bt (s - 2 ^ i) j=(bt s j && !(decide (j=i))):=by decide +kernel
theorem bt_zero {n s:Nat} (hs:s < 2 ^ n) (h:∀ i < n,bt s i=false):s=0:=by
 apply Nat.eq_of_testBit_eq;intro i;rw [Nat.zero_testBit]
 by_cases hi:i < n
 ·exact h i hi
 ·exact Nat.testBit_lt_two_pow (Ju hs<|Nat.pow_le_pow_right d9 o9)
theorem Kk {n i:Nat} (h:i < n):bt (2 ^ n - 1) i=true:=by
 show Nat.testBit _ _=_;rw [Nat.testBit_two_pow_sub_one];exact Jo h
theorem pow_le64 {n:Nat} (h:n≤6):2 ^ n≤64:=Nat.pow_le_pow_right d9 h
theorem bt_le {s i:Nat} (h:bt s i=true):2 ^ i≤s:=Nat.ge_two_pow_of_testBit h
def sm (f:Nat→Int):Nat→Int
 | 0=>0
 | n + 1=>sm f n + f n
theorem sm_congr {f g:Nat→Int}:∀ {n:Nat},(∀ i < n,f i=g i)→sm f n=sm g n
 | 0,_=>rfl
 | n + 1,h=>by rw [sm,sm,sm_congr fun i hi=>h i o9,h n o9]
theorem sm_set {f g:Nat→Int} {i:Nat}:∀ {n:Nat},i < n→(∀ j < n,j≠i→f j=g j)→sm f n=sm g n + (f i - g i)
 | 0,h,_=>absurd h o9
 | n + 1,h,hj=>by
  by_cases hn:i=n
  ·subst hn;rw [sm,sm,sm_congr fun j hj'=>hj j o9 o9];omega
  ·rw [sm,sm,sm_set o9 fun j h1 h2=>hj j o9 h2,hj n o9 o9];omega
theorem sm_zero {f:Nat→Int}:∀ {n:Nat},(∀ i < n,f i=0)→sm f n=0
 | 0,_=>rfl
 | n + 1,h=>by rw [sm,sm_zero fun i hi=>h i o9,h n o9];rfl
theorem sm_le {f g:Nat→Int}:∀ {n:Nat},(∀ i < n,f i≤g i)→sm f n≤sm g n
 | 0,_=>Int.le_refl _
 | n + 1,h=>by
  have:=sm_le (n:=n) fun i hi=>h i o9;have:=h n o9;rw [sm,sm];omega
theorem sm_add {f g:Nat→Int}:∀ {n:Nat},sm (fun i=>f i + g i) n=sm f n + sm g n
 | 0=>rfl
 | n + 1=>by rw [sm,sm,sm,sm_add];omega
theorem sm_nonneg {f:Nat→Int} {n:Nat} (h:∀ i < n,0≤f i):0≤sm f n:=by
 have:=sm_le (f:=fun _=>0) (g:=f) h;rwa [sm_zero fun _ _=>rfl] at this
section
variable (n b:Nat)(c:Nat→Nat)(T:Nat→Nat→Int)(fx:Nat→Int)
def okF (i r:Nat):Bool:=decide (fx i < 0∨fx i=(r:Int))
def stp (R:List (Nat→Int × Int)) (r s:Nat) (vc:Int × Int) (i:Nat):Int × Int:=
 match R[c i - 1]? with
 | none=>vc
 | some f=>if bt s i=true∧okF fx i r=true∧(f<|s - 2 ^ i).2≠0 then (if vc.2=0∨vc.1 < (f<|s - 2 ^ i).1 + T i r then (f<|s - 2 ^ i).1 + T i r else vc.1,vc.2 + (f<|s - 2 ^ i).2) else vc
def zbL (R:List (Nat→Int × Int)) (r s:Nat):Nat→Int × Int
 | 0=>(R.headD fun _=>(0,0)) s
 | m + 1=>stp c T fx R r s (zbL R r s m) m
def dpT:Nat→List (Nat→Int × Int)
 | 0=>[fun s=>(0,if s=0 then 1 else 0)]
 | k + 1=>(fun s=>zbL c T fx (dpT k) (b - (k + 1)) s n) :: dpT k
inductive Way:Nat→Nat→Int→Prop
 | fin:Way b 0 0
 | skip {r s:Nat} {v:Int}:r < b→Way (r + 1) s v→Way r s v
 | put {r s i:Nat} {v:Int}:r < b→i < n→bt s i=true→okF fx i r=true→r + c i≤b→Way (r + c i) (s - 2 ^ i) v→Way r s (v + T i r)
end
section
variable {n b:Nat}{c:Nat→Nat}{T:Nat→Nat→Int}{fx:Nat→Int}
theorem Way.le {M:Int} (hM:∀ i r,0≤T i r∧T i r≤M) (hc:∀ i,1≤c i) {r s:Nat} {v:Int} (h:Way n b c T fx r s v):r≤b∧0≤v∧v≤((b - r:Nat):Int) * M:=by
 have hM0:0≤M:=Int.le_trans (hM 0 0).1 (hM 0 0).2
 induction h with
 | fin=>exact ⟨Js _,Int.le_refl _,by simp⟩
 | @skip r s v h1 _ ih=>
  refine ⟨by omega,ih.2.1,Int.le_trans ih.2.2 ?_⟩;exact Int.mul_le_mul_of_nonneg_right o9 hM0
 | @put r s i v h1 _ _ _ h5 _ ih=>
  have h6:=hM i r;have h7:=hc i;refine ⟨by omega,by omega,?_⟩
  have h8:((b - (r + c i):Nat):Int) * M + M≤((b - r:Nat):Int) * M:=by
   have:((b - (r + c i):Nat):Int) * M + M=((b - (r + c i):Nat) + 1:Int) * M:=by rw [Int.add_mul,Int.one_mul]
   rw [this];exact Int.mul_le_mul_of_nonneg_right o9 hM0
  omega
def Sp (n b:Nat) (c:Nat→Nat) (T:Nat→Nat→Int) (fx:Nat→Int) (K:Int) (r:Nat) (f:Nat→Int × Int):Prop:=
 ∀ s < 2 ^ n,0≤(f s).2∧(f s).2≤K∧((f s).2=0→(f s).1=0∧∀ v,¬Way n b c T fx r s v)∧((f s).2≠0→Way n b c T fx r s (f s).1∧∀ v,Way n b c T fx r s v→v≤(f s).1)
def Wm (n b:Nat) (c:Nat→Nat) (T:Nat→Nat→Int) (fx:Nat→Int) (r s m:Nat) (v:Int):Prop:=
 Way n b c T fx (r + 1) s v∨∃ i < m,bt s i=true∧okF fx i r=true∧r + c i≤b∧∃ u,Way n b c T fx (r + c i) (s - 2 ^ i) u∧v=u + T i r
theorem Wm.way {r s m:Nat} {v:Int} (hr:r < b) (hm:m≤n) (h:Wm n b c T fx r s m v):Way n b c T fx r s v:=by
 rcases h with h | ⟨i,h1,h2,h3,h4,u,h5,rfl⟩
 ·exact .skip hr h
 ·exact .put hr o9 h2 h3 h4 h5
theorem Way.wm {r s:Nat} {v:Int} (hr:r < b) (h:Way n b c T fx r s v):Wm n b c T fx r s n v:=by
 cases h with
 | fin=>omega
 | skip _ h=>exact .inl h
 | put _ h2 h3 h4 h5 h6=>exact .inr ⟨_,h2,h3,h4,h5,_,h6,rfl⟩
theorem row_sp (hn:n≤6) (hc:∀ i,1≤c i) {K:Int} {r:Nat} {R:List (Nat→Int × Int)} (hr:r < b) (hR:R.length=b - r) (h:∀ j f,R[j]? =some f→Sp n b c T fx K (r + 1 + j) f) {s:Nat} (hs:s < 2 ^ n):
  ∀ m≤n,0≤(zbL c T fx R r s m).2∧(zbL c T fx R r s m).2≤(m + 1) * K∧((zbL c T fx R r s m).2=0→(zbL c T fx R r s m).1=0∧∀ v,¬Wm n b c T fx r s m v)∧((zbL c T fx R r s m).2≠0→Wm n b c T fx r s m (zbL c T fx R r s m).1∧∀ v,Wm n b c T fx r s m v→v≤(zbL c T fx R r s m).1)
 | 0,_=>by
  match R,hR,h with
  | [],hR,_=>simp at hR;omega
  | f :: R,hR,h=>
   have h0:=h 0 f rfl s hs;show 0≤(f s).2∧(f s).2≤_∧_;refine ⟨h0.1,by have:=h0.2.1;simp;omega,fun e=>⟨(h0.2.2.1 e).1,fun v hv=> ?_⟩,fun e=>⟨.inl (h0.2.2.2 e).1,fun v hv=> ?_⟩⟩
   ·rcases hv with hv | ⟨i,hi,_⟩
    ·exact (h0.2.2.1 e).2 v hv
    ·omega
   ·rcases hv with hv | ⟨i,hi,_⟩
    ·exact (h0.2.2.2 e).2 v hv
    ·omega
 | m + 1,hm=>by
  have ih:=row_sp hn hc hr hR h hs m o9
  have hK:0≤K:=by
   have h1:R[0]? =some (R[0]'o9):=Je o9;have:=h 0 _ h1 s hs;omega
  have hmono:((m:Int) + 1) * K≤((m + 1:Nat) + 1:Int) * K:=Int.mul_le_mul_of_nonneg_right o9 hK;show 0≤(stp c T fx R r s (zbL c T fx R r s m) m).2∧(stp c T fx R r s (zbL c T fx R r s m) m).2≤_∧((stp c T fx R r s (zbL c T fx R r s m) m).2=0→(stp c T fx R r s (zbL c T fx R r s m) m).1=0∧_)∧((stp c T fx R r s (zbL c T fx R r s m) m).2≠0→Wm n b c T fx r s (m + 1) (stp c T fx R r s (zbL c T fx R r s m) m).1∧∀ v,_→v≤(stp c T fx R r s (zbL c T fx R r s m) m).1)
  generalize zbL c T fx R r s m=vc at ih ⊢
  have same:(∀ v,Wm n b c T fx r s (m + 1) v→Wm n b c T fx r s m v)→0≤vc.2∧vc.2≤((m + 1:Nat) + 1:Int) * K∧(vc.2=0→vc.1=0∧∀ v,¬Wm n b c T fx r s (m + 1) v)∧(vc.2≠0→Wm n b c T fx r s (m + 1) vc.1∧∀ v,Wm n b c T fx r s (m + 1) v→v≤vc.1):=by
   intro hw;refine ⟨ih.1,Int.le_trans ih.2.1 hmono,fun e=>⟨(ih.2.2.1 e).1,fun v hv=>(ih.2.2.1 e).2 v<|hw v hv⟩,fun e=>⟨?_,fun v hv=>(ih.2.2.2 e).2 v<|hw v hv⟩⟩;rcases (ih.2.2.2 e).1 with h1 | ⟨i,hi,h1⟩
   ·exact .inl h1
   ·exact .inr ⟨i,by omega,h1⟩
  have other:(∀ u,bt s m=true→okF fx m r=true→r + c m≤b→¬Way n b c T fx (r + c m) (s - 2 ^ m) u)→∀ v,Wm n b c T fx r s (m + 1) v→Wm n b c T fx r s m v:=by
   rintro h1 v (hv | ⟨i,hi,h2,h3,h4,u,h5,rfl⟩)
   ·exact .inl hv
   ·by_cases e:i=m
    ·subst e;exact absurd h5 (h1 u h2 h3 h4)
    ·exact .inr ⟨i,by omega,h2,h3,h4,u,h5,rfl⟩
  unfold stp;have hcm:=hc m
  cases hf:R[c m - 1]? with
  | none=>
   refine same (other fun u _ _ h4=> ?_);have:=List.getElem?_eq_none_iff.1 hf;omega
  | some f=>
   obtain ⟨hlt,-⟩:=List.getElem?_eq_some_iff.1 hf;have hsp:=h _ f hf;rw [show r + 1 + (c m - 1)=r + c m by omega] at hsp;dsimp only
   split
   ·rename_i hcond;obtain ⟨k1,k2,k3⟩:=hcond;have hb:=zen s (Ju hs<|pow_le64 hn) m o9 k1;have h2:=hsp (s - 2 ^ m) (Nat.lt_of_le_of_lt (Nat.sub_le _ _) hs);obtain ⟨w1,w2⟩:=h2.2.2.2 k3
    have hpos:0 < (f<|s - 2 ^ m).2:=by have:=h2.1;omega
    have hrw:r + c m≤b:=by omega
    refine ⟨by show 0≤vc.2 + _;have:=ih.1;omega,?_,fun e=> ?_,fun _=> ?_⟩
    ·show vc.2 + (f<|s - 2 ^ m).2≤_
     have e1:((m + 1:Nat) + 1:Int) * K=((m:Int) + 1) * K + K:=by rw [show ((m + 1:Nat) + 1:Int)=((m:Int) + 1) + 1 by omega,Int.add_mul,Int.one_mul]
     have:=ih.2.1;have:=h2.2.1;omega
    ·exfalso
     have e:vc.2 + (f<|s - 2 ^ m).2=0:=e;have:=ih.1;omega
    ·have new:Wm n b c T fx r s (m + 1) ((f<|s - 2 ^ m).1 + T m r):= .inr ⟨m,by omega,k1,k2,hrw,_,w1,rfl⟩
     have up:∀ v,Wm n b c T fx r s m v→Wm n b c T fx r s (m + 1) v:=by
      rintro v (hv | ⟨i,hi,hv⟩)
      ·exact .inl hv
      ·exact .inr ⟨i,by omega,hv⟩
     have cs:∀ v,Wm n b c T fx r s (m + 1) v→Wm n b c T fx r s m v∨v≤(f<|s - 2 ^ m).1 + T m r:=by
      rintro v (hv | ⟨i,hi,h2,h3,h4,u,h5,rfl⟩)
      ·exact .inl (.inl hv)
      ·by_cases e:i=m
       ·subst e;have:=w2 u h5;right;omega
       ·exact .inl (.inr ⟨i,by omega,h2,h3,h4,u,h5,rfl⟩)
     by_cases hlt2:vc.2=0∨vc.1 < (f<|s - 2 ^ m).1 + T m r
     ·simp only [Jh hlt2];refine ⟨new,fun v hv=> ?_⟩;rcases cs v hv with h6 | h6
      ·rcases hlt2 with h7 | h7
       ·exact absurd h6 ((ih.2.2.1 h7).2 v)
       ·by_cases h8:vc.2=0
        ·exact absurd h6 ((ih.2.2.1 h8).2 v)
        ·have:=(ih.2.2.2 h8).2 v h6;omega
      ·exact h6
     ·simp only [Jb hlt2];have h8:vc.2≠0:=fun e=>hlt2 (.inl e);refine ⟨up _ (ih.2.2.2 h8).1,fun v hv=> ?_⟩;rcases cs v hv with h6 | h6
      ·exact (ih.2.2.2 h8).2 v h6
      ·have:¬vc.1 < (f<|s - 2 ^ m).1 + T m r:=fun h=>hlt2 (.inr h);omega
   ·rename_i hcond;refine same (other fun u h2 h3 h4 h5=> ?_);have hb:=zen s (Ju hs<|pow_le64 hn) m o9 h2;have h2':=hsp (s - 2 ^ m) (Nat.lt_of_le_of_lt (Nat.sub_le _ _) hs)
    have hz:(f<|s - 2 ^ m).2=0:=by
     by_cases e:(f<|s - 2 ^ m).2=0
     ·exact e
     ·exact absurd ⟨h2,h3,e⟩ hcond
    exact (h2'.2.2.1 hz).2 u h5
theorem dp_sp (hn:n≤6) (hc:∀ i,1≤c i):∀ k≤b,(dpT n b c T fx k).length=k + 1∧∀ j f,(dpT n b c T fx k)[j]? =some f→Sp n b c T fx (7 ^ k:Nat) (b - k + j) f
 | 0,_=>by
  refine ⟨I,fun j f hj=> ?_⟩
  match j,hj with
  | 0,hj=>
   obtain rfl:=JN hj;intro s hs
   by_cases e:s=0
   ·subst e;refine ⟨by simp,by simp,fun h=>by simp at h,fun _=>⟨.fin,fun v hv=> ?_⟩⟩
    cases hv with
    | fin=>exact Int.le_refl _
    | skip h _=>omega
    | put h _ _ _ _ _=>omega
   ·refine ⟨by simp [e],by simp [e],fun _=>⟨rfl,fun v hv=> ?_⟩,fun h=>by simp [e] at h⟩
    cases hv with
    | fin=>exact e rfl
    | skip h _=>omega
    | put h _ _ _ _ _=>omega
  | j + 1,hj=>simp [dpT] at hj
 | k + 1,hk=>by
  obtain ⟨ih1,ih2⟩:=dp_sp hn hc k o9;refine ⟨by simp [dpT,ih1],fun j f hj=> ?_⟩
  match j,hj with
  | 0,hj=>
   obtain rfl:=JN hj;intro s hs;have h:=row_sp (b:=b) (K:=((7 ^ k:Nat):Int)) (T:=T) (fx:=fx) hn hc (r:=b - (k + 1)) o9 (by rw [ih1];omega) (fun j f hj=>by have:=ih2 j f hj;rwa [show b - (k + 1) + 1 + j=b - k + j by omega]) hs n (Js _);refine ⟨h.1,Int.le_trans h.2.1 ?_,fun e=>⟨(h.2.2.1 e).1,fun v hv=>(h.2.2.1 e).2 v<|hv.wm o9⟩,fun e=>⟨(h.2.2.2 e).1.way o9<|Js _,fun v hv=>(h.2.2.2 e).2 v<|hv.wm o9⟩⟩;have:((n:Int) + 1) * ((7 ^ k:Nat):Int)≤7 * ((7 ^ k:Nat):Int):=Int.mul_le_mul_of_nonneg_right o9 (Int.natCast_nonneg _);rw [XI];omega
  | j + 1,hj=>
   have:=ih2 j f hj;rw [show b - (k + 1) + (j + 1)=b - k + j by omega];intro s hs;have h:=this s hs;refine ⟨h.1,Int.le_trans h.2.1 ?_,h.2.2⟩;rw [XI];omega
def OkA (n b:Nat) (c:Nat→Nat) (fx:Nat→Int) (a:Nat→Nat) (s r:Nat):Prop:=
 (∀ i < n,bt s i=true→r≤a i∧a i + c i≤b∧okF fx i (a i)=true)∧∀ i < n,∀ j < n,i≠j→bt s i=true→bt s j=true→a i + c i≤a j∨a j + c j≤a i
def vlA (n:Nat) (T:Nat→Nat→Int) (a:Nat→Nat) (s:Nat):Int:=sm (fun i=>if bt s i=true then T i (a i) else 0) n
theorem Wb (hn:n≤6) (hc:∀ i,1≤c i) {a:Nat→Nat}:∀ (k r s:Nat),b - r=k→r≤b→s < 2 ^ n→OkA n b c fx a s r→Way n b c T fx r s (vlA n T a s)
 | 0,r,s,hk,hr,hs,h=>by
  have hb:r=b:=by omega
  subst hb
  have hz:∀ i < n,bt s i=false:=fun i hi=>by
   cases e:bt s i with
   | false=>rfl
   | true=>have:=h.1 i hi e;have:=hc i;omega
  obtain rfl:=bt_zero hs hz;rw [show vlA n T a 0=0 from sm_zero fun i hi=>by rw [hz i hi];rfl];exact .fin
 | k + 1,r,s,hk,hr,hs,h=>by
  by_cases e:∃ i < n,bt s i=true∧a i=r
  ·obtain ⟨i,hi,h1,rfl⟩:=e;have h2:=h.1 i hi h1;have hci:=hc i;have hb:=zen s (Ju hs<|pow_le64 hn) i o9 h1
   have hw:=Wb hn hc (a:=a) (b - (a i + c i)) (a i + c i) (s - 2 ^ i) rfl h2.2.1 (Nat.lt_of_le_of_lt (Nat.sub_le _ _) hs) ⟨fun j hj hjs=>by
    rw [hb.2 j o9] at hjs;simp only [JL,XF,Xi] at hjs;have h3:=h.1 j hj hjs.1;refine ⟨?_,h3.2⟩;have h4:=h.2 i hi j hj (fun e=>hjs.2 e.symm) h1 hjs.1;have:=hc j
    omega,fun j hj m hm hjm hjs hms=>by
    rw [hb.2 j o9] at hjs;rw [hb.2 m o9] at hms;simp only [JL,XF,Xi] at hjs hms
    exact h.2 j hj m hm hjm hjs.1 hms.1⟩
   have hv:vlA n T a s=vlA n T a (s - 2 ^ i) + T i (a i):=by
    unfold vlA
    rw [sm_set (g:=fun j=>if bt (s - 2 ^ i) j=true then T j (a j) else 0) hi fun j hj hji=>by rw [hb.2 j o9];simp [hji]]
    rw [hb.2 i o9,h1];simp
   rw [hv];exact .put o9 hi h1 h2.2.2 h2.2.1 hw
  ·refine .skip o9 (Wb hn hc k (r + 1) s o9 o9 hs ⟨fun i hi h1=> ?_,h.2⟩);have h2:=h.1 i hi h1;refine ⟨?_,h2.2⟩;have:a i≠r:=fun e'=>e ⟨i,hi,h1,e'⟩;omega
termination_by k=>k
decreasing_by all_goals (try simp_wf);all_goals (try omega)
theorem ok_of_way (hn:n≤6) {r s:Nat} {v:Int} (hs:s < 2 ^ n) (h:Way n b c T fx r s v):∃ a,OkA n b c fx a s r∧v=vlA n T a s:=by
 induction h with
 | fin=>
  have hz:∀ i,bt 0 i=false:=fun i=>Nat.zero_testBit i;exact ⟨fun _=>0,⟨fun i _ h=>(by rw [hz] at h;cases h),fun i _ j _ _ h=>(by rw [hz] at h;cases h)⟩,(sm_zero fun i _=>by rw [hz i];rfl).symm⟩
 | @skip r s v h1 h2 ih=>
  obtain ⟨a,ha,rfl⟩:=ih hs;exact ⟨a,⟨fun i hi h=>by have:=ha.1 i hi h;exact ⟨by omega,this.2⟩,ha.2⟩,I⟩
 | @put r s i v h1 hi h3 h4 h5 h6 ih=>
  have hb:=zen s (Ju hs<|pow_le64 hn) i o9 h3;obtain ⟨a,ha,rfl⟩:=ih (Nat.lt_of_le_of_lt (Nat.sub_le _ _) hs)
  have hin:∀ j < n,j≠i→bt s j=true→bt (s - 2 ^ i) j=true:=fun j hj hji hjs=>by rw [hb.2 j o9,hjs];simp [hji]
  refine ⟨fun j=>if j=i then r else a j,⟨fun j hj hjs=> ?_,fun j hj m hm hjm hjs hms=> ?_⟩,?_⟩
  ·by_cases e:j=i
   ·subst e;simp only [if_true];exact ⟨Js _,h5,h4⟩
   ·simp only [Jb e];have:=ha.1 j hj (hin j hj e hjs);exact ⟨by omega,this.2⟩
  ·by_cases e:j=i
   ·subst e;have e2:m≠j:=fun e=>hjm e.symm;simp only [if_true,Jb e2];have:=ha.1 m hm (hin m hm e2 hms);left;omega
   ·by_cases e2:m=i
    ·subst e2;simp only [if_true,Jb e];have:=ha.1 j hj (hin j hj e hjs);right;omega
    ·simp only [Jb e,Jb e2];exact ha.2 j hj m hm hjm (hin j hj e hjs) (hin m hm e2 hms)
  ·unfold vlA
   rw [sm_set (f:=fun j=>if bt s j=true then T j (if j=i then r else a j) else 0) (g:=fun j=>if bt (s - 2 ^ i) j=true then T j (a j) else 0) hi fun j hj hji=>by rw [hb.2 j o9];simp [hji]]
   rw [hb.2 i o9,h3];simp
end
end Co
namespace Co
def free (u:List Bool) (s c:Nat):Bool:=decide (∀ k < c,u.getD (s + k) false=false)
def mk (u:List Bool) (s:Nat):Nat→List Bool
 | 0=>u
 | c + 1=>(mk u s c).set (s + c) true
theorem mk_len (u:List Bool) (s:Nat):∀ c,(mk u s c).length=u.length
 | 0=>rfl
 | c + 1=>by rw [mk,Xl,mk_len u s c]
theorem mk_get (u:List Bool) (s i:Nat):∀ c,s + c≤u.length→(mk u s c).getD i false=(u.getD i false || decide (s≤i∧i < s + c))
 | 0,_=>by
  rw [mk,show decide (s≤i∧i < s + 0)=false from Jd o9,Bool.or_false]
 | c + 1,h=>by
  have ih:=mk_get u s i c o9;rw [mk]
  by_cases e:i=s + c
  ·subst e;rw [Jr,List.getElem?_set_self (by rw [mk_len];omega),show decide (s≤s + c∧s + c < s + (c + 1))=true from Jo o9];simp
  ·rw [Jr,List.getElem?_set_ne (fun h=>e h.symm),← Jr,ih];congr 1;rw [JW];omega
abbrev Cs:=List (Nat × (Nat→Int))
def Fits:Cs→List Bool→LN→Prop
 | [],_,[]=>True
 | c :: l,u,s :: a=>s + c.1≤u.length∧free u s c.1=true∧Fits l (mk u s c.1) a
 | _,_,_=>False
def vlF:Cs→LN→Int
 | c :: l,s :: a=>c.2 s + vlF l a
 | _,_=>0
def lxl:LN→LN→Prop
 | [],_=>True
 | x :: a,y :: b=>x < y∨(x=y∧lxl a b)
 | _ :: _,[]=>False
def srN (r:List Bool→Bool × Int × LN) (c:Nat) (f:Nat→Int) (u:List Bool):Nat→Bool × Int × LN
 | 0=>(false,0,[])
 | s + 1=>if free u s c=true∧(r<|mk u s c).1=true∧((srN r c f u s).1=false∨(srN r c f u s).2.1 < (r<|mk u s c).2.1 + f s) then (true,(r<|mk u s c).2.1 + f s,s :: (r<|mk u s c).2.2) else srN r c f u s
def srch:Cs→List Bool→Bool × Int × LN
 | [],_=>(true,0,[])
 | c :: l,u=>srN (srch l) c.1 c.2 u (u.length + 1 - c.1)
def Fnd (P:LN→Prop) (V:LN→Int) (r:Bool × Int × LN):Prop:=
 (r.1=true→P r.2.2∧V r.2.2=r.2.1∧∀ a,P a→V a < r.2.1∨(V a=r.2.1∧lxl r.2.2 a))∧(r.1=false→r.2.1=0∧r.2.2=[]∧∀ a,¬P a)
theorem srN_fnd {l:Cs} {r:List Bool→Bool × Int × LN} (hr:∀ u,Fnd (Fits l u) (vlF l)<|r u) (c:Nat × (Nat→Int)) (u:List Bool):∀ m,m≤u.length + 1 - c.1→Fnd (fun a=>Fits (c :: l) u a∧∃ x a',a=x :: a'∧x < m) (vlF<|c :: l) (srN r c.1 c.2 u m)
 | 0,_=>⟨fun h=>(by cases h),fun _=>⟨rfl,rfl,by rintro a ⟨_,x,_,_,h⟩;omega⟩⟩
 | s + 1,hm=>by
  have ih:=srN_fnd hr c u s o9;have h2:=hr (mk u s c.1);rw [srN]
  generalize srN r c.1 c.2 u s=p at ih ⊢
  generalize r (mk u s c.1)=q at h2 ⊢
  have key:∀ a,(Fits (c :: l) u a∧∃ x a',a=x :: a'∧x < s + 1)→(Fits (c :: l) u a∧∃ x a',a=x :: a'∧x < s)∨∃ a',a=s :: a'∧free u s c.1=true∧Fits l (mk u s c.1) a':=by
   rintro a ⟨h3,x,a',rfl,hx⟩
   by_cases e:x=s
   ·subst e;exact .inr ⟨a',rfl,h3.2.1,h3.2.2⟩
   ·exact .inl ⟨h3,x,a',I,by omega⟩
  have up:∀ a,(Fits (c :: l) u a∧∃ x a',a=x :: a'∧x < s)→(Fits (c :: l) u a∧∃ x a',a=x :: a'∧x < s + 1):=by
   rintro a ⟨h3,x,a',e,hx⟩;exact ⟨h3,x,a',e,by omega⟩
  split
  ·rename_i hc;obtain ⟨k1,k2,k3⟩:=hc;obtain ⟨w1,w2,w3⟩:=h2.1 k2;refine ⟨fun _=>⟨⟨⟨by omega,k1,w1⟩,s,_,I,by omega⟩,?_,fun a ha=> ?_⟩,fun h=>by cases h⟩
   ·show c.2 s + vlF l q.2.2=q.2.1 + c.2 s;rw [w2];omega
   ·dsimp only;rcases key a ha with h3 | ⟨a',rfl,_,h4⟩
    ·rcases k3 with k3 | k3
     ·exact absurd h3 ((ih.2 k3).2.2 a)
     ·cases hp:p.1 with
      | false=>exact absurd h3 ((ih.2 hp).2.2 a)
      | true=>
       rcases (ih.1 hp).2.2 a h3 with h5 | h5
       ·left;omega
       ·left;omega
    ·show c.2 s + vlF l a' < _∨(c.2 s + vlF l a'=_∧_);rcases w3 a' h4 with h5 | h5
     ·left;omega
     ·right;exact ⟨by omega,.inr ⟨rfl,h5.2⟩⟩
  ·rename_i hc;refine ⟨fun hp=>⟨up _ (ih.1 hp).1,(ih.1 hp).2.1,fun a ha=> ?_⟩,fun hp=>⟨(ih.2 hp).1,(ih.2 hp).2.1,fun a ha=> ?_⟩⟩
   ·rcases key a ha with h3 | ⟨a',rfl,h4,h5⟩
    ·exact (ih.1 hp).2.2 a h3
    ·cases hq:q.1 with
     | false=>exact absurd h5 ((h2.2 hq).2.2 a')
     | true=>
      have h6:¬p.2.1 < q.2.1 + c.2 s:=fun h=>hc ⟨h4,hq,.inr h⟩;show c.2 s + vlF l a' < _∨(c.2 s + vlF l a'=_∧_);obtain ⟨-,x,b',e,hx⟩:=(ih.1 hp).1
      have h7:lxl p.2.2 (s :: a'):=by rw [e];exact .inl hx
      rcases (h2.1 hq).2.2 a' h5 with h8 | h8
      ·left;omega
      ·by_cases e:c.2 s + vlF l a'=p.2.1
       ·exact .inr ⟨e,h7⟩
       ·left;omega
   ·rcases key a ha with h3 | ⟨a',rfl,h4,h5⟩
    ·exact (ih.2 hp).2.2 a h3
    ·cases hq:q.1 with
     | false=>exact (h2.2 hq).2.2 a' h5
     | true=>exact hc ⟨h4,hq,.inl hp⟩
theorem qw:∀ (l:Cs) (u:List Bool),Fnd (Fits l u) (vlF l) (srch l u)
 | [],u=>⟨fun _=>⟨trivial,rfl,fun a ha=>by
   cases a with
   | nil=>exact .inr ⟨rfl,trivial⟩
   | cons _ _=>exact ha.elim⟩,fun h=>by cases h⟩
 | c :: l,u=>by
  have h:=srN_fnd (qw l) c u _ (Js _)
  have e:∀ a,(Fits (c :: l) u a∧∃ x a',a=x :: a'∧x < u.length + 1 - c.1)↔Fits (c :: l) u a:=by
   intro a;refine ⟨fun h=>h.1,fun h=>⟨h,?_⟩⟩
   cases a with
   | nil=>exact h.elim
   | cons x a'=>exact ⟨x,a',rfl,by have:=h.1;omega⟩
  rw [srch];refine ⟨fun hp=> ?_,fun hp=> ?_⟩
  ·obtain ⟨h1,h2,h3⟩:=h.1 hp;exact ⟨(e _).1 h1,h2,fun a ha=>h3 a<|(e a).2 ha⟩
  ·obtain ⟨h1,h2,h3⟩:=h.2 hp;exact ⟨h1,h2,fun a ha=>h3 a<|(e a).2 ha⟩
theorem zc6 {u:List Bool} {s c s' c':Nat} (h:s + c≤u.length) (hc:1≤c) (hc':1≤c'):free (mk u s c) s' c'=true↔free u s' c'=true∧(s + c≤s'∨s' + c'≤s):=by
 simp only [free,Jz];refine ⟨fun hf=>⟨fun k hk=> ?_,?_⟩,fun ⟨hf,hd⟩ k hk=> ?_⟩
 ·have:=hf k hk;rw [mk_get _ _ _ _ h] at this;simp only [Bool.or_eq_false_iff] at this;exact this.1
 ·have hh:∀ k < c',¬(s≤s' + k∧s' + k < s + c):=fun k hk=>by
   have:=hf k hk;rw [mk_get _ _ _ _ h] at this;simp only [Bool.or_eq_false_iff,Xi] at this;exact this.2
  by_cases h1:s + c≤s'
  ·exact .inl h1
  ·by_cases h2:s' + c'≤s
   ·exact .inr h2
   ·exfalso
    by_cases h3:s≤s'
    ·exact hh 0 o9 ⟨by omega,by omega⟩
    ·exact hh (s - s') o9 ⟨by omega,by omega⟩
 ·rw [mk_get _ _ _ _ h,hf k hk,Bool.false_or];exact Jd o9
theorem Yw:∀ (l:Cs) (u:List Bool) (a:LN),(∀ c∈l,1≤c.1)→(Fits l u a↔a.length=l.length∧(∀ (i:Nat) c x,l[i]? =some c→a[i]? =some x→x + c.1≤u.length∧free u x c.1=true)∧∀ (i j:Nat) c x d y,i < j→l[i]? =some c→a[i]? =some x→l[j]? =some d→a[j]? =some y→x + c.1≤y∨y + d.1≤x)
 | [],u,[],_=>⟨fun _=>⟨rfl,fun i c x h=>by simp at h,fun i j c x d y _ h=>by simp at h⟩,fun _=>trivial⟩
 | [],u,_ :: _,_=>⟨fun h=>h.elim,fun h=>by simp at h⟩
 | _ :: _,u,[],_=>⟨fun h=>h.elim,fun h=>by simp at h⟩
 | c :: l,u,s :: a,hc=>by
  have ih:=Yw l (mk u s c.1) a fun d hd=>hc d (Jl _ hd);have hc1:=hc c mC;show (s + c.1≤u.length∧free u s c.1=true∧Fits l (mk u s c.1) a)↔_;rw [ih,mk_len]
  constructor
  ·rintro ⟨h1,h2,h3,h4,h5⟩;refine ⟨by simp [h3],fun i d x hi hx=> ?_,fun i j d x e y hij hi hx hj hy=> ?_⟩
   ·cases i with
    | zero=>
     obtain rfl:=JN hi;obtain rfl:=JN hx;exact ⟨h1,h2⟩
    | succ i=>
     have h6:=h4 i d x hi hx;exact ⟨h6.1,((zc6 h1 hc1<|hc d<|Jl _<|Jc hi).1 h6.2).1⟩
   ·cases j with
    | zero=>omega
    | succ j=>
     cases i with
     | zero=>
      obtain rfl:=JN hi;obtain rfl:=JN hx;have h6:=h4 j e y hj hy;exact ((zc6 h1 hc1<|hc e<|Jl _<|Jc hj).1 h6.2).2
     | succ i=>exact h5 i j d x e y o9 hi hx hj hy
  ·rintro ⟨h1,h2,h3⟩;have h4:=h2 0 c s rfl rfl;refine ⟨h4.1,h4.2,by simpa using h1,fun i d x hi hx=> ?_,fun i j d x e y hij hi hx hj hy=>h3 (i + 1) (j + 1) d x e y o9 hi hx hj hy⟩;have h5:=h2 (i + 1) d x hi hx;exact ⟨h5.1,(zc6 h4.1 hc1<|hc d<|Jl _<|Jc hi).2 ⟨h5.2,h3 0 (i + 1) c s d x o9 I I hi hx⟩⟩
def cO (l:Cs) (i:Nat):Nat:=(l[i]?.map (·.1)).getD 1
def tO (l:Cs) (i r:Nat):Int:=(l[i]?.map fun c=>c.2 r).getD 0
theorem zdF:∀ (l:Cs) (a:LN),a.length=l.length→vlF l a=sm (fun i=>tO l i<|a.getD i 0) l.length
 | [],[],_=>rfl
 | [],_ :: _,h=>by simp at h
 | _ :: _,[],h=>by simp at h
 | c :: l,s :: a,h=>by
  have ih:=zdF l a (by simpa using h)
  have sh:∀ (f:Nat→Int) (n:Nat),sm f (n + 1)=f 0 + sm (fun i=>f<|i + 1) n:=by
   intro f n
   induction n with
   | zero=>simp [sm]
   | succ n ih=>rw [sm,ih,sm];omega
  show c.2 s + vlF l a=sm _ (l.length + 1);rw [sh,ih]
  rfl
theorem Ww {b x c:Nat}:free (List.replicate b false) x c=true:=by
 simp only [free,Jz];intro k _;rw [Jr,Xj]
 split <;> rfl
theorem fits_ok {l:Cs} {b:Nat} (hc:∀ c∈l,1≤c.1) {fx:Nat→Int} {a:LN} (hfx:∀ i < l.length,okF fx i (a.getD i 0)=true) (h:Fits l (List.replicate b false) a):OkA l.length b (cO l) fx (fun i=>a.getD i 0) (2 ^ l.length - 1) 0:=by
 obtain ⟨h1,h2,h3⟩:=(Yw l _ a hc).1 h
 have hg:∀ i < l.length,∃ c x,l[i]? =some c∧a[i]? =some x∧cO l i=c.1∧a.getD i 0=x:=fun i hi=>by
  refine ⟨l[i],a[i]'o9,Je hi,Je o9,?_,?_⟩
  ·unfold cO;rw [Je hi];rfl
  ·rw [Jr,Je (show i < a.length by omega)];rfl
 refine ⟨fun i hi _=> ?_,fun i hi j hj hij _ _=> ?_⟩
 ·obtain ⟨c,x,q1,q2,q3,q4⟩:=hg i hi;have:=(h2 i c x q1 q2).1;rw [List.length_replicate] at this;refine ⟨Nat.zero_le _,?_,hfx i hi⟩;dsimp only;rw [q3,q4];exact this
 ·obtain ⟨c,x,q1,q2,q3,q4⟩:=hg i hi;obtain ⟨d,y,r1,r2,r3,r4⟩:=hg j hj;dsimp only;rw [q3,q4,r3,r4]
  by_cases e:i < j
  ·exact h3 i j c x d y e q1 q2 r1 r2
  ·exact (h3 j i d y c x o9 r1 r2 q1 q2).symm
theorem ok_fits {l:Cs} {b:Nat} (hc:∀ c∈l,1≤c.1) {fx:Nat→Int} {a:Nat→Nat} (h:OkA l.length b (cO l) fx a (2 ^ l.length - 1) 0):Fits l (List.replicate b false) ((List.range l.length).map a):=by
 have hg:∀ i c x,l[i]? =some c→((List.range l.length).map a)[i]? =some x→i < l.length∧cO l i=c.1∧a i=x:=fun i c x h1 h2=>by
  obtain ⟨hi,-⟩:=Jg.1 h1;refine ⟨hi,by unfold cO;rw [h1];rfl,?_⟩;rw [JJ,List.getElem?_range hi] at h2;exact JN h2
 refine (Yw l _ _ hc).2 ⟨by simp,fun i c x h1 h2=> ?_,fun i j c x d y hij h1 h2 h3 h4=> ?_⟩
 ·obtain ⟨hi,e1,e2⟩:=hg i c x h1 h2;have:=h.1 i hi (Kk hi);rw [e1,e2] at this;exact ⟨by rw [List.length_replicate];exact this.2.1,Ww⟩
 ·obtain ⟨hi,e1,e2⟩:=hg i c x h1 h2;obtain ⟨hj,e3,e4⟩:=hg j d y h3 h4;have:=h.2 i hi j hj o9 (Kk hi) (Kk hj);rwa [e1,e2,e3,e4] at this
theorem cO_pos {l:Cs} (hc:∀ c∈l,1≤c.1) (i:Nat):1≤cO l i:=by
 unfold cO
 cases h:l[i]? with
 | none=>exact Js _
 | some c=>exact hc c (Jc h)
def slv (l:Cs) (b:Nat) (fx:Nat→Int):Int × Int:=((dpT l.length b (cO l) (tO l) fx b).headD fun _=>(0,0)) (2 ^ l.length - 1)
theorem zbf {l:Cs} {b:Nat} {fx:Nat→Int} (hn:l.length≤6) (hc:∀ c∈l,1≤c.1):0≤(slv l b fx).2∧((slv l b fx).2=0→(slv l b fx).1=0∧∀ a,Fits l (List.replicate b false) a→¬ ∀ i < l.length,okF fx i (a.getD i 0)=true)∧
  ((slv l b fx).2≠0→(∃ a,Fits l (List.replicate b false) a∧(∀ i < l.length,okF fx i (a.getD i 0)=true)∧vlF l a=(slv l b fx).1)∧∀ a,Fits l (List.replicate b false) a→(∀ i < l.length,okF fx i (a.getD i 0)=true)→vlF l a≤(slv l b fx).1):=by
 obtain ⟨h1,h2⟩:=dp_sp (T:=tO l) (fx:=fx) hn (cO_pos hc) b (Js _)
 obtain ⟨f,R,hf⟩:∃ f R,dpT l.length b (cO l) (tO l) fx b=f :: R:=by
  cases h:dpT l.length b (cO l) (tO l) fx b with
  | nil=>rw [h] at h1;simp at h1
  | cons f R=>exact ⟨f,R,rfl⟩
 have h3:=h2 0 f (by rw [hf];rfl) (2 ^ l.length - 1) (by have:=Nat.pow_pos (n:=l.length) (show 0 < 2 by decide);omega);rw [show b - b + 0=0 by omega] at h3
 have e:slv l b fx=f (2 ^ l.length - 1):=by unfold slv;rw [hf];rfl
 rw [e]
 have hlt:2 ^ l.length - 1 < 2 ^ l.length:=by have:=Nat.pow_pos (n:=l.length) (show 0 < 2 by decide);omega
 have val:∀ a:Nat→Nat,vlA l.length (tO l) a (2 ^ l.length - 1)=sm (fun i=>tO l i<|a i) l.length:=fun a=>sm_congr fun i hi=>by rw [Kk hi];simp
 have toW:∀ a,Fits l (List.replicate b false) a→(∀ i < l.length,okF fx i (a.getD i 0)=true)→Way l.length b (cO l) (tO l) fx 0 (2 ^ l.length - 1) (vlF l a):=fun a ha hfx=>by
  have:=Wb (T:=tO l) hn (cO_pos hc) (b - 0) 0 (2 ^ l.length - 1) rfl (JC _) hlt (fits_ok hc hfx ha);rw [val] at this;rwa [zdF l a ((Yw l _ a hc).1 ha).1]
 refine ⟨h3.1,fun h=>⟨(h3.2.2.1 h).1,fun a ha hfx=>(h3.2.2.1 h).2 _<|toW a ha hfx⟩,fun h=>⟨?_,fun a ha hfx=>(h3.2.2.2 h).2 _<|toW a ha hfx⟩⟩;obtain ⟨a,ha,hv⟩:=ok_of_way hn hlt (h3.2.2.2 h).1
 have hget:∀ i < l.length,((List.range l.length).map a).getD i 0=a i:=fun i hi=>by
  rw [Jr,JJ,List.getElem?_range hi];rfl
 refine ⟨(List.range l.length).map a,ok_fits hc ha,fun i hi=>by rw [hget i hi];exact (ha.1 i hi<|Kk hi).2.2,?_⟩;rw [hv,val,zdF l _ s9]
 exact sm_congr fun i hi=>by rw [hget i hi]
theorem slv_srch {l:Cs} {b:Nat} {fx:Nat→Int} (hn:l.length≤6) (hc:∀ c∈l,1≤c.1) (hfx:∀ i,fx i < 0):(slv l b fx).1=(srch l<|List.replicate b false).2.1∧((slv l b fx).2≠0↔(srch l<|List.replicate b false).1=true):=by
 have h:=zbf (b:=b) (fx:=fx) hn hc;have g:=qw l (List.replicate b false);have ok:∀ i r,okF fx i r=true:=fun i r=>Jo (.inl<|hfx i)
 cases e:(srch l<|List.replicate b false).1 with
 | true=>
  obtain ⟨g1,g2,g3⟩:=g.1 e;have hz:(slv l b fx).2≠0:=fun hz=>(h.2.1 hz).2 _ g1 fun i _=>ok i _;obtain ⟨⟨a,a1,_,a3⟩,h4⟩:=h.2.2 hz;refine ⟨?_,by simp [hz]⟩;have h5:=h4 _ g1 fun i _=>ok i _;have h6:=g3 a a1;omega
 | false=>
  obtain ⟨g1,_,g3⟩:=g.2 e
  have hz:(slv l b fx).2=0:=by
   by_cases hz:(slv l b fx).2=0
   ·exact hz
   ·obtain ⟨⟨a,a1,_⟩,-⟩:=h.2.2 hz;exact absurd a1 (g3 a)
  exact ⟨by rw [(h.2.1 hz).1,g1],by simp [hz]⟩
end Co
namespace Co
structure Cl where
 win:Int
 cnt:Int
structure Wi where
 win:Int
 st:Int
 val:Int
def sC:List Cl→Int
 | []=>0
 | c :: l=>c.cnt + sC l
structure VC (b:Int) (l:List Cl):Prop where
 b1:1≤b
 b2:b≤12
 n:l.length≤6
 ok:∀ (i:Nat) c,l[i]? =some c→0≤c.win∧c.win≤31∧1≤c.cnt
 up:∀ (i:Nat) c d,l[i]? =some c→l[i + 1]? =some d→c.win < d.win
 sum:sC l≤b
noncomputable instance (b:Int) (l:List Cl):Decidable (VC b l):=Classical.propDecidable _
theorem sC_take:∀ (l:List Cl) (i:Nat) c,l[i]? =some c→sC (l.take<|i + 1)=sC (l.take i) + c.cnt
 | [],_,_,h=>by simp at h
 | d :: l,0,c,h=>by obtain rfl:=JN h;simp [sC]
 | d :: l,i + 1,c,h=>by
  have:=sC_take l i c h;rw [Xo,Xo,sC,sC,this];omega
theorem zcO:∀ (l:List Cl) (i:Nat),(∀ (j:Nat) c,l[j]? =some c→1≤c.cnt)→0≤sC (l.take i)∧sC (l.take i)≤sC l
 | [],i,_=>by simp [sC]
 | d :: l,0,h=>by
  have:=zcO l 0 fun j c hj=>h (j + 1) c hj;have:=h 0 d rfl;simp [sC] at *;omega
 | d :: l,i + 1,h=>by
  have:=zcO l i fun j c hj=>h (j + 1) c hj;have:=h 0 d rfl;rw [Xo,sC,sC];omega
section
variable {b:Int}{l:List Cl}
theorem VC.lt (h:VC b l):∀ {j i:Nat} {c d:Cl},i < j→l[i]? =some c→l[j]? =some d→c.win < d.win
 | j + 1,i,c,d,hij,hi,hj=>by
  obtain ⟨hlt,-⟩:=Jg.1 hj;have e:l[j]? =some (l[j]'o9):=Je o9;have h1:=h.up j _ d e hj
  by_cases hh:i=j
  ·subst hh;rw [hi] at e;rw [JN e];exact h1
  ·have:=VC.lt h (j:=j) o9 hi e;omega
theorem VC.inj (h:VC b l) {i j:Nat} {c d:Cl} (hi:l[i]? =some c) (hj:l[j]? =some d) (e:c.win=d.win):i=j:=by
 by_cases h1:i < j
 ·have:=h.lt h1 hi hj;omega
 ·by_cases h2:j < i
  ·have:=h.lt h2 hj hi;omega
  ·omega
theorem VC.part (h:VC b l) {i:Nat} {c:Cl} (hi:l[i]? =some c):c.cnt≤b - sC (l.take i):=by
 have h1:=sC_take l i c hi;have h2:=zcO l (i + 1) fun j c hj=>(h.ok j c hj).2.2;have:=h.sum;omega
theorem VC.cnt (h:VC b l) {i:Nat} {c:Cl} (hi:l[i]? =some c):c.cnt≤b:=by
 have h1:=h.part hi;have h2:=zcO l i fun j c hj=>(h.ok j c hj).2.2;omega
end
def fC (l:List Cl) (w:Int):Option Nat:=l.findIdx? fun c=>c.win == w
def fZ (l:List Cl) (w:Int):Int:=match fC l w with | some i=>(i:Int) | none=> -1
theorem fC_some {b:Int} {l:List Cl} (h:VC b l) {i:Nat} {c:Cl} (hi:l[i]? =some c):fC l c.win=some i:=by
 obtain ⟨hlt,he⟩:=Jg.1 hi;refine List.findIdx?_eq_some_iff_getElem.2 ⟨hlt,by rw [he];exact beq_self_eq_true _,fun j hj=> ?_⟩;have:=h.lt hj (Je o9) hi;simp only [Bool.not_eq_true,Xb];omega
theorem fC_is {l:List Cl} {w:Int} {i:Nat} (h:fC l w=some i):∃ c,l[i]? =some c∧c.win=w:=by
 obtain ⟨h1,h2,_⟩:=List.findIdx?_eq_some_iff_getElem.1 h;exact ⟨l[i],Je h1,by simpa using h2⟩
def wish (ws:List Wi) (w s:Int):Int:=match ws.find? fun x=>x.win == w && x.st == s with | some x=>x.val | none=>0
structure VW (b:Int) (l:List Cl) (ws:List Wi):Prop where
 c:VC b l
 ok:∀ (k:Nat) x,ws[k]? =some x→∃ i c,fC l x.win=some i∧l[i]? =some c∧0≤x.st∧x.st≤b - c.cnt∧0≤x.val∧x.val≤1099511627776
 up:∀ (k:Nat) x y,ws[k]? =some x→ws[k + 1]? =some y→x.win < y.win∨x.win=y.win∧x.st < y.st
noncomputable instance (b:Int) (l:List Cl) (ws:List Wi):Decidable (VW b l ws):=Classical.propDecidable _
section
variable {b:Int}{l:List Cl}{ws:List Wi}
theorem VW.lt (h:VW b l ws):∀ {j i:Nat} {x y:Wi},i < j→ws[i]? =some x→ws[j]? =some y→x.win < y.win∨x.win=y.win∧x.st < y.st
 | j + 1,i,x,y,hij,hi,hj=>by
  obtain ⟨hlt,-⟩:=Jg.1 hj;have e:ws[j]? =some (ws[j]'o9):=Je o9;have h1:=h.up j _ y e hj
  by_cases hh:i=j
  ·subst hh;rw [hi] at e;rw [JN e];exact h1
  ·have:=VW.lt h (j:=j) o9 hi e;omega
theorem wish_le (h:VW b l ws) (w s:Int):0≤wish ws w s∧wish ws w s≤1099511627776:=by
 unfold wish
 cases e:ws.find? fun x=>x.win == w && x.st == s with
 | none=>exact ⟨Int.le_refl _,by decide⟩
 | some x=>
  obtain ⟨k,hk,he⟩:=List.mem_iff_getElem.1 (List.mem_of_find?_eq_some e);obtain ⟨_,_,_,_,_,_,h1,h2⟩:=h.ok k x (by rw [Je hk,he]);exact ⟨h1,h2⟩
theorem wish_take (h:VW b l ws) {k:Nat} {x:Wi} (hk:ws[k]? =some x) (w s:Int):wish (ws.take<|k + 1) w s=if x.win=w∧x.st=s then x.val else wish (ws.take k) w s:=by
 unfold wish;rw [List.take_add_one,hk,List.find?_append]
 show (match ((ws.take k).find? _).or (List.find? _ [x]) with | some x=>x.val | none=>0)=_
 by_cases e:x.win=w∧x.st=s
 ·rw [Jh e]
  have hn:(ws.take k).find? (fun x=>x.win == w && x.st == s)=none:=by
   rw [List.find?_eq_none];intro y hy;obtain ⟨i,hi,he⟩:=List.mem_iff_getElem.1 hy
   have hik:i < k:=by rw [JE] at hi;omega
   have hiy:ws[i]? =some y:=by rw [← List.getElem?_take_of_lt hik,Je hi,he]
   have:=h.lt hik hiy hk;simp only [JL,JT,not_and];intro h1 h2;omega
  rw [hn,Option.none_or,List.find?_cons];simp [e.1,e.2]
 ·rw [Jb e]
  have hx:[x].find? (fun x=>x.win == w && x.st == s)=none:=by
   rw [List.find?_eq_none];intro y hy;obtain rfl:=Ja.1 hy;simp only [JL,JT];exact e
  rw [hx,Option.or_none]
end
def csN (l:List Cl) (ws:List Wi) (g:Nat→Bool):Nat→List Cl→Cs
 | _,[]=>[]
 | k,c :: m=>(c.cnt.toNat,fun s=>if g k then wish ws c.win (s:Int) else 0) :: csN l ws g (k + 1) m
def cs (l:List Cl) (ws:List Wi) (g:Nat→Bool):Cs:=csN l ws g 0 l
section
variable {l:List Cl}{ws:List Wi}{g:Nat→Bool}
theorem csN_len:∀ (k:Nat) (m:List Cl),(csN l ws g k m).length=m.length
 | _,[]=>rfl
 | k,_ :: m=>by simp [csN,csN_len (k + 1) m]
theorem Kb:(cs l ws g).length=l.length:=csN_len 0 l
theorem csN_get:∀ (k:Nat) (m:List Cl) (i:Nat),(csN l ws g k m)[i]? =m[i]?.map fun c=>(c.cnt.toNat,fun s:Nat=>if g (k + i) then wish ws c.win (s:Int) else 0)
 | _,[],i=>by simp [csN]
 | k,_ :: m,0=>rfl
 | k,_ :: m,i + 1=>by
  rw [csN,J1,J1,csN_get (k + 1) m i,show k + 1 + i=k + (i + 1) by omega]
theorem cs_get (i:Nat):(cs l ws g)[i]? =l[i]?.map fun c=>(c.cnt.toNat,fun s:Nat=>if g i then wish ws c.win (s:Int) else 0):=by
 rw [cs,csN_get,JF]
theorem cs_cO {i:Nat} {c:Cl} (h:l[i]? =some c):cO (cs l ws g) i=c.cnt.toNat:=by unfold cO;rw [cs_get,h];rfl
theorem cs_tO {i:Nat} {c:Cl} (h:l[i]? =some c) (r:Nat):tO (cs l ws g) i r=if g i then wish ws c.win (r:Int) else 0:=by unfold tO;rw [cs_get,h];rfl
theorem cs_pos {b:Int} (h:VC b l):∀ c∈cs l ws g,1≤c.1:=by
 intro c hc;obtain ⟨i,hi,he⟩:=List.mem_iff_getElem.1 hc;have h1:=cs_get (l:=l) (ws:=ws) (g:=g) i;rw [Je hi,he] at h1
 cases hl:l[i]? with
 | none=>rw [hl] at h1;cases h1
 | some d=>
  rw [hl] at h1;rw [JN h1];have:=(h.ok i d hl).2.2;show 1≤d.cnt.toNat;omega
theorem fits_all {b:Int} (h:VC b l):∃ a,Fits (cs l ws g) (List.replicate b.toNat false) a:=by
 refine ⟨(List.range l.length).map fun i=>(sC<|l.take i).toNat,(Yw _ _ _<|cs_pos h).2 ⟨by simp [Kb],fun i c x hi hx=> ?_,fun i j c x d y hij hi hx hj hy=> ?_⟩⟩
 ·rw [cs_get] at hi
  cases hl:l[i]? with
  | none=>rw [hl] at hi;cases hi
  | some e=>
   rw [hl] at hi;obtain rfl:=JN hi;obtain ⟨hlt,-⟩:=Jg.1 hl;rw [JJ,List.getElem?_range hlt] at hx;obtain rfl:=JN hx;have h1:=h.part hl;have h2:=zcO l i fun j c hj=>(h.ok j c hj).2.2;have h3:=(h.ok i e hl).2.2;refine ⟨?_,Ww⟩;rw [List.length_replicate];show (sC<|l.take i).toNat + e.cnt.toNat≤_;omega
 ·rw [cs_get] at hi hj
  cases hl:l[i]? with
  | none=>rw [hl] at hi;cases hi
  | some e=>
   cases hm:l[j]? with
   | none=>rw [hm] at hj;cases hj
   | some f=>
    rw [hl] at hi;rw [hm] at hj;obtain rfl:=JN hi;obtain rfl:=JN hj;obtain ⟨hlt,-⟩:=Jg.1 hl;obtain ⟨hlt2,-⟩:=Jg.1 hm;rw [JJ,List.getElem?_range hlt] at hx;rw [JJ,List.getElem?_range hlt2] at hy;obtain rfl:=JN hx;obtain rfl:=JN hy
    left
    have h1:=sC_take l i e hl
    have h2:=zcO (l.take j) (i + 1) fun k c hk=>by
     rw [JP] at hk
     split at hk
     ·exact (h.ok k c hk).2.2
     ·cases hk
    rw [List.take_take,XA o9] at h2;have h3:=(h.ok i e hl).2.2;have h4:=zcO l i fun j c hj=>(h.ok j c hj).2.2;show (sC<|l.take i).toNat + e.cnt.toNat≤(sC<|l.take j).toNat;omega
theorem Kz {b:Int} (h:VC b l):(srch (cs l ws g)<|List.replicate b.toNat false).1=true:=by
 obtain ⟨a,ha⟩:=fits_all (ws:=ws) (g:=g) h
 cases e:(srch (cs l ws g)<|List.replicate b.toNat false).1 with
 | true=>rfl
 | false=>exact absurd ha (((qw _ _).2 e).2.2 a)
end
def fxN (q:LN) (i:Nat) (s:Int) (j:Nat):Int:=if j < i then (q.getD j 0:Nat) else if j=i then s else -1
theorem lxl_lt:∀ {i:Nat} {p a:LN},p.length=a.length→i < p.length→lxl p a→(∀ j < i,a.getD j 0=p.getD j 0)→¬a.getD i 0 < p.getD i 0
 | _,[],_,_,h,_,_,_=>by simp at h
 | _,_ :: _,[],h,_,_,_,_=>by simp at h
 | 0,x :: p,y :: a,_,_,h,_,hlt=>by
  have hlt:y < x:=hlt
  rcases h with h | h <;> omega
 | i + 1,x :: p,y :: a,hl,hi,h,hj,hlt=>by
  have h0:y=x:=hj 0 o9;rcases h with h | h
  ·omega
  ·exact lxl_lt (by simpa using hl) (by simpa using hi) h.2 (fun j hj'=>hj (j + 1) o9) hlt
theorem zeD {l:Cs} {b:Nat} (hn:l.length≤6) (hc:∀ c∈l,1≤c.1) (ht:(srch l<|List.replicate b false).1=true) {i:Nat} (hi:i < l.length) (s:Nat) (hs:s≤(srch l<|List.replicate b false).2.2.getD i 0):
  ((slv l b<|fxN (srch l<|List.replicate b false).2.2 i s).2≠0∧(slv l b<|fxN (srch l<|List.replicate b false).2.2 i s).1=(srch l<|List.replicate b false).2.1)↔s=(srch l<|List.replicate b false).2.2.getD i 0:=by
 obtain ⟨g1,g2,g3⟩:=(qw l<|List.replicate b false).1 ht
 generalize srch l (List.replicate b false)=r at g1 g2 g3 hs ⊢
 have hlen:=((Yw l _ _ hc).1 g1).1;have h:=zbf (b:=b) (fx:=fxN r.2.2 i s) hn hc
 constructor
 ·rintro ⟨h1,h2⟩;obtain ⟨⟨a,a1,a2,a3⟩,-⟩:=h.2.2 h1;have hla:=((Yw l _ _ hc).1 a1).1
  have hsi:a.getD i 0=s:=by
   have:=oT (a2 i hi);rw [fxN,Jb o9,Jh rfl] at this;omega
  rcases g3 a a1 with g4 | g4
  ·omega
  ·have:=lxl_lt (i:=i) o9 o9 g4.2 fun j hj=>by
    have:=oT (a2 j o9);rw [fxN,Jh hj] at this;omega
   omega
 ·rintro rfl
  have hok:∀ j < l.length,okF (fxN r.2.2 i ((r.2.2.getD i 0:Nat):Int)) j (r.2.2.getD j 0)=true:=fun j hj=>by
   refine Jo ?_;unfold fxN
   by_cases h1:j < i
   ·rw [Jh h1];exact .inr rfl
   ·rw [Jb h1]
    by_cases h2:j=i
    ·subst h2;rw [Jh rfl];exact .inr rfl
    ·rw [Jb h2];left;decide
  have hz:(slv l b<|fxN r.2.2 i ((r.2.2.getD i 0:Nat):Int)).2≠0:=fun hz=>(h.2.1 hz).2 _ g1 hok;obtain ⟨⟨a,a1,a2,a3⟩,h4⟩:=h.2.2 hz;have h5:=h4 _ g1 hok;refine ⟨hz,?_⟩;have:=g3 a a1;omega
end Co
namespace Co
def ic (c:Nat) (p:Nat→Int) (n:Nat):Int:=sm (fun i=>if bt c i=true then p i else 0) n
def oc (c:Nat) (p:Nat→Int) (n:Nat):Int:=sm (fun i=>if bt c i=true then 0 else p i) n
theorem ic_oc (c:Nat) (p:Nat→Int) (n:Nat):ic c p n + oc c p n=sm p n:=by
 rw [ic,oc,← sm_add]
 exact sm_congr fun i _=>by split <;> omega
theorem oc_le {c n:Nat} {p q:Nat→Int} (h:∀ i < n,p i≤q i):oc c p n≤oc c q n:=sm_le fun i hi=>by
 have:=h i hi
 split <;> omega
def need (V bd:Nat→Int) (n c:Nat):Int:=V c - ic c bd n
def vcg (V bd:Nat→Int) (n i:Nat):Int:=need V bd n (2 ^ n - 1 - 2 ^ i)
structure Mkt (n:Nat) (V bd:Nat→Int):Prop where
 n6:n≤6
 bd0:∀ i < n,0≤bd i∧bd i≤1099511627776
 ge:∀ c < 2 ^ n,ic c bd n≤V c
 full:V (2 ^ n - 1)=sm bd n
 mono:∀ c < 2 ^ n,V c≤V (2 ^ n - 1)
theorem fullN:∀ n≤6,∀ i < n,2 ^ n - 1 - 2 ^ i < 2 ^ n∧∀ j < n,bt (2 ^ n - 1 - 2 ^ i) j= !(decide (j=i)):=by decide +kernel
section
variable {n:Nat}{V bd:Nat→Int}
theorem Mkt.need0 (h:Mkt n V bd) {c:Nat} (hc:c < 2 ^ n):0≤need V bd n c∧need V bd n c≤oc c bd n:=by
 have h1:=h.ge c hc;have h2:=h.mono c hc;have h3:=ic_oc c bd n;rw [h.full] at h2;unfold need;omega
theorem oc_one {p:Nat→Int} (hn:n≤6) {i:Nat} (hi:i < n):oc (2 ^ n - 1 - 2 ^ i) p n=p i:=by
 obtain ⟨_,h⟩:=fullN n hn i hi;unfold oc;rw [sm_set (g:=fun _=>0) hi fun j hj hji=>by rw [h j hj];simp [hji],sm_zero fun _ _=>rfl,h i hi];simp
theorem Mkt.vcg0 (h:Mkt n V bd) {i:Nat} (hi:i < n):0≤vcg V bd n i∧vcg V bd n i≤bd i:=by
 have h1:=h.need0 (fullN n h.n6 i hi).1;rw [oc_one h.n6 hi] at h1;exact h1
theorem oc_ub {p:Nat→Int} {c:Nat} {M:Int} (hM:0≤M) (hp:∀ i < n,0≤p i∧p i≤M):0≤oc c p n∧oc c p n≤(n:Int) * M:=by
 induction n with
 | zero=>simp [oc,sm]
 | succ n ih=>
  have h1:=ih fun i hi=>hp i o9;have h2:=hp n o9
  have e:oc c p (n + 1)=oc c p n + (if bt c n=true then 0 else p n):=rfl
  rw [e,show ((n + 1:Nat):Int) * M=(n:Int) * M + M by rw [Int.natCast_add,Int.add_mul];simp]
  split <;> omega
def ls (a t:Int):List Int→Int
 | []=>0
 | g :: G=>(min (60 * g) t - 60 * a) + ls a t G
def VN (a:Int):List Int→Int
 | []=>0
 | g :: G=>(g - a) + VN a G
def fil:List Int→Int→Int→Int
 | [],a,_=>60 * a
 | g :: G,a,left=>if (g - a) * (G.length + 1:Nat) < left then fil G g (left - (g - a) * (G.length + 1:Nat)) else (a * (G.length + 1:Nat) + left) * (60 / (G.length + 1:Nat))
theorem ls_perm {a t:Int} {G H:List Int} (h:G.Perm H):ls a t G=ls a t H:=by
 induction h with
 | nil=>rfl
 | cons _ _ ih=>rw [ls,ls,ih]
 | swap _ _ _=>simp only [ls];omega
 | trans _ _ i j=>rw [i,j]
theorem gsum_perm {a:Int} {G H:List Int} (h:G.Perm H):VN a G=VN a H:=by
 induction h with
 | nil=>rfl
 | cons _ _ ih=>rw [VN,VN,ih]
 | swap _ _ _=>simp only [VN];omega
 | trans _ _ i j=>rw [i,j]
theorem ls_low {a t g:Int} (ht:t≤60 * g):∀ {G:List Int},(∀ x∈G,g≤x)→ls a t G=(G.length:Int) * (t - 60 * a)
 | [],_=>by simp [ls]
 | x :: G,h=>by
  have h1:=h x mC;rw [ls,ls_low ht fun y hy=>h y<|Jl _ hy,Int.min_eq_right o9,Xm,Int.natCast_add,Int.add_mul];simp;omega
theorem zdV {a g t:Int}:∀ {G:List Int},ls a t G=ls g t G + (G.length:Int) * (60 * (g - a))
 | []=>by simp [ls]
 | x :: G=>by rw [ls,ls,zdV (g:=g) (G:=G),Xm,Int.natCast_add,Int.add_mul];simp;omega
theorem zaC {a g:Int}:∀ {G:List Int},VN a G=VN g G + (G.length:Int) * (g - a)
 | []=>by simp [VN]
 | x :: G=>by rw [VN,VN,zaC (g:=g) (G:=G),Xm,Int.natCast_add,Int.add_mul];simp;omega
theorem zcZ {a t g:Int} (ht:60 * g≤t):∀ {G:List Int},(∀ x∈G,g≤x)→(G.length:Int) * (60 * (g - a))≤ls a t G
 | [],_=>by simp [ls]
 | x :: G,h=>by
  have h1:=h x mC;have ih:=zcZ (a:=a) ht fun y hy=>h y (Jl _ hy)
  have h2:60 * g≤min (60 * x) t:=by omega
  rw [ls,Xm,Int.natCast_add,Int.add_mul];simp;omega
theorem fil_iff:∀ (G:List Int) (a left:Int),G.length≤6→G.Pairwise (· ≤ ·)→(∀ g∈G,a≤g)→0 < left→left≤VN a G→60 * a < fil G a left∧∀ t,60 * a≤t→(60 * left≤ls a t G↔fil G a left≤t)
 | [],a,left,_,_,_,h1,h2=>by simp [VN] at h2;omega
 | g :: G,a,left,hl,hs,ha,h1,h2=>by
  have hg:=ha g mC;obtain ⟨hs1,hs2⟩:=Xu.1 hs
  have hall:∀ x∈g :: G,g≤x:=fun x hx=>by
   rcases Jt.1 hx with h | h
   ·omega
   ·exact hs1 x h
  have hl':G.length≤5:=by simpa using hl
  rw [fil]
  split
  ·rename_i hst;have e1:VN a (g :: G)=(g - a) + VN a G:=rfl;have e2:=zaC (a:=a) (g:=g) (G:=G)
   have e3:(g - a) * ((G.length + 1:Nat):Int)=(G.length:Int) * (g - a) + (g - a):=by rw [Int.natCast_add,Int.mul_add,Int.mul_comm];simp
   obtain ⟨ih1,ih2⟩:=fil_iff G g (left - (g - a) * (G.length + 1:Nat)) o9 hs2 hs1 o9 o9;refine ⟨by omega,fun t ht=> ?_⟩
   by_cases htg:60 * g≤t
   ·rw [← ih2 t htg,ls,Int.min_eq_left htg,zdV (a:=a) (g:=g)];rw [Int.mul_left_comm];omega
   ·have h3:=ls_low (a:=a) (show t≤60 * g by omega) hall;have h4:((g :: G).length:Int) * (t - 60 * a)≤((g :: G).length:Int) * (60 * (g - a)):=Int.mul_le_mul_of_nonneg_left o9 o9;rw [Int.mul_left_comm] at h4
    have e4:((g :: G).length:Int) * (g - a)=(g - a) * ((G.length + 1:Nat):Int):=by rw [Int.mul_comm];rfl
    rw [e4] at h4
    constructor <;> intro h5 <;> omega
  ·rename_i hst;have e0:((g :: G).length:Int)=((G.length + 1:Nat):Int):=rfl;have hlo:=fun t (ht:t≤60 * g)=>ls_low (a:=a) ht hall;have hhi:=fun t (ht:60 * g≤t)=>zcZ (a:=a) ht hall;rw [e0] at hlo hhi
   generalize hk:G.length + 1=k at hst hlo hhi ⊢
   have hk6:k=1∨k=2∨k=3∨k=4∨k=5∨k=6:=by omega
   have fin:∀ m:Int,(k:Int) * m=60→60 / (k:Int)=m→0 < m→60 * a < (a * (k:Int) + left) * (60 / (k:Int))∧∀ t,60 * a≤t→(60 * left≤ls a t (g :: G)↔(a * (k:Int) + left) * (60 / (k:Int))≤t):=by
    intro m hm hd hm0;rw [hd]
    have e1:(a * (k:Int) + left) * m=60 * a + left * m:=by rw [Int.add_mul,Int.mul_assoc,hm];omega
    have hlm:0 < left * m:=Int.mul_pos h1 hm0;rw [e1];refine ⟨by omega,fun t ht=> ?_⟩
    have hk0:(0:Int) < k:=by omega
    have e2:60 * left=(k:Int) * (left * m):=by rw [← hm,Int.mul_assoc];congr 1;rw [Int.mul_comm]
    by_cases htg:t≤60 * g
    ·rw [hlo t htg,e2]
     constructor
     ·intro h3;have:=Int.le_of_mul_le_mul_left h3 hk0;omega
     ·intro h3;exact Int.mul_le_mul_of_nonneg_left o9 o9
    ·have h3:=hhi t o9
     have h4:(k:Int) * (left * m)≤(k:Int) * (60 * (g - a)):=by
      rw [← e2,Int.mul_left_comm];have:(g - a) * (k:Int)=(k:Int) * (g - a):=Int.mul_comm _ _;omega
     have h5:=Int.le_of_mul_le_mul_left h4 hk0
     constructor <;> intro _ <;> omega
   rcases hk6 with h | h | h | h | h | h <;> subst h
   ·exact fin 60 d9 d9 d9
   ·exact fin 30 d9 d9 d9
   ·exact fin 20 d9 d9 d9
   ·exact fin 15 d9 d9 d9
   ·exact fin 12 d9 d9 d9
   ·exact fin 10 d9 d9 d9
def gl (bd v:Nat→Int) (c:Nat):Nat→List Int
 | 0=>[]
 | n + 1=>gl bd v c n ++ (if bt c n=true then [] else [bd n - v n])
theorem gl_len {bd v:Nat→Int} {c:Nat}:∀ {n:Nat},(gl bd v c n).length≤n
 | 0=>by simp [gl]
 | n + 1=>by
  have:=gl_len (bd:=bd) (v:=v) (c:=c) (n:=n)
  rw [gl,Jk];split <;> simp <;> omega
theorem gl_pos {bd v:Nat→Int} {c:Nat}:∀ {n:Nat},(∀ i < n,v i≤bd i)→∀ g∈gl bd v c n,0≤g
 | 0,_,g,hg=>by simp [gl] at hg
 | n + 1,h,g,hg=>by
  rw [gl,Jf] at hg;rcases hg with hg | hg
  ·exact gl_pos (fun i hi=>h i o9) g hg
  ·have:=h n o9
   split at hg
   ·cases hg
   ·obtain rfl:=Ja.1 hg;omega
theorem ls_app {a t:Int}:∀ {G H:List Int},ls a t (G ++ H)=ls a t G + ls a t H
 | [],_=>by simp [ls]
 | g :: G,H=>by rw [List.cons_append,ls,ls,ls_app (G:=G)];omega
theorem zd4 {a:Int}:∀ {G H:List Int},VN a (G ++ H)=VN a G + VN a H
 | [],_=>by simp [VN]
 | g :: G,H=>by rw [List.cons_append,VN,VN,zd4 (G:=G)];omega
def rs (bd v:Nat→Int) (t:Int) (i:Nat):Int:=min (60 * bd i) (60 * v i + t)
theorem oc_rs {bd v:Nat→Int} {c:Nat} {t:Int}:∀ {n:Nat},oc c (rs bd v t) n=60 * oc c v n + ls 0 t (gl bd v c n)
 | 0=>rfl
 | n + 1=>by
  have ih:=oc_rs (bd:=bd) (v:=v) (c:=c) (t:=t) (n:=n)
  have e1:oc c (rs bd v t) (n + 1)=oc c (rs bd v t) n + (if bt c n=true then 0 else rs bd v t n):=rfl
  have e2:oc c v (n + 1)=oc c v n + (if bt c n=true then 0 else v n):=rfl
  rw [e1,e2,gl,ls_app,ih]
  split
  ·simp [ls]
  ·unfold rs;simp only [ls];omega
theorem gsum_gl {bd v:Nat→Int} {c:Nat}:∀ {n:Nat},VN 0 (gl bd v c n)=oc c bd n - oc c v n
 | 0=>rfl
 | n + 1=>by
  have ih:=gsum_gl (bd:=bd) (v:=v) (c:=c) (n:=n)
  have e1:oc c bd (n + 1)=oc c bd n + (if bt c n=true then 0 else bd n):=rfl
  have e2:oc c v (n + 1)=oc c v n + (if bt c n=true then 0 else v n):=rfl
  rw [e1,e2,gl,zd4,ih]
  split
  ·simp [VN]
  ·simp only [VN];omega
def rch (V bd:Nat→Int) (n c:Nat) (G:List Int):Int:=if need V bd n c - oc c (vcg V bd n) n≤0 then 0 else fil G 0 (need V bd n c - oc c (vcg V bd n) n)
def In (V bd:Nat→Int) (n:Nat) (p:Nat→Int):Prop:=∀ c < 2 ^ n,60 * need V bd n c≤oc c p n
theorem rch_iff (h:Mkt n V bd) {c:Nat} (hc:c < 2 ^ n) {G:List Int} (hp:G.Perm (gl bd (vcg V bd n) c n)) (hs:G.Pairwise (· ≤ ·)):0≤rch V bd n c G∧∀ t,0≤t→(60 * need V bd n c≤oc c (rs bd (vcg V bd n) t) n↔rch V bd n c G≤t):=by
 have hpos:∀ g∈G,0≤g:=fun g hg=>gl_pos (fun i hi=>(h.vcg0 hi).2) g (hp.mem_iff.1 hg)
 have hln:G.length≤6:=by rw [hp.length_eq];exact JG gl_len h.n6
 have h0:∀ t,0≤t→0≤ls 0 t G:=fun t ht=>by
  have:=zcZ (a:=0) (g:=0) (t:=t) o9 hpos;simpa using this
 unfold rch
 split
 ·refine ⟨Int.le_refl _,fun t ht=>⟨fun _=>ht,fun _=> ?_⟩⟩;rw [oc_rs,← ls_perm hp];have:=h0 t ht;omega
 ·rename_i hl
  have hg:need V bd n c - oc c (vcg V bd n) n≤VN 0 G:=by
   rw [gsum_perm hp,gsum_gl];have:=(h.need0 hc).2;omega
  obtain ⟨f1,f2⟩:=fil_iff G 0 _ hln hs hpos o9 hg;refine ⟨by omega,fun t ht=> ?_⟩;rw [oc_rs,← ls_perm hp,← f2 t o9];omega
def thr (r:Nat→Int):Nat→Int
 | 0=>0
 | k + 1=>max (thr r k) (r k)
theorem thr_iff {r:Nat→Int} {t:Int} (ht:0≤t):∀ {k:Nat},thr r k≤t↔∀ c < k,r c≤t
 | 0=>⟨fun _ c hc=>absurd hc o9,fun _=>ht⟩
 | k + 1=>by
  rw [thr];have ih:=thr_iff (r:=r) ht (k:=k)
  constructor
  ·intro h c hc
   by_cases e:c=k
   ·subst e;omega
   ·exact ih.1 o9 c o9
  ·intro h;have h1:=ih.2 fun c hc=>h c o9;have h2:=h k o9;omega
theorem in_iff (h:Mkt n V bd) {G:Nat→List Int} (hp:∀ c < 2 ^ n,(G c).Perm<|gl bd (vcg V bd n) c n) (hs:∀ c < 2 ^ n,(G c).Pairwise (· ≤ ·)) {t:Int} (ht:0≤t):In V bd n (rs bd (vcg V bd n) t)↔thr (fun c=>rch V bd n c<|G c) (2 ^ n)≤t:=by
 rw [thr_iff ht];exact ⟨fun hi c hc=>((rch_iff h hc (hp c hc)<|hs c hc).2 t ht).1<|hi c hc,fun hi c hc=>((rch_iff h hc (hp c hc)<|hs c hc).2 t ht).2<|hi c hc⟩
theorem in_top (h:Mkt n V bd):In V bd n (rs bd (vcg V bd n) 65970697666560):=fun c hc=>by
 have h1:=(h.need0 hc).2
 have h2:oc c (rs bd (vcg V bd n) 65970697666560) n=oc c (fun i=>60 * bd i) n:=sm_congr fun i hi=>by
  have h3:=h.vcg0 hi;have h4:=h.bd0 i hi
  have:rs bd (vcg V bd n) 65970697666560 i=60 * bd i:=by unfold rs;omega
  rw [this]
 have h5:∀ m,oc c (fun i=>60 * bd i) m=60 * oc c bd m:=by
  intro m
  induction m with
  | zero=>rfl
  | succ m ih=>
   have e1:oc c (fun i=>60 * bd i) (m + 1)=oc c (fun i=>60 * bd i) m + (if bt c m=true then 0 else 60 * bd m):=rfl
   have e2:oc c bd (m + 1)=oc c bd m + (if bt c m=true then 0 else bd m):=rfl
   rw [e1,e2,ih];split <;> omega
 rw [h2,h5];omega
def ox (c i:Nat) (p:Nat→Int) (n:Nat):Int:=sm (fun k=>if bt c k=true∨k=i then 0 else p k) n
theorem oc_ox {c i n:Nat} {p:Nat→Int} (hi:i < n) (hc:bt c i=false):oc c p n=ox c i p n + p i:=by
 unfold oc ox
 rw [sm_set (g:=fun k=>if bt c k=true∨k=i then 0 else p k) hi fun j hj hji=>by simp [hji]]
 simp [hc]
def lw (V bd:Nat→Int) (n i:Nat) (p:Nat→Int):Nat→Int
 | 0=>0
 | c + 1=>if bt c i=true then lw V bd n i p c else max (lw V bd n i p c) (60 * need V bd n c - ox c i p n)
theorem zb1 {i:Nat} {p:Nat→Int}:∀ {k:Nat},0≤lw V bd n i p k
 | 0=>Int.le_refl _
 | k + 1=>by
  have:=zb1 (i:=i) (p:=p) (k:=k)
  rw [lw];split <;> omega
theorem lw_iff {i:Nat} {p:Nat→Int} {x:Int} (hx:0≤x):∀ {k:Nat},lw V bd n i p k≤x↔∀ c < k,bt c i=false→60 * need V bd n c≤ox c i p n + x
 | 0=>⟨fun _ c hc=>absurd hc o9,fun _=>hx⟩
 | k + 1=>by
  have ih:=lw_iff (i:=i) (p:=p) hx (k:=k);rw [lw]
  constructor
  ·intro h c hc hb
   by_cases e:c=k
   ·subst e;rw [Jb (by rw [hb];simp)] at h;omega
   ·refine ih.1 ?_ c o9 hb
    split at h <;> omega
  ·intro h;have h1:=ih.2 fun c hc=>h c o9
   split
   ·exact h1
   ·rename_i hb;have:=h k o9 (by simpa using hb);omega
theorem lw_at {i:Nat} {p:Nat→Int}:∀ {k:Nat},0 < lw V bd n i p k→∃ c < k,bt c i=false∧lw V bd n i p k=60 * need V bd n c - ox c i p n
 | 0,h=>by simp [lw] at h
 | k + 1,h=>by
  rw [lw] at h ⊢
  split
  ·rename_i hb;rw [Jh hb] at h;obtain ⟨c,h1,h2⟩:=lw_at h;exact ⟨c,by omega,h2⟩
  ·rename_i hb;rw [Jb hb] at h
   by_cases e:lw V bd n i p k≤60 * need V bd n k - ox k i p n
   ·exact ⟨k,by omega,by simpa using hb,by omega⟩
   ·obtain ⟨c,h1,h2,h3⟩:=lw_at (i:=i) (p:=p) (k:=k) o9;exact ⟨c,by omega,h2,by omega⟩
def pay (V bd:Nat→Int) (n:Nat) (p:Nat→Int):Nat→Nat→Int
 | 0=>p
 | k + 1=>fun i=>if i=k then lw V bd n k (pay V bd n p k) (2 ^ n) else pay V bd n p k i
theorem pay_spec {p:Nat→Int} (hp:In V bd n p) (h0:∀ i < n,0≤p i):∀ k≤n,In V bd n (pay V bd n p k)∧(∀ i < n,0≤pay V bd n p k i∧pay V bd n p k i≤p i)∧(∀ i < n,k≤i→pay V bd n p k i=p i)∧∀ i < k,0 < pay V bd n p k i→∃ c < 2 ^ n,bt c i=false∧oc c (pay V bd n p k) n≤60 * need V bd n c
 | 0,_=>⟨hp,fun i hi=>⟨h0 i hi,Int.le_refl _⟩,fun _ _ _=>rfl,fun i hi=>absurd hi o9⟩
 | k + 1,hk=>by
  obtain ⟨i1,i2,i3,i4⟩:=pay_spec hp h0 k o9
  have hkn:k < n:=by omega
  have hle:lw V bd n k (pay V bd n p k) (2 ^ n)≤pay V bd n p k k:=(lw_iff (i2 k hkn).1).2 fun c hc hb=>by
   have:=i1 c hc;rw [oc_ox hkn hb] at this;omega
  have hn0:=zb1 (V:=V) (bd:=bd) (n:=n) (i:=k) (p:=pay V bd n p k) (k:=2 ^ n)
  have hox:∀ c i,i=k→ox c i (pay V bd n p<|k + 1) n=ox c i (pay V bd n p k) n:=fun c i e=>sm_congr fun j _=>by
   by_cases h1:bt c j=true∨j=i
   ·rw [Jh h1,Jh h1]
   ·rw [Jb h1,Jb h1]
    show (if j=k then _ else _)=_
    rw [Jb (fun e2=>h1<|.inr o9)]
  have hself:pay V bd n p (k + 1) k=lw V bd n k (pay V bd n p k) (2 ^ n):=by show (if k=k then _ else _)=_;rw [Jh rfl]
  have hoth:∀ j,j≠k→pay V bd n p (k + 1) j=pay V bd n p k j:=fun j hj=>by show (if j=k then _ else _)=_;rw [Jb hj]
  have hdn:∀ j < n,pay V bd n p (k + 1) j≤pay V bd n p k j:=fun j _=>by
   by_cases e:j=k
   ·subst e;rw [hself];exact hle
   ·rw [hoth j e];exact Int.le_refl _
  refine ⟨fun c hc=> ?_,fun i hi=> ?_,fun i hi hki=> ?_,fun i hi hpi=> ?_⟩
  ·cases hb:bt c k with
   | false=>
    rw [oc_ox hkn hb,hox c k rfl,hself];exact (lw_iff hn0).1 (Int.le_refl _) c hc hb
   | true=>
    have:oc c (pay V bd n p<|k + 1) n=oc c (pay V bd n p k) n:=sm_congr fun j _=>by
     by_cases e:j=k
     ·subst e;rw [Jh hb,Jh hb]
     ·rw [hoth j e]
    rw [this];exact i1 c hc
  ·have:=hdn i hi;have h1:=i2 i hi;refine ⟨?_,by omega⟩
   by_cases e:i=k
   ·subst e;rw [hself];exact hn0
   ·rw [hoth i e];exact h1.1
  ·rw [hoth i o9];exact i3 i hi o9
  ·by_cases e:i=k
   ·subst e;rw [hself] at hpi;obtain ⟨c,c1,c2,c3⟩:=lw_at hpi;refine ⟨c,c1,c2,?_⟩;rw [oc_ox hkn c2,hox c i rfl,hself];omega
   ·rw [hoth i e] at hpi;obtain ⟨c,c1,c2,c3⟩:=i4 i o9 hpi;exact ⟨c,c1,c2,Int.le_trans (oc_le hdn) c3⟩
theorem rs_nonneg (h:Mkt n V bd) {t:Int} (ht:0≤t) {i:Nat} (hi:i < n):0≤rs bd (vcg V bd n) t i∧rs bd (vcg V bd n) t i≤60 * bd i:=by
 have h1:=h.vcg0 hi;have h2:=h.bd0 i hi;unfold rs;omega
theorem in_vcg (h:Mkt n V bd) {p:Nat→Int} (hp:In V bd n p) {i:Nat} (hi:i < n):60 * vcg V bd n i≤p i:=by
 have h1:=hp _ (fullN n h.n6 i hi).1;rw [oc_one h.n6 hi] at h1;exact h1
theorem rs_zero (h:Mkt n V bd) {i:Nat} (hi:i < n):rs bd (vcg V bd n) 0 i=60 * vcg V bd n i:=by
 have h1:=h.vcg0 hi;unfold rs;omega
end
end Co
namespace Co
def wnO (l:List Cl) (i:Nat):Int:=(l[i]?.map (·.win)).getD 0
section
variable {b:Int}{l:List Cl}{ws:List Wi}{g h:Nat→Bool}
theorem zcc:∀ (k:Nat) (m:List Cl),(∀ i < m.length,g (k + i)=h (k + i))→csN l ws g k m=csN l ws h k m
 | _,[],_=>rfl
 | k,c :: m,e=>by
  have e0:=e 0 s9;rw [Nat.add_zero] at e0;rw [csN,csN,e0,zcc (k + 1) m fun i hi=>by have:=e (i + 1) (by simpa using hi);rwa [show k + 1 + i=k + (i + 1) by omega]]
theorem cs_congr (e:∀ i < l.length,g i=h i):cs l ws g=cs l ws h:=zcc 0 l fun i hi=>by rw [JF];exact e i hi
theorem zd8:∀ (k:Nat) (m:List Cl) (u:List Bool) (a:LN),Fits (csN l ws g k m) u a↔Fits (csN l ws h k m) u a
 | _,[],_,_=>Iff.rfl
 | _,_ :: _,_,[]=>Iff.rfl
 | k,c :: m,u,s :: a=>by
  have ih:=zd8 (k + 1) m (mk u s c.cnt.toNat) a;show (s + c.cnt.toNat≤_∧_∧_)↔(s + c.cnt.toNat≤_∧_∧_);rw [show Fits (csN l ws g (k + 1) m) (mk u s c.cnt.toNat) a↔Fits (csN l ws h (k + 1) m) (mk u s c.cnt.toNat) a from ih]
theorem fits_cs {u:List Bool} {a:LN}:Fits (cs l ws g) u a↔Fits (cs l ws h) u a:=zd8 0 l u a
theorem zbQ {a:LN} (ha:a.length=l.length):vlF (cs l ws g) a=sm (fun i=>if g i then wish ws (wnO l i) (a.getD i 0:Nat) else 0) l.length:=by
 rw [zdF _ _ (by rw [Kb];exact ha),Kb];refine sm_congr fun i hi=> ?_;obtain ⟨c,hc⟩:∃ c,l[i]? =some c:=⟨_,Je hi⟩;rw [cs_tO hc,wnO,hc]
 rfl
def vO (b:Int) (l:List Cl) (ws:List Wi) (c:Nat):Int:=(srch (cs l ws<|bt c)<|List.replicate b.toNat false).2.1
def fst (b:Int) (l:List Cl) (ws:List Wi):LN:=(srch (cs l ws fun _=>true)<|List.replicate b.toNat false).2.2
def bO (b:Int) (l:List Cl) (ws:List Wi) (i:Nat):Int:=wish ws (wnO l i) ((fst b l ws).getD i 0:Nat)
theorem fst_fits (hv:VC b l):Fits (cs l ws g) (List.replicate b.toNat false) (fst b l ws)∧(fst b l ws).length=l.length:=by
 have h1:=((qw (cs l ws fun _=>true)<|List.replicate b.toNat false).1<|Kz hv).1;refine ⟨fits_cs.1 h1,?_⟩;have:=((Yw _ _ _<|cs_pos hv).1 h1).1;rwa [Kb] at this
theorem vO_ge (hv:VC b l) {c:Nat} {a:LN} (ha:Fits (cs l ws g) (List.replicate b.toNat false) a):vlF (cs l ws<|bt c) a≤vO b l ws c:=by
 have:=((qw (cs l ws<|bt c)<|List.replicate b.toNat false).1<|Kz hv).2.2 a (fits_cs.1 ha);unfold vO;omega
theorem vO_is (hv:VC b l) (c:Nat):∃ a,Fits (cs l ws<|bt c) (List.replicate b.toNat false) a∧a.length=l.length∧vlF (cs l ws<|bt c) a=vO b l ws c:=by
 obtain ⟨h1,h2,_⟩:=(qw (cs l ws<|bt c)<|List.replicate b.toNat false).1 (Kz hv);refine ⟨_,h1,?_,h2⟩;have:=((Yw _ _ _<|cs_pos hv).1 h1).1;rwa [Kb] at this
theorem cs_full:cs l ws (bt<|2 ^ l.length - 1)=cs l ws fun _=>true:=cs_congr fun i hi=>Kk hi
theorem mkt (hv:VW b l ws):Mkt l.length (vO b l ws) (bO b l ws) where
 n6:=hv.c.n
 bd0:=fun i _=>wish_le hv _ _
 ge:=fun c _=>by
  obtain ⟨h1,h2⟩:=fst_fits (ws:=ws) (g:=bt c) hv.c;have:=vO_ge hv.c (c:=c) h1;rwa [zbQ h2] at this
 full:=by
  obtain ⟨h1,h2⟩:=fst_fits (ws:=ws) (g:=fun _=>true) hv.c;have h3:=((qw (cs l ws fun _=>true)<|List.replicate b.toNat false).1<|Kz hv.c).2.1;show (srch (cs l ws<|bt<|2 ^ l.length - 1)<|List.replicate b.toNat false).2.1=_;rw [cs_full,← h3];show vlF _ (fst b l ws)=_;rw [zbQ h2];exact sm_congr fun _ _=>I
 mono:=fun c _=>by
  obtain ⟨a,a1,a2,a3⟩:=vO_is (ws:=ws) hv.c c;rw [← a3];refine Int.le_trans ?_ (vO_ge hv.c (c:=2 ^ l.length - 1) a1);rw [zbQ a2,zbQ a2];refine sm_le fun i hi=> ?_;rw [Kk hi];have:=(wish_le hv (wnO l i) (a.getD i 0:Nat)).1;simp only [if_true]
  split <;> omega
theorem vO_ub (hv:VW b l ws) (c:Nat):0≤vO b l ws c∧vO b l ws c≤6597069766656:=by
 obtain ⟨a,a1,a2,a3⟩:=vO_is (ws:=ws) hv.c c;rw [← a3,zbQ a2];refine ⟨sm_nonneg fun i _=> ?_,?_⟩
 ·have:=(wish_le hv (wnO l i) (a.getD i 0:Nat)).1
  split <;> omega
 ·have h1:sm (fun i=>if bt c i=true then wish ws (wnO l i) (a.getD i 0:Nat) else 0) l.length≤sm (fun _=>1099511627776) l.length:=sm_le fun i _=>by
   have:=(wish_le hv (wnO l i) (a.getD i 0:Nat)).2
   split <;> omega
  have h2:∀ n:Nat,sm (fun _=>(1099511627776:Int)) n=1099511627776 * n:=by
   intro n
   induction n with
   | zero=>rfl
   | succ n ih=>rw [sm,ih];omega
  have:=hv.c.n;rw [h2] at h1;omega
end
end Co
namespace Co
structure PC (l:List Cl) (i:Nat):Prop where
 ok:∀ j < i,∀ c,l[j]? =some c→0≤c.win∧c.win≤31∧1≤c.cnt
 up:∀ j,j + 1 < i→∀ c d,l[j]? =some c→l[j + 1]? =some d→c.win < d.win
def lastW (l:List Cl):Nat→Int
 | 0=> -1
 | i + 1=>wnO l i
section
variable {b:Int}{l:List Cl}
theorem wnO_get {i:Nat} {c:Cl} (h:l[i]? =some c):wnO l i=c.win:=by unfold wnO;rw [h];rfl
theorem PC.zero:PC l 0:=⟨fun _ h=>absurd h o9,fun _ h=>absurd h o9⟩
theorem PC.step {i:Nat} {x:Cl} (hx:l[i]? =some x) (h:PC l i):PC l (i + 1)↔lastW l i < x.win∧x.win≤31∧1≤x.cnt:=by
 constructor
 ·intro k;have h1:=k.ok i o9 x hx;refine ⟨?_,h1.2⟩
  cases i with
  | zero=>show (-1:Int) < _;omega
  | succ i=>
   obtain ⟨hlt,-⟩:=Jg.1 hx;have e:l[i]? =some (l[i]'o9):=Je o9;show wnO l i < _;rw [wnO_get e];exact k.up i o9 _ _ e hx
 ·rintro ⟨h1,h2,h3⟩;refine ⟨fun j hj c hc=> ?_,fun j hj c d hc hd=> ?_⟩
  ·by_cases e:j=i
   ·subst e;rw [hx] at hc;obtain rfl:=JN hc;refine ⟨?_,h2,h3⟩
    cases j with
    | zero=>have:(-1:Int) < x.win:=h1;omega
    | succ j=>
     obtain ⟨hlt,-⟩:=Jg.1 hx;have e:l[j]? =some (l[j]'o9):=Je o9;have h4:=(h.ok j o9 _ e).1;have h5:wnO l j < x.win:=h1;rw [wnO_get e] at h5;omega
   ·exact h.ok j o9 c hc
  ·by_cases e:j + 1=i
   ·subst e;rw [hx] at hd;obtain rfl:=JN hd;have h5:wnO l j < x.win:=h1;rwa [wnO_get hc] at h5
   ·exact h.up j o9 c d hc hd
theorem VC.pc (h:VC b l) (i:Nat):PC l i:=⟨fun j _ c hc=>h.ok j c hc,fun j _ c d hc hd=>h.up j c d hc hd⟩
theorem vc_of (h1:1≤b) (h2:b≤12) (h3:l.length≤6) {i:Nat} (hi:i=l.length) (h4:PC l i) (h5:sC (l.take i)≤b):VC b l:=by
 subst hi;rw [Ji<|Js _] at h5;exact ⟨h1,h2,h3,fun j c hc=>h4.ok j (Jg.1 hc).1 c hc,fun j c d hc hd=>h4.up j (Jg.1 hd).1 c d hc hd,h5⟩
theorem PC.sum {i:Nat} (h:PC l i):0≤sC (l.take i):=by
 have:∀ m:List Cl,(∀ c∈m,1≤c.cnt)→0≤sC m:=by
  intro m
  induction m with
  | nil=>intro _;exact Int.le_refl _
  | cons c m ih=>
   intro h;have:=ih fun d hd=>h d (Jl _ hd);have:=h c mC;rw [sC];omega
 refine this _ fun c hc=> ?_;obtain ⟨j,hj,e⟩:=List.mem_iff_getElem.1 hc
 have hj':j < i:=by rw [JE] at hj;omega
 exact (h.ok j hj' c (by rw [← List.getElem?_take_of_lt hj',Je hj,e])).2.2
theorem lastW_succ {i:Nat} {c:Cl} (h:l[i]? =some c):lastW l (i + 1)=c.win:=wnO_get h
theorem fC_none {w:Int} (h:∀ (j:Nat) c,l[j]? =some c→c.win≠w):fC l w=none:=by
 refine List.findIdx?_eq_none_iff.2 fun c hc=> ?_;obtain ⟨j,hj,e⟩:=List.mem_iff_getElem.1 hc;simpa using h j c (by rw [Je hj,e])
theorem fZ_some {w:Int} {i:Nat} {c:Cl} (hc:l[i]? =some c) (e:c.win=w) (h:∀ j < i,∀ d,l[j]? =some d→d.win≠w):fZ l w=(i:Int):=by
 obtain ⟨hlt,he⟩:=Jg.1 hc
 have:fC l w=some i:=by
  refine List.findIdx?_eq_some_iff_getElem.2 ⟨hlt,by rw [he];simpa using e,fun j hj=> ?_⟩;have:=h j hj _ (Je o9);simpa using this
 unfold fZ;rw [this]
theorem fZ_none {w:Int} (h:∀ (j:Nat) c,l[j]? =some c→c.win≠w):fZ l w= -1:=by unfold fZ;rw [fC_none h]
theorem fZ_cases (l:List Cl) (w:Int):(fC l w=none∧fZ l w= -1)∨∃ i c,fC l w=some i∧fZ l w=(i:Int)∧l[i]? =some c∧c.win=w:=by
 cases h:fC l w with
 | none=>left;exact ⟨rfl,by unfold fZ;rw [h]⟩
 | some i=>
  obtain ⟨c,hc,e⟩:=fC_is h;exact .inr ⟨i,c,I,by unfold fZ;rw [h],hc,e⟩
structure PW (b:Int) (l:List Cl) (ws:List Wi) (k:Nat):Prop where
 ok:∀ j < k,∀ x,ws[j]? =some x→∃ i c,fC l x.win=some i∧l[i]? =some c∧0≤x.st∧x.st≤b - c.cnt∧0≤x.val∧x.val≤1099511627776
 up:∀ j,j + 1 < k→∀ x y,ws[j]? =some x→ws[j + 1]? =some y→x.win < y.win∨x.win=y.win∧x.st < y.st
theorem PW.zero {ws:List Wi}:PW b l ws 0:=⟨fun _ h=>absurd h o9,fun _ h=>absurd h o9⟩
theorem PW.step {ws:List Wi} {k:Nat} {x:Wi} (hx:ws[k]? =some x) (h:PW b l ws k) {i:Nat} {c:Cl} (hi:fC l x.win=some i) (hc:l[i]? =some c) (h1:0≤x.st∧x.st≤b - c.cnt∧0≤x.val∧x.val≤1099511627776) (h2:∀ y,0 < k→ws[k - 1]? =some y→y.win < x.win∨y.win=x.win∧y.st < x.st):PW b l ws (k + 1):=by
 refine ⟨fun j hj y hy=> ?_,fun j hj y z hy hz=> ?_⟩
 ·by_cases e:j=k
  ·subst e;rw [hx] at hy;obtain rfl:=JN hy;exact ⟨i,c,hi,hc,h1⟩
  ·exact h.ok j o9 y hy
 ·by_cases e:j + 1=k
  ·subst e;rw [hx] at hz;obtain rfl:=JN hz;exact h2 y o9 hy
  ·exact h.up j o9 y z hy hz
theorem vw_of {ws:List Wi} (h:VC b l) {k:Nat} (hk:k=ws.length) (hp:PW b l ws k):VW b l ws:=by
 subst hk;exact ⟨h,fun j x hx=>hp.ok j (Jg.1 hx).1 x hx,fun j x y hx hy=>hp.up j (Jg.1 hy).1 x y hx hy⟩

/- ROUNDS: the names of a map in order: slices.Sorted(maps.Keys(m)) out of the shelf's contracts. ROUNDS: Envelopes. ROUNDS: Bids. -/
import Derived.Test.YtgokpcnabgacnaaGreatDoorGZBA
import Derived.Shelf.SlIter.Nil
import Derived.Shelf.SortM.Plain
import Derived.Shelf.SortM.SortNone
set_option maxHeartbeats 8000000
set_option maxRecDepth 100000
namespace Go.Proofs.YtgokpcnabgacnaaGreatDoor
open Go.RowKit Go.Maps Go.Sort Go.Shelf
def jC:Ren:=⟨fun | 7=>61 | 10=>115 | n=>n,
 fun | 23=>133 | 26=>9 | 3=>58 | 28=>131 | 0=>0 | 27=>130 | 33=>202 | 4=>4 | n=>n,fun n=>n⟩
theorem Tryz.keysE:SlLaysZ.n7 Tryz.prog jC where
 mixed:=by kernel_rfl
 f7:=⟨Tryz.f61.name,by kernel_rfl,Tryz.func61.trans<|JY some k9⟩
 f10:=⟨Tryz.f115.name,by kernel_rfl,Tryz.func115.trans<|JY some k9⟩
 t0:=Tryz.underlying0
 a0:=Tryz.isAgg0
 z0:=Tryz.sizeOf0
 v0:=Tryz.zeroValue0
 t4:=Tryz.underlying4
 a4:=Tryz.isAgg4
 z4:=Tryz.sizeOf4
 v4:=Tryz.zeroValue4
 t23:=Tryz.underlying133
 a23:=Tryz.isAgg133
 z23:=Tryz.sizeOf133
 v23:=Tryz.zeroValue133
 t26:=Tryz.underlying9
 a26:=Tryz.isAgg9
 z26:=Tryz.sizeOf9
 v26:=Tryz.zeroValue9
 t27:=Tryz.underlying130
 a27:=Tryz.isAgg130
 z27:=Tryz.sizeOf130
 v27:=Tryz.zeroValue130
 t28:=Tryz.underlying131
 a28:=Tryz.isAgg131
 z28:=Tryz.sizeOf131
 v28:=Tryz.zeroValue131
 t33:=Tryz.underlying202
 a33:=Tryz.isAgg202
 z33:=Tryz.sizeOf202
 v33:=Tryz.zeroValue202
def Tryz.sortedE_ren:Ren:=⟨fun | 6=>60 | 8=>113 | 9=>114 | 11=>162 | 13=>164 | 12=>163 | 23=>198 | 24=>199 | 14=>190 | 15=>191 | 16=>192 | 17=>193 | 18=>194 | 19=>195 | 20=>136 | 21=>196 | 22=>197 | 25=>214 | 26=>215 | 27=>216 | 28=>217 | 29=>218 | 30=>171 | 31=>224 | n=>n,
 fun | 26=>9 | 28=>131 | 24=>114 | 0=>0 | 3=>3 | 37=>83 | 48=>275 | 50=>169 | 4=>4 | 40=>269 | 39=>268 | 45=>159 | 5=>5 | 9=>9 | 51=>290 | 55=>294 | 57=>303 | 58=>304 | 33=>202 | n=>n,fun n=>n⟩
theorem W0:SlLaysZ.n6 Tryz.prog Tryz.sortedE_ren where
 mixed:=by kernel_rfl
 f6:=⟨Tryz.f60.name,by kernel_rfl,Tryz.func60.trans<|JY some k9⟩
 f8:=⟨Tryz.f113.name,by kernel_rfl,Tryz.func113.trans<|JY some k9⟩
 f11:=⟨Tryz.f162.name,by kernel_rfl,Tryz.func162.trans<|JY some k9⟩
 t0:=Tryz.underlying0
 a0:=Tryz.isAgg0
 z0:=Tryz.sizeOf0
 v0:=Tryz.zeroValue0
 t24:=Tryz.underlying114
 a24:=Tryz.isAgg114
 z24:=Tryz.sizeOf114
 v24:=Tryz.zeroValue114
 t26:=Tryz.underlying9
 a26:=Tryz.isAgg9
 z26:=Tryz.sizeOf9
 v26:=Tryz.zeroValue9
 t28:=Tryz.underlying131
 a28:=Tryz.isAgg131
 z28:=Tryz.sizeOf131
 v28:=Tryz.zeroValue131
 i26:=by kernel_rfl
def zb3:Ren:=⟨fun | 6=>114 | 8=>164 | 9=>163 | 19=>198 | 20=>199 | 21=>190 | 22=>191 | 23=>192 | 24=>193 | 25=>194 | 26=>195 | 27=>136 | 28=>196 | 29=>197 | 36=>214 | 31=>215 | 32=>216 | 37=>217 | 38=>218 | 39=>171 | 41=>224 | n=>n,
 fun | 27=>114 | 29=>9 | 3=>3 | 32=>83 | 26=>114 | 0=>0 | 44=>275 | 46=>169 | 4=>4 | 36=>269 | 35=>268 | 41=>159 | 5=>5 | 9=>9 | 53=>290 | 57=>294 | 63=>303 | 64=>304 | n=>n,fun n=>n⟩
theorem zcB:SlLaysM.n6 Tryz.prog zb3 where
 mixed:=by kernel_rfl
 f6:=⟨Tryz.f114.name,by kernel_rfl,Tryz.func114.trans<|JY some k9⟩
 f8:=Tryz.func164.trans (JY some k9)
 f9:=⟨Tryz.f163.name,by kernel_rfl,Tryz.func163.trans<|JY some k9⟩
 f19:=Tryz.func198.trans (JY some k9)
 f20:=Tryz.func199.trans (JY some k9)
 f21:=⟨Tryz.f190.name,by kernel_rfl,Tryz.func190.trans<|JY some k9⟩
 f22:=⟨Tryz.f191.name,by kernel_rfl,Tryz.func191.trans<|JY some k9⟩
 f23:=⟨Tryz.f192.name,by kernel_rfl,Tryz.func192.trans<|JY some k9⟩
 f24:=⟨Tryz.f193.name,by kernel_rfl,Tryz.func193.trans<|JY some k9⟩
 f25:=⟨Tryz.f194.name,by kernel_rfl,Tryz.func194.trans<|JY some k9⟩
 f26:=⟨Tryz.f195.name,by kernel_rfl,Tryz.func195.trans<|JY some k9⟩
 f27:=⟨Tryz.f136.name,by kernel_rfl,Tryz.func136.trans<|JY some k9⟩
 f28:=⟨Tryz.f196.name,by kernel_rfl,Tryz.func196.trans<|JY some k9⟩
 f29:=⟨Tryz.f197.name,by kernel_rfl,Tryz.func197.trans<|JY some k9⟩
 f31:=Tryz.func215.trans (JY some k9)
 f32:=Tryz.func216.trans (JY some k9)
 f36:=⟨Tryz.f214.name,by kernel_rfl,Tryz.func214.trans<|JY some k9⟩
 f37:=⟨Tryz.f217.name,by kernel_rfl,Tryz.func217.trans<|JY some k9⟩
 f38:=⟨Tryz.f218.name,by kernel_rfl,Tryz.func218.trans<|JY some k9⟩
 f39:=⟨Tryz.f171.name,by kernel_rfl,Tryz.func171.trans<|JY some k9⟩
 f41:=⟨Tryz.f224.name,by kernel_rfl,Tryz.func224.trans<|JY some k9⟩
 t0:=Tryz.underlying0
 a0:=Tryz.isAgg0
 z0:=Tryz.sizeOf0
 v0:=Tryz.zeroValue0
 t3:=Tryz.underlying3
 a3:=Tryz.isAgg3
 z3:=Tryz.sizeOf3
 v3:=Tryz.zeroValue3
 t4:=Tryz.underlying4
 a4:=Tryz.isAgg4
 z4:=Tryz.sizeOf4
 v4:=Tryz.zeroValue4
 t5:=Tryz.underlying5
 a5:=Tryz.isAgg5
 z5:=Tryz.sizeOf5
 v5:=Tryz.zeroValue5
 t9:=Tryz.underlying9
 a9:=Tryz.isAgg9
 z9:=Tryz.sizeOf9
 v9:=Tryz.zeroValue9
 t26:=Tryz.underlying114
 a26:=Tryz.isAgg114
 z26:=Tryz.sizeOf114
 v26:=Tryz.zeroValue114
 t27:=Tryz.underlying114
 a27:=Tryz.isAgg114
 z27:=Tryz.sizeOf114
 v27:=Tryz.zeroValue114
 t29:=Tryz.underlying9
 a29:=Tryz.isAgg9
 z29:=Tryz.sizeOf9
 v29:=Tryz.zeroValue9
 t32:=Tryz.underlying83
 a32:=Tryz.isAgg83
 z32:=Tryz.sizeOf83
 v32:=Tryz.zeroValue83
 t35:=Tryz.underlying268
 a35:=Tryz.isAgg268
 z35:=Tryz.sizeOf268
 v35:=Tryz.zeroValue268
 t36:=Tryz.underlying269
 a36:=Tryz.isAgg269
 z36:=Tryz.sizeOf269
 v36:=Tryz.zeroValue269
 t41:=Tryz.underlying159
 a41:=Tryz.isAgg159
 z41:=Tryz.sizeOf159
 v41:=Tryz.zeroValue159
 t44:=Tryz.underlying275
 a44:=Tryz.isAgg275
 z44:=Tryz.sizeOf275
 v44:=Tryz.zeroValue275
 t46:=Tryz.underlying169
 a46:=Tryz.isAgg169
 z46:=Tryz.sizeOf169
 v46:=Tryz.zeroValue169
 t53:=Tryz.underlying290
 a53:=Tryz.isAgg290
 z53:=Tryz.sizeOf290
 v53:=Tryz.zeroValue290
 t57:=Tryz.underlying294
 a57:=Tryz.isAgg294
 z57:=Tryz.sizeOf294
 v57:=Tryz.zeroValue294
 t63:=Tryz.underlying303
 a63:=Tryz.isAgg303
 z63:=Tryz.sizeOf303
 v63:=Tryz.zeroValue303
 t64:=Tryz.underlying304
 a64:=Tryz.isAgg304
 z64:=Tryz.sizeOf304
 v64:=Tryz.zeroValue304
namespace Sx
section
theorem sortsE (m:Nat):AnyZ.SortsIn Tryz.prog Tryz.sortedE_ren Fence.wide m:=
 ⟨fun blk off cap ss W hH hblk hsz=>callsIn_wide.2<|AnyM.slices_Sort_string zcB blk off cap ss W hH hblk hsz,fun p cap W=>callsIn_wide.2<|AnyM.slices_Sort_string_none zcB p cap W⟩
abbrev rdN (_:Value):Option (DataW Unit × List MemPlace):=some (.nil,[])
theorem zgs {x y:LB} (h:Zi x=Zi y):x=y:=by simpa [Zi] using h
theorem key_S {k:LB} (h:k.length≤maxLen):keyOf Tryz.prog 9 (Zi k)=some (.string k):=WideMaps.keyOf_string_mk Tryz.underlying9 (s:=⟨k.toArray⟩) (by show k.toArray.size≤maxLen;rw [List.size_toArray];exact h)
theorem owns_of {w:World} {g ck:Nat} {es:Array MapEntry} {ks:List LB} (hh:w.heap[g]? =some (.map es ck)) (hbn:Bn es ck) (hk:es.toList.map (·.key)=ks.map Zi) (hn:ks.Nodup) (hl:∀ k∈ks,k.length≤maxLen) (hsz:ks.length≤maxLen):
  ∃ D0:DataW Unit,w.ownsMap Tryz.prog 9 rdN g ks.length D0∧ks.Perm (strKeys D0)∧Maps.size D0=ks.length:=by
 have hlen:es.size=ks.length:=by have:=JY List.length hk;simpa using this
 have hrd:∀ x∈es.toList,∃ k∈ks,x.key=Zi k∧WideElems.rd Tryz.prog 9 rdN x=some (.string k,.nil):=fun x hx=>by
  obtain ⟨k,hk1,hk2⟩:=JI.1 (hk ▸ JI.2 ⟨x,hx,rfl⟩);refine ⟨k,hk1,hk2.symm,?_⟩;unfold WideElems.rd;rw [← hk2,key_S<|hl k hk1]
  rfl
 have F:WideElems.Fit Tryz.prog 9 rdN es ck:=⟨by omega,⟨hbn.1,hbn.2,by
  rw [hk]
  exact List.pairwise_map.2 (hn.imp fun h e=>h<|zgs e)⟩,fun x hx=>by
  obtain ⟨k,_,_,h⟩:=hrd x hx
  exact ⟨_,h⟩⟩
 have hown:w.ownsMap Tryz.prog 9 rdN g ks.length (.map<|(es.toList.map<|WideElems.rg Tryz.prog 9 rdN).foldr DataW.insert []):=⟨es,ck,hh,F,by omega,rfl⟩;have hK:Maps.Keyed Tryz.prog 9:=string_keyed Tryz.underlying9
 have hm:∀ x,x∈ks↔∃ p∈(es.toList.map<|WideElems.rg Tryz.prog 9 rdN).foldr DataW.insert [],p.1= .string x:=fun x=>by
  constructor
  ·intro hx;obtain ⟨e,he,hke⟩:=JI.1 (show Zi x∈es.toList.map (·.key) by rw [hk];exact JI.2 ⟨x,hx,rfl⟩);obtain ⟨k,hk1,hk2,hk3⟩:=hrd e he;refine ⟨_,mem_sorted.2<|JI.2 ⟨e,he,V⟩,?_⟩;rw [WideElems.rg_of hk3];have:k=x:=zgs (hk2.symm.trans hke);rw [this]
  ·rintro ⟨p,hp,hpx⟩;obtain ⟨e,he,rfl⟩:=JI.1 (mem_sorted.1 hp);obtain ⟨k,hk1,hk2,hk3⟩:=hrd e he;rw [WideElems.rg_of hk3] at hpx;have hpx:=Lit.string.inj hpx;rw [← hpx];exact hk1
 obtain ⟨es',hD,hpw,_⟩:=hown.entries hK;obtain ⟨es'',hD2,hko⟩:=hown.keysOf;injection hD with hD;injection hD2 with hD2;subst hD;subst hD2
 have hp:ks.Perm (strKeys (H:=Unit)<|.map<|(es.toList.map<|WideElems.rg Tryz.prog 9 rdN).foldr DataW.insert []):=by
  refine perm_strKeys hpw (fun p hp=> ?_) hn fun x=> ?_
  ·obtain ⟨v,hv⟩:=hko p hp;obtain ⟨x,_,hx,_⟩:=Maps.keyOf_str Tryz.underlying9 hv;exact ⟨x,hx⟩
  ·rw [hm x,has_eq,List.any_eq_true]
   constructor
   ·rintro ⟨p,hp,h⟩;exact ⟨p,hp,by rw [h];simp [Lit.sameKey]⟩
   ·rintro ⟨p,hp,h⟩;obtain ⟨v,hv⟩:=hko p hp;obtain ⟨y,_,hy,_⟩:=Maps.keyOf_str Tryz.underlying9 hv;refine ⟨p,hp,?_⟩;rw [hy] at h ⊢;simp [Lit.sameKey] at h;rw [h]
 refine ⟨_,hown,hp,?_⟩;have:=hp.length_eq;rw [this];simp [strKeys,Maps.size_eq]
def kfD (M:Option Nat):D where
 R L w v:=∃ b,v= .func (.func 115) #[] #[.pointer<|some ⟨b,0,none⟩]∧b < w.heap.size∧w.cell? ⟨b,0,none⟩=some (.map M)∧b∉L
 keep:=fun ⟨b,h,hl,hc,ha⟩ ho hS=>⟨b,h,Ju hl ho.size,(ho.cell (p:=⟨b,0,none⟩) hl (fun hm=>ha<|hS _ hm)).trans hc,ha⟩
 less:=fun ⟨b,h,hl,hc,ha⟩ hS=>⟨b,h,hl,hc,fun hm=>by
  rcases hS _ hm with h' | h'
  ·exact ha h'
  ·omega⟩
instance (M:Option Nat):One (kfD M):=⟨fun _ _ _ h=>by obtain ⟨b,rfl,_⟩:=h;rfl⟩
theorem con_keysE (M:Option Nat):Con Tryz.prog 61 [isD<|.map M] (kfD M):=by
 refine ⟨enters_of Tryz.func61 k9 V,fun L w vs hL _ ha=> ?_⟩;obtain ⟨v,rfl,h1⟩:=zeG ha;obtain rfl:v= .map M:=h1;refine (callsIn_wide.1<|AnyZ.keys_in Tryz.keysE Fence.wide 5 t9 V M w).mono ?_;rintro e w' ⟨rfl,rfl⟩;refine ⟨_,V,⟨w.heap.size,V,by simp,by simp,fun hm=> ?_⟩,(Only.refl [] w).alloc _⟩;have:=hL _ hm;omega
theorem zg2 {w w':World} (h:Below w.heap.size w w'):Only [] w w':=⟨h.os,h.tape,h.output,h.size,fun k hk _=>h.block k hk⟩
theorem row_sl {w w':World} {v:Value} {xs:List Value} {L:LN} {e:TypeId} {n:Nat} (h:w'.ownsRow w.heap.size e 1 v n xs) (hL:∀ g∈L,g < w.heap.size):(slD xs).R L w' v:=by
 obtain ⟨hn,h⟩:=h
 have hn':xs.length=n:=by simpa using hn
 rcases h with ⟨rfl,h0⟩ | ⟨g,cap,cur,rfl,hg,hc,hcap,_,hs,htk⟩
 ·refine ⟨none,0,by rw [hn',h0],by omega,fun h=>by omega,fun h=>by omega⟩
 ·refine ⟨_,cap,by rw [hn'],by omega,fun h=>⟨g,0,rfl,(Jn.1 hc).1,fun j hj=> ?_⟩,fun _ p hp hm=> ?_⟩
  ·rw [← htk]
   have hj':j < n:=by omega
   simp [World.cell?,hc,JP,hj']
  ·injection hp with hp;subst hp;have:=hL _ hm;simp at this;omega
theorem flat_T (l:List LB):l.flatMap YM=(l.map Zi).map isD:=by
 induction l with
 | nil=>rfl
 | cons a t ih=>simp only [J6,JU,ih];rfl
theorem sorted_eq {l ks:List LB} (hl:l.Pairwise (· ≤ ·)) (h:l.Perm ks):ks.mergeSort (fun x y=>decide (x≤y))=l:=by
 rw [← mergeSort_of_perm h];exact List.mergeSort_of_pairwise (hl.imp fun h=>by simpa using h)
theorem zfs (M:Option Nat) (F:LN) (K l:List LB) (f:LB→D) (hn:l.Nodup) (hK:∀ k,k∈l↔k∈K) (hs:l.Pairwise (· ≤ ·)) (hlen:l.length≤100000) (hb:∀ k∈l,k.length≤100000):
  ConS Tryz.prog 60 [.r F<|Zc M Zi K f] [kfD M] (fun _:Unit=>[.r F<|Zc M Zi K f]) (fun _=>lsD YM l):=by
 refine ⟨enters_of Tryz.func60 k9 V,fun L w vs hL hG hgl hoff hnd hbx ha=> ?_⟩;obtain ⟨v,rfl,b,rfl,hbl,hc,hbL⟩:=zeG ha
 have fp1:fps [Box.r F<|Zc M Zi K f]=F:=by simp [fps,Box.fp]
 have hR:=hbx _ (m9 rfl);obtain ⟨ks,hnd',hKs,es,hm,hk,hv⟩:=hR
 have hperm:l.Perm ks:=(List.perm_ext_iff_of_nodup hn hnd').2 fun x=>by rw [hK,hKs]
 have hkl:ks.length=l.length:=hperm.length_eq.symm;have hF:∀ g∈F,g < w.heap.size:=fun g hg=>hm.lt g hg
 have hml:(100000:Nat)≤maxLen:=by decide
 have fin:∀ (ss:List LB) (v:Value) (w':World),ss.Perm ks→w'.ownsRow w.heap.size (Tryz.sortedE_ren.t 26) 1 v ss.length ((ss.mergeSort (fun x y=>decide (x≤y))).map encStr)→Below w.heap.size w w'→
   ∃ (i:Unit) (v':Value),Ending.returned v= .returned v'∧(lsD YM l).R (fps [Box.r F<|Zc M Zi K f] ++ L) w' v'∧(∀ b∈[Box.r F<|Zc M Zi K f],b.R (fps [Box.r F<|Zc M Zi K f] ++ L) w')∧(fps [Box.r F<|Zc M Zi K f]).Nodup∧(∀ g∈fps [Box.r F<|Zc M Zi K f],g∈fps [Box.r F<|Zc M Zi K f]∨w.heap.size≤g)∧Only [] w w':=fun ss v w' hp hrow hbw=>by
  have ho:=zg2 hbw;have e1:ss.mergeSort (fun x y=>decide (x≤y))=l:=sorted_eq hs (hperm.trans hp.symm);rw [e1] at hrow;refine ⟨(),v,V,?_,fun b hb=> ?_,hnd,fun g hg=> .inl hg,ho⟩
  ·have h1:=row_sl (L:=fps [Box.r F<|Zc M Zi K f] ++ L) hrow (fun g hg=>by
    rcases Jf.1 hg with hg | hg
    ·rw [fp1] at hg;exact hF g hg
    ·exact hL g hg)
   have h2:=zgi _ _ _ h1;show (rwD l.length<|l.flatMap YM).R _ _ _;rw [flat_T]
   have e2:(l.map encStr).length=l.length:=by simp
   rw [e2] at h2;exact h2
  ·rw [Ja.1 hb];have h3:=hbx _ (m9 rfl);exact (Zc M Zi K f).keep h3 ho (fun x hx=>by cases hx) (fun x hx=>by cases hx)
 rcases hm with ⟨rfl,rfl,rfl⟩ | ⟨g,ck,rfl,hh,rfl,hbn⟩
 ·have e0:ks=[]:=by cases ks with | nil=>rfl | cons a t=>simp at hk
  have hseq:SeqGives Fence.wide 2 Tryz.prog 115 #[.pointer<|some ⟨b,0,none⟩] encStr (fun ss:List LB=>ss=[]) 0 w:=
   AnyZ.keys_gives_nil (ρ:=jC) { Tryz.keysE with } Fence.wide _ trivial rfl b w hbl hc
  refine (callsIn_wide.1<|AnyZ.sorted_in W0 Fence.wide 5 t9 t9 t9 t9 V o9 (sortsE _) (Sx.enters_of Tryz.func114 k9 V) 115 #[.pointer<|some ⟨b,0,none⟩] t9 (Sx.enters_of Tryz.func115 k9 V) _ 0 (JC _) o9 w hseq).mono ?_;rintro e w' ⟨v,ss,rfl,rfl,hrow,_,hbw⟩;exact fin [] v w' (by rw [e0]) hrow hbw
 ·obtain ⟨D0,hown,hp,hsz⟩:=owns_of hh hbn hk hnd' (fun k hk=>by have:=hb k (hperm.mem_iff.2 hk);omega) o9
  have hseq:SeqGives Fence.wide 2 Tryz.prog 115 #[.pointer<|some ⟨b,0,none⟩] encStr (fun ss=>ss.Perm<|strKeys D0) (Maps.size D0) w:=
   AnyZ.keys_gives (ρ:=jC) { Tryz.keysE with } Fence.wide _ trivial rfl o9 b g ks.length D0 w hbl hc hown
  refine (callsIn_wide.1<|AnyZ.sorted_in W0 Fence.wide 5 t9 t9 t9 t9 V o9 (sortsE _) (Sx.enters_of Tryz.func114 k9 V) 115 #[.pointer<|some ⟨b,0,none⟩] t9 (Sx.enters_of Tryz.func115 k9 V) _ (Maps.size D0) o9 o9 w hseq).mono ?_;rintro e w' ⟨v,ss,rfl,hS,hrow,_,hbw⟩;exact fin ss v w' (hS.trans hp.symm) hrow hbw
end
section
theorem zc1 {es:List Env.T} {i:Nat}:∀ (l:List LB),((l.filterMap<|Rnd.getE es i).map Env.T.acc).Sublist l
 | []=>List.Sublist.refl _
 | n :: l=>by
  rcases h:Rnd.getE es i n with _ | e
  ·rw [List.filterMap_cons_none h];exact (zc1 l).trans (List.sublist_cons_self _ _)
  ·rw [List.filterMap_cons_some h,JU]
   have he:e.acc=n:=by
    have:=List.find?_some h;simp only [Jz] at this;exact this.2
   rw [he];exact (zc1 l).cons_cons _
def qM (s:Rnd.S) (i:Nat):List Env.T:=(Acc.nm s.bk).filterMap (Rnd.getE s.es i)
def yU (s:Rnd.S) (r:Int):List Env.T:=if Rnd.has s r then qM s r.toNat else []
abbrev jk (s:Rnd.S) (i:Nat):List LB:=(qM s i).map Env.T.acc
theorem getE_in {es:List Env.T} {i:Nat} {nm:LB} {e:Env.T} (h:Rnd.getE es i nm=some e):e∈es∧e.rnd=(i:Int)∧e.acc=nm:=by
 have h2:=List.find?_some h;simp only [Jz] at h2;exact ⟨List.mem_of_find?_eq_some h,h2⟩
theorem zdS {s:Rnd.S} {i:Nat} {e:Env.T} (h:e∈qM s i):e∈s.es∧e.rnd=(i:Int)∧Rnd.getE s.es i e.acc=some e:=by
 obtain ⟨n,hn,he⟩:=List.mem_filterMap.1 h;obtain ⟨h1,h2,h3⟩:=getE_in he;exact ⟨h1,h2,by rw [h3];exact he⟩
theorem zfL {l:List Acc.T} {e:Env.T} (h:Env.autE l e=0):Env.ok e:=by
 refine Classical.byContradiction fun hn=> ?_;unfold Env.autE at h;rw [Jb hn] at h
 cases h
theorem aut_in {s:Rnd.S} (hg:Rnd.Good s) {e:Env.T} (h:e∈s.es):e.acc∈Acc.nm s.bk:=by
 have h1:=(hg.aut e h).1;refine Classical.byContradiction fun hn=> ?_;have h2:=zfL h1;unfold Env.autE at h1;rw [Jh h2] at h1;have h3:Acc.find s.bk e.acc=none:=Acc.find_none.2 fun ⟨y,hy,hye⟩=>hn (JI.2 ⟨y,hy,hye⟩);obtain ⟨-,h4⟩:=j0 (q:=Env.sgnT e) h3;unfold Yi jH at h1;rw [h4,Jh d9] at h1
 cases h1
theorem nmE_mem {s:Rnd.S} (hg:Rnd.Good s) {i:Nat} (k:LB):k∈jk s i↔k∈Rnd.keysE s.es i:=by
 rw [Rnd.mem_keysE,JI]
 constructor
 ·rintro ⟨e,he,rfl⟩;exact ⟨e,(zdS he).2.2⟩
 ·rintro ⟨e,he⟩;obtain ⟨h1,h2,h3⟩:=getE_in he;exact ⟨e,List.mem_filterMap.2 ⟨k,by rw [← h3];exact aut_in hg h1,he⟩,h3⟩
theorem nm_srt {l:List Acc.T} (hf:Acc.Fine l):(Acc.nm l).Pairwise fun a b=>Acc.lt a b=true:=List.pairwise_map.2 hf.srt
theorem nmE_srt {s:Rnd.S} (hg:Rnd.Good s) (i:Nat):(jk s i).Pairwise fun a b=>Acc.lt a b=true:=(nm_srt hg.fine).sublist (zc1 _)
theorem nmE_nodup {s:Rnd.S} (hg:Rnd.Good s) (i:Nat):(jk s i).Nodup:=(nmE_srt hg i).imp fun h e=>Acc.lt_ne h e
theorem nmE_le {s:Rnd.S} (hg:Rnd.Good s) (i:Nat):(jk s i).Pairwise (· ≤ ·):=(nmE_srt hg i).imp fun h=>by
 have h1:_ < _:=oT ((bytesLess_eq _ _).symm.trans h);exact List.le_of_lt h1
theorem zff {s:Rnd.S} (hg:Rnd.Good s) (i:Nat):(qM s i).length≤256:=by
 have h1:=(zc1 (es:=s.es) (i:=i)<|Acc.nm s.bk).length_le;have h2:=hg.fine.len
 have h3:(Acc.nm s.bk).length=s.bk.length:=by simp
 rw [JO] at h1;show ((Acc.nm s.bk).filterMap<|Rnd.getE s.es i).length≤256;omega
theorem nmE_len {s:Rnd.S} (hg:Rnd.Good s) (i:Nat):∀ k∈jk s i,k.length≤100000:=fun k hk=>by
 obtain ⟨e,he,rfl⟩:=JI.1 hk;have:=(Env.ok_len<|zfL (hg.aut e (zdS he).1).1).1;omega
theorem ofE_at {s:Rnd.S} {i j:Nat} {e:Env.T} (h:(qM s i)[j]? =some e):Rnd.getE s.es i e.acc=some e∧e.acc∈Rnd.keysE s.es i:=by
 have h1:=(zdS<|Jc h).2.2;exact ⟨h1,Rnd.mem_keysE.2 ⟨e,h1⟩⟩
theorem env_x {es:List Env.T} {i:Nat} {nm:LB} {x:Env.T} (h:Rnd.getE es i nm=some x):Le (zbI es i nm) (Zo<|yX x):=by rw [za7 h];exact zb _
def itE (l:List Env.T):List (Nat × Env.T):=l.mapIdx fun i e=>(i,e)
theorem Ww (l:List Env.T):(itE l).length=l.length:=by simp [itE]
theorem itE_get {l:List Env.T} {i:Nat} {e:Env.T} (h:l[i]? =some e):(itE l)[i]? =some (i,e):=by simp [itE,XE,h]
theorem zaX {l:List Env.T} {i j:Nat} {e:Env.T} (h:(itE l)[i]? =some (j,e)):j=i∧l[i]? =some e:=by
 simp only [itE,XE,Jy,Prod.mk.injEq] at h;obtain ⟨x,h1,rfl,rfl⟩:=h;exact ⟨V,h1⟩
def ibV (_:Nat × Env.T) (_:Unit):List Box:=[]
def ddV (x:Nat × Env.T) (_:Unit):List D:=[iD x.1,Zo<|yX x.2]
theorem zeA (x:Env.T):Bls Tryz.prog 38 1 [0] [Zo<|yX x] ([x].flatMap yX):=⟨58,fun L w vs hv=>by
 obtain ⟨u,rfl,cs,rfl,hc⟩:=zeG hv
 match cs,hc with
 | [a,b,c,d,e],hc=>
  obtain ⟨rfl,rfl,rfl,h4,h5,-⟩:=hc;have h4':=h4;have h5':=h5;obtain ⟨A,cp,rfl,-⟩:=h4;obtain ⟨A2,cp2,rfl,-⟩:=h5
  exact ⟨[.string _,.int .i64 _,.int .i64 _,.slice A _ cp,.slice A2 _ cp2],⟨V,V,V,h4',h5',t9⟩,fun w'=>by kernel_rfl⟩⟩
theorem qv (gr:Nat) (F:LN) (s:Rnd.S) (r:Int) (hg:Rnd.Good s):ConR Tryz.prog 21 [.r F<|Yj gr s] [pA gr,iD r] (fun q:LN × Nat=>[.r q.1<|Yj gr s,.c q.2 [lsD yX<|yU s r]]) (fun q:LN × Nat=>isD<|.func (.func 62) #[] #[.pointer<|some ⟨q.2,0,none⟩]):=by
 refine yg Tryz.func21 k9 V k9 fun base w0=>(zk<|yd (Yv (gr:=gr) (s:=s)) [0] d9 ⟨lR V,t9⟩ ?_);rintro _ ⟨t,rfl⟩;refine zi (zf V<|zV (SWl.e2 (S:=[]) (zM (zs:=[.slice none 0 0]) k9 V) fun g5=>(ze<|zk<|zp<|zd V<|zt (S:=[]) (zD [0,5] (qF _ _ s.ws s.ck _ _ _ s.ks) V ⟨(yG 0 V d9 ⟨(zo<|zb _),(zo<|zb _),(zo<|zb _),(zo<|zb _),(zo<|zb _),(yV 5 V d9),t9⟩),t9⟩ V)<|za V (yS V)<|zd V<|zy V (zI V)<|zy V (zI V)<|ZD (S:=[]) V V V V (zD [0,5] (zbk _ _ s.ws s.ck _ _ _ s.ks r) V ⟨(yG 0 V d9 ⟨(zo<|zb _),(zo<|zb _),(zo<|zb _),(zo<|zb _),(zo<|zb _),(yV 5 V d9),t9⟩),(zo<|zb _),t9⟩ V) ?_)));rintro _ rfl;refine za V (zB V V V) (ze<|zJ V (fun hb15=> ?_) (fun hb15=> ?_))
 ·have hr:0≤r∧r < (s.ws.length:Int):=oT hb15;refine zk ?_;obtain ⟨i,hi⟩:∃ i:Nat,r=(i:Int):=⟨r.toNat,by have:=hr.1;omega⟩;obtain ⟨M,hM⟩:∃ M,t.1.Ms[i]? =some M:=⟨_,Je (by have h:t.1.Ms.length=s.ws.length:=t.2;have:=hr.2;omega)⟩;refine yd (zaI<|zdV (es:=s.es) hM) [4] d9 ⟨lR V,t9⟩ ?_;rintro _ ⟨Gi,Fm,rfl⟩;refine Yf 58 5 yX (zi<|zd V<|za V (zz V)<|za V (zc (n:=4) V k9)<|za V (zg 0 V V V k9 zh)<|zd V<|za V (jG 3 1 V V V k9 k9 o9 (by rw [hi];omega))<|za V (qI 3 V V k9 (show t.1.Ms[r.toNat]? =some M by rw [hi];exact hM) V zh)<|zt (S:=[]) (zY (con_keysE M) V ⟨zb _,t9⟩ V) (SWl.e2 (zC [6] ((zfs M Gi (Rnd.keysE s.es i) (jk s i) (zbI s.es i) (nmE_nodup hg i) (nmE_mem hg) (nmE_le hg i) (by have:=zff hg i;simp;omega)<|nmE_len hg i).toR) V ⟨zb _,t9⟩ d9 ⟨lR V,t9⟩ (fun _ h=>h) V) fun _=>(za V (yx (e:=9) V k9)<|zd V<|ze<|zX<|Zw (ι:={p:Nat × Ust // p.1≤(qM s i).length}) (fun p=>zN [(0,pA gr),(1,iD r),(5,pA g5),(24,lsD YM<|jk s i),(25,iD ((jk s i).length:Int)),(26,iD (p.1.1:Int))] [.c gr [pA t.1.gb,lsD YB s.ws,iD s.ck,pA t.1.gl,isD<|.slice t.1.A t.1.Ms.length t.1.c,isD<|.map<|some t.1.gk],.r t.1.Fb<|bkP t.1.gb s.bk,.r t.1.Fl<|ldP t.1.gl s.en,.r t.1.Fv<|yP 133 1 zeY t.1.A t.1.c t.1.Ms,.r Fm<|zbS (mps s.es t.1.Ms) i,.r t.1.Fk<|Zc (some t.1.gk) jM (Rnd.rks s.ks)<|kyD s.ks,.r Gi<|Zc M Zi (Rnd.keysE s.es i)<|zbI s.es i,.c g5 [isD<|.slice p.1.2.A ((qM s i).take p.1.1).length p.1.2.c],.r p.1.2.F<|yP 58 5 yX p.1.2.A p.1.2.c<|(qM s i).take p.1.1]) (fun p=>(qM s i).length - p.1.1) (⟨(0,⟨none,0,[]⟩),JC _⟩) ?_ ?_)))
  ·exact (sB [0,1,2,3,6,4,8,5,7] V V)
  ·rintro ⟨⟨j,u⟩,hj⟩ K0 hK0;dsimp only at hj ⊢;have hn256:=zff hg i;refine zp (za V (yF V V)<|ze<|zk<|zJ V (fun hb27=> ?_) (fun hb27=> ?_))
   ·have h27:(j:Int) < ((jk s i).length:Int):=oT hb27;refine zr (zn<|zk<|zX<|zp ?_)
    have hjl:j < (qM s i).length:=by have h:=h27;rw [JO] at h;omega
    obtain ⟨x,hx⟩:∃ x,(qM s i)[j]? =some x:=⟨_,Je hjl⟩
    have hnm:(jk s i)[j]? =some x.acc:=by simp [hx]
    obtain ⟨hge,hin⟩:=ofE_at hx
    refine za V (yp (e:=9) 1 V V k9 k9 o9 (by simpa using hnm)) (za V (ya V V k9 s9)<|zf V<|ze<|yh (u.F ++ (g5 :: [])) (.q 0<|rr [1,2,3,4,5,6,7,8,9]<|.n 10 (.e 11 (.e 12 .fin .no) .no) .no) k9 k9 (fun d _ _ _ _ h=>by cases d <;> exact h)<|Yy V V (zg 7 V V V k9 zh)<|zL V V<|zl V V (zz V)<|zl V V (zc (n:=4) V k9)<|zl V V (zg 0 V V V k9<|yB 8 V d9<|yK 7 V d9 zh)<|zL V V<|zl V V (jG 3 1 V V V k9 k9 o9 (by rw [hi];omega))<|zl V V (qI 3 V V k9 (show t.1.Ms[r.toNat]? =some M by rw [hi];exact hM) V<|yB 8 V d9<|yK 7 V d9 zh)<|zL V V<|zl V V ((Zu (K9 (kt:=9) (et:=58) (ok:=false) 6 V V V (zb _) k9 (zd4 _) hin<|yB 8 V d9<|yK 7 V d9 zh)<|env_x hge))<|yw V (ZL V V (zeA x) V)<|yW V (yN 8 5 80 V V (SrcT.ls (l:=[x]) V) k9 k9 (by simp;omega) d9 (fun _ h=>mL _ h) V) ?_ yf)
    rintro _ ⟨A41,F41,c41,rfl⟩;exact yy V (zR 7 V V V k9 V<|mR _ mC) (yz<|yc<|zn<|zi<|za V (yC V V ⟨by omega,by omega⟩)<|zd V<|zP (fun a w hh=>hK0 (⟨(j + 1,⟨A41,c41,F41⟩),by dsimp only;omega⟩) (by dsimp only;omega) a w<|hh.sub<|⟨⟨_,V,(sT V)⟩,[0,1,2,3,4,5,6,7,8],by decide,⟨la rfl,⟨lR rfl,⟨lR rfl,⟨lR rfl,⟨lR rfl,⟨lR rfl,⟨lR rfl,⟨⟨_,rfl,⟨zF (by rw [yr hx]),trivial⟩⟩,⟨⟨_,rfl,ZZ (by rw [yr hx]) (by rw [yr hx])⟩,trivial⟩⟩⟩⟩⟩⟩⟩⟩⟩⟩))
   ·have h27:¬(j:Int) < ((jk s i).length:Int):=oF hb27;refine yZ ?_
    repeat (first | refine Ze ?_ | refine Zf d9 ?_)
    refine Zn (zn<|zk<|ql 7 0 8 V V V<|zi<|za V (y9 [.pointer<|some ⟨g5,0,none⟩] V)<|zf V<|ze<|yd (zcU hM) [6,4] d9 (sX V) ?_);rintro _ ⟨Fm2,rfl⟩;refine yd (ZT (gr:=gr) (s:=s) { t.1 with Fm:=Fm2 } (t.2)) [0,1,2,3,6,4] d9 (sX V) ?_;rintro _ ⟨Fr,rfl⟩;refine zQ (fn:=Tryz.f21) ((Fr,g5)) [1,0] (fun _ _ h=>h) (Rs.le (Rs.one V<|zj V) ?_) d9 ⟨lR V,⟨⟨_,V,⟨by rw [yU,Jh (show Rnd.has s r from hr),show r.toNat=i by omega,Ji (by have h:=h27;rw [JO] at h;omega)];exact zb _,trivial⟩⟩,t9⟩⟩;exact zb _
 ·have hr:¬Rnd.has s r:=oF hb15;refine zr (zn<|zp<|za V (y9 [.pointer<|some ⟨g5,0,none⟩] V)<|zf V<|ze<|yd (ZT (gr:=gr) (s:=s) t.1<|t.2) [0,1,2,3,4,5] d9 (sX V) ?_);rintro _ ⟨Fr,rfl⟩;refine zQ (fn:=Tryz.f21) ((Fr,g5)) [1,0] (fun _ _ h=>h) (Rs.le (Rs.one V<|zj V) ?_) d9 ⟨lR V,⟨⟨_,V,⟨by rw [yU,Jb hr];exact Yb,trivial⟩⟩,t9⟩⟩;exact zb _
theorem zai (l:List Env.T) (hl:l.length≤1000000) (hb:∀ e∈l,e.box.length≤1000000∧e.tag.length≤1000000) (J Jx:Nat→Res) (y:Nat) (hy:∀ (i:Nat) (x:Nat × Env.T) (k:Unit) (F:LN),(itE l)[i]? =some x→ConY Tryz.prog y (.r F (J i) :: ibV x k) (ddV x k) (fun t:LN × Bool=>[.r t.1 (if t.2=true then J (i + 1) else Jx<|i + 1)]) (fun t=>t.2)) (F:LN):ConR Tryz.prog 62 [.r F<|J 0] [isD<|.func (.yield y) #[] #[],paD [lsD yX l]] (fun t:LN × Option Nat=>[.r t.1 (match t.2 with | none=>J (itE l).length | some i=>Jx<|i + 1)]) (fun t:LN × Option Nat=>isD<|.tuple #[]):=by
 refine yg Tryz.func62 k9 V k9 fun base w0=>(zp<|za V (ya V V k9 s9)<|za V (yx (e:=58) V k9)<|zd V<|ze<|zX<|Zw (ι:={p:Nat × LN // p.1≤l.length}) (fun p=>zN [(0,isD<|.func (.yield y) #[] #[]),(5,lsD yX l),(6,iD (l.length:Int)),(7,iD (p.1.1:Int))] [.r p.1.2<|J p.1.1]) (fun p=>l.length - p.1.1) (⟨(0,F),by simp⟩) ?_ ?_)
 ·exact (sB [0] V V)
 ·rintro ⟨⟨i,G⟩,hi⟩ K0 hK0;dsimp only at hi ⊢;refine zp (za V (yF V V)<|ze<|zk<|zJ V (fun hb8=> ?_) (fun hb8=> ?_))
  ·have hb8:=oT hb8;refine zr (zn<|zk<|zX<|zp<|zd V ?_);obtain ⟨e,he⟩:∃ e,l[i]? =some e:=⟨_,Je o9⟩;refine za V (yp (e:=58) 5 V V k9 k9 o9 (by simpa using he)) (za V (ZK 5 V k9 d9 (show 5≤5 by decide) s9) (SWl.e2 (S:=[]) (zM (zs:=[.string ⟨#[]⟩,.int .i64 0,.int .i64 0,.slice none 0 0,.slice none 0 0]) k9 V) fun g4=>(zf V<|zt (S:=[_]) (zw 1 V V V k9 V<|m9 V)<|ze<|zk<|zO (σ':=zN [(0,_),(3,_),(4,_),(5,_),(6,_),(7,_)] [_,_]) (sB [0,1] V V)<|zcE<|SWk.rd V (zI V)<|SWk.rd V (zI V)<|SWk.rd V (zA 1 5 V V k9 V zh)<|SWk.ef (S:=[]) (zY (Vk e (hb e<|Jc he).1 (hb e<|Jc he).2) V ⟨zb _,t9⟩ V) ?_)));rintro _ rfl;refine SWk.yield [0] (hy i (i,e) () G<|itE_get he) V V ⟨zb _,zb _,t9⟩ d9 ⟨lR V,t9⟩ V ?_;rintro ⟨G2,b⟩;refine SWk.rd V (yS V) (SWk.nil<|zn<|zJ V (fun hb17=> ?_) (fun hb17=> ?_))
   ·obtain rfl:b=false:=by simpa using hb17
    refine zQ (fn:=Tryz.f62) (((G2,some i):LN × Option Nat)) [1] (fun _ _ h=>h) (Rs.none V) d9 ⟨lR V,t9⟩
   ·obtain rfl:b=true:=by simpa using hb17
    exact zr (yc<|zn<|zi<|za V (yC V V ⟨by omega,by omega⟩)<|zd V<|zP (fun a w hh=>hK0 (⟨(i + 1,G2),by simp only;omega⟩) (by simp only;omega) a w<|hh.sub<|sB [1] V V))
  ·have hb8:=oF hb8;refine yZ ?_
   repeat (first | refine Ze ?_ | refine Zf d9 ?_)
   refine Zn ?_;refine Z1 (fn:=Tryz.f62) (((G,none):LN × Option Nat)) [0] (Rs.none V) d9 ⟨⟨_,V,(by rw [Ww,show l.length=i by omega];exact yu _)⟩,t9⟩
theorem Yx (l:List Env.T) (hl:l.length≤1000000) (hb:∀ e∈l,e.box.length≤1000000∧e.tag.length≤1000000):Seq Tryz.prog 62 [paD [lsD yX l]] ibV ddV (itE l):=fun J Jx y hy F=>zai l hl hb J Jx y hy F
theorem qH:ju Tryz.prog 62:=enters_of Tryz.func62 k9 rfl
theorem jf {s:Rnd.S} (hg:Rnd.Good s) (r:Int):(yU s r).length≤256:=by
 unfold yU
 split
 ·exact zff hg _
 ·simp
theorem ofR_ok {s:Rnd.S} (hg:Rnd.Good s) {r:Int} {e:Env.T} (h:e∈yU s r):Env.ok e∧e∈s.es:=by
 unfold yU at h
 split at h
 ·exact ⟨zfL (hg.aut e (zdS h).1).1,(zdS h).1⟩
 ·cases h
theorem ofR_fit {s:Rnd.S} (hg:Rnd.Good s) (r:Int):∀ e∈yU s r,e.box.length≤1000000∧e.tag.length≤1000000:=fun e he=>by
 have:=Env.ok_len (ofR_ok hg he).1;omega
end
section
structure Rnd.Opn where
 acc:LB
 ser:Int
 bid:LB
 bad:Bool
def zap (o:Rnd.Opn):List D:=[yY o.acc,iD o.ser,bD o.bid,yj o.bad]
instance:Row zap 4:=⟨fun _=>rfl,fun _=>by unfold zap;infer_instance,by decide⟩
instance (o:Rnd.Opn):Ones (zap o):=by unfold zap;infer_instance
def qL (l:List Acc.T) (key:LB) (e:Env.T):Rnd.Opn:=⟨e.acc,e.ser,Env.opB l e key,decide (Env.opE l e key≠0)⟩
def Za (s:Rnd.S) (r:Int):List Rnd.Opn:=(yU s r).map (qL s.bk<|Rnd.kyAt s.ks r.toNat)
def Zp (s:Rnd.S) (r:Int):Int:=if ¬Rnd.has s r then 3 else if Rnd.kyAt s.ks r.toNat=[] then 8 else 0
def ZJ (s:Rnd.S) (r:Int):List Rnd.Opn:=if Zp s r=0 then Za s r else []
theorem qC {s:Rnd.S} {r:Int} (h:Zp s r≠0):ZJ s r=[]:=Jb h
theorem opB_bad {l:List Acc.T} {e:Env.T} {key:LB} (h:Env.opE l e key≠0):Env.opB l e key=[]:=by
 unfold Env.opB;rw [Jb h]
theorem VK {s:Rnd.S} (hg:Rnd.Good s) (r:Int):(Za s r).length≤256:=by
 unfold Za;rw [JO];exact jf hg r
theorem rowsL_at {s:Rnd.S} {r:Int} {i:Nat} {e:Env.T} (h:(yU s r)[i]? =some e):(Za s r)[i]? =some (qL s.bk (Rnd.kyAt s.ks r.toNat) e):=by
 unfold Za;rw [JJ,h]
 rfl
theorem con_openP {gb:Nat} {l:List Acc.T} {F:LN} (e:Env.T) (hf:Acc.Fine l) (key:LB):ConR Tryz.prog 105 [.r F<|bkP gb l] [pA gb,Zo [yY e.acc,iD e.rnd,iD e.ser,bD e.box,bD e.tag],bD key] (fun F':LN=>[.r F'<|bkP gb l]) (fun _=>Yk [bD<|Env.opB l e key,iD<|Env.opE l e key]):=
 zdy fun s=>con_openE gb s l e hf key
theorem bldOp2 {a:LB} {b:Int}:Bld Tryz.prog 110 [0,1] [yY a,iD b] [yY a,iD b,isD<|.slice none 0 0,isD<|.bool false]:=fun L w vs hv=>by
 obtain ⟨u,v,rfl,rfl,rfl⟩:=zdB hv;exact ⟨[.string _,.int .i64 b,.slice none 0 0,.bool false],⟨V,V,V,V,t9⟩,fun w'=>by kernel_rfl⟩
theorem blsO1 (x:Rnd.Opn):Bls Tryz.prog 97 1 [0] [Zo<|zap x] ([x].flatMap zap):=⟨110,fun L w vs hv=>by
 obtain ⟨u,rfl,cs,rfl,hc⟩:=zeG hv
 match cs,hc with
 | [a,b,c,d],hc=>
  obtain ⟨rfl,rfl,h3,rfl,-⟩:=hc;have h3':=h3;obtain ⟨A,cp,rfl,-⟩:=h3
  exact ⟨[.string _,.int .i64 _,.slice A _ cp,.bool _],⟨V,V,h3',V,t9⟩,fun w'=>by kernel_rfl⟩⟩
instance (ks:List LB) (r:Int):One (kyD ks r):=by unfold kyD;infer_instance
theorem zdX:Le (isD<|.slice none 0 0) (bD []):=fun _ _ _ h=>⟨none,0,h,Js _,fun h0=>by simp at h0,fun h0=>by simp at h0⟩
theorem con_bids (gr:Nat) (F:LN) (s:Rnd.S) (r:Int) (hg:Rnd.Good s):ConR Tryz.prog 43 [.r F<|Yj gr s] [pA gr,iD r] (fun F':LN=>[.r F'<|Yj gr s]) (fun F':LN=>Yk [lsD zap<|ZJ s r,iD<|Zp s r]):=by
 refine con_ofRMp Tryz.func43 k9 V k9 fun base w0=>(zk<|yd (Yv (gr:=gr) (s:=s)) [0] d9 ⟨lR V,t9⟩ ?_);rintro _ ⟨t,rfl⟩;refine zi (SWl.e2 (S:=[]) (Yh V (fun _ _ _ h=>Zg<|One.h _ _ _ h) V) fun g2=>(zf V<|zf V<|ze<|zk<|zp<|za V (zg 6 V V V k9 zh)<|zt (S:=[]) (zD [0,5] (qF _ _ s.ws s.ck _ _ _ s.ks) V ⟨(yG 0 V d9 ⟨(zo<|zb _),(zo<|zb _),(zo<|zb _),(zo<|zb _),(zo<|zb _),(yV 5 V d9),t9⟩),t9⟩ V)<|ze<|zE V V<|zr<|zn<|zk<|zp<|za V (zg 6 V V V k9 zh)<|zd V<|zt (S:=[]) (zD [0,5] (zbk _ _ s.ws s.ck _ _ _ s.ks r) V ⟨(yG 0 V d9 ⟨(zo<|zb _),(zo<|zb _),(zo<|zb _),(zo<|zb _),(zo<|zb _),(yV 5 V d9),t9⟩),(zo<|zb _),t9⟩ V)<|za V (yS V)<|ze<|zJ V (fun hb19=> ?_) (fun hb19=> ?_)))
 ·have hh:¬Rnd.has s r:=(by have h:(!decide (Rnd.has s r))=true:=hb19;simpa using h);refine zp (zf V<|zf V<|ze<|yd (ZT (gr:=gr) (s:=s) t.1<|t.2) [0,1,2,3,4,5] d9 (sX V) ?_);rintro _ ⟨Fr,rfl⟩;refine WO (fn:=Tryz.f43) (fun _ _ h=>h) (WQ (Fr) [1] (Rs.le (ym V (zj V)<|zj V) ?_) d9 ⟨lR V,t9⟩);have hE:Zp s r=3:=Jh hh;exact yn ⟨Le.trans Yb (by rw [qC (by rw [hE];decide)];exact zb _),zF (by rw [hE]),t9⟩
 ·have hh:0≤r∧r < (s.ws.length:Int):=(by have h:(!decide (Rnd.has s r))=false:=hb19;have h2:Rnd.has s r:=(by simpa using h);exact h2);refine zr (zn<|zk ?_)
  by_cases hm:(Rnd.kyAt s.ks r.toNat)≠[]
  ·have hin:=Rnd.mem_rks.2 ⟨hh.1,hm⟩;refine zi (za V (zg 6 V V V k9 zh)<|za V (zz V)<|za V (zc (n:=5) V k9)<|za V (zg 0 V V V k9 zh)<|zd V<|za V ((K9 (kt:=3) (et:=24) (ok:=true) 5 V V V (show Le (iD r) (isD<|jM r) from zb _) k9 (keyZ _) hin zh))<|zd V<|za V (zm V V)<|za V (zm V V) (SWl.e2 (S:=[]) (zM (zs:=[.slice none 0 0]) k9 V) fun g6=>(zt (S:=[_]) (zR 7 V V V k9 V<|m9 V)<|zf V<|ze<|zk<|zp<|zd V<|za V (yS V)<|ze<|zE V V<|zr<|zn<|zp (SWl.e2 (S:=[]) (zM (zs:=[.slice none 0 0]) k9 V) fun g8=>(ze<|zk<|zk<|zO (σ':=zN [(2,_),(1,_),(6,_),(8,_)] [.c gr [pA t.1.gb,lsD YB s.ws,iD s.ck,pA t.1.gl,isD<|.slice t.1.A t.1.Ms.length t.1.c,isD<|.map<|some t.1.gk],.r t.1.Fb<|bkP t.1.gb s.bk,.r t.1.Fl<|ldP t.1.gl s.en,.r t.1.Fv<|yP 133 1 zeY t.1.A t.1.c t.1.Ms,.r t.1.Fm<|zbR<|mps s.es t.1.Ms,.r t.1.Fk<|Zc (some t.1.gk) jM (Rnd.rks s.ks)<|kyD s.ks,.c g2 [pA gr],.c g6 [bD<|Rnd.kyAt s.ks r.toNat],.c g8 [isD<|.slice none 0 0]]) (⟨⟨_,V,(sT V)⟩,[0,1,2,3,4,5,6,7,8],by decide,⟨la rfl,⟨lR rfl,⟨lR rfl,⟨lR rfl,⟨lR rfl,⟨lR rfl,⟨la rfl,⟨⟨_,rfl,⟨zb _,trivial⟩⟩,⟨la rfl,trivial⟩⟩⟩⟩⟩⟩⟩⟩⟩⟩)<|yd (ZT (gr:=gr) (s:=s) t.1<|t.2) [0,1,2,3,4,5] d9 (sX V) ?_)))))
   rintro _ ⟨Fr,rfl⟩;refine zi (za V (zg 0 V V V k9 zh)<|zd V<|YJ (zC [3] (qv gr Fr s r hg) V ⟨zb _,zb _,t9⟩ d9 ⟨lR V,t9⟩ (fun _ h=>h) V) ?_);rintro _ ⟨⟨F33,gq⟩,rfl⟩;refine ze (zX<|q9 4 33 V V<|yd (Yv (gr:=gr) (s:=s)) [3] d9 ⟨lR V,t9⟩ ?_);rintro _ ⟨v,rfl⟩
   refine Yf 110 4 zap (zO (σ':=zN [(2,_),(6,_),(8,_),(33,_)] [.c gr [pA v.1.gb,lsD YB s.ws,iD s.ck,pA v.1.gl,isD<|.slice v.1.A v.1.Ms.length v.1.c,isD<|.map<|some v.1.gk],.r v.1.Fb<|bkP v.1.gb s.bk,.r v.1.Fl<|ldP v.1.gl s.en,.r v.1.Fv<|yP 133 1 zeY v.1.A v.1.c v.1.Ms,.r v.1.Fm<|zbR<|mps s.es v.1.Ms,.r v.1.Fk<|Zc (some v.1.gk) jM (Rnd.rks s.ks)<|kyD s.ks,.c g2 [pA gr],.c g6 [bD<|Rnd.kyAt s.ks r.toNat],.c g8 [isD<|.slice (⟨none,0,[]⟩:Ust).A ((Za s r).take<|0).length (⟨none,0,[]⟩:Ust).c],.r (⟨none,0,[]⟩:Ust).F<|yP 110 4 zap (⟨none,0,[]⟩:Ust).A (⟨none,0,[]⟩:Ust).c<|(Za s r).take<|0]) (⟨⟨_,V,(sT V)⟩,[3,4,5,6,7,8,0,1,2,9],by decide,⟨la rfl,⟨lR rfl,⟨lR rfl,⟨lR rfl,⟨lR rfl,⟨lR rfl,⟨la rfl,⟨⟨_,rfl,⟨zb _,trivial⟩⟩,⟨⟨_,rfl,⟨zF s9,trivial⟩⟩,⟨⟨_,rfl,ZZ s9 s9⟩,trivial⟩⟩⟩⟩⟩⟩⟩⟩⟩⟩⟩)<|jV (gf:=62) (ps:=[34,35]) (ib:=ibV) (dd:=ddV) (items:=(itE<|yU s r)) (fun i bx=>∃ (u:Ust) (Fb:LN),bx=[.c gr [pA v.1.gb,lsD YB s.ws,iD s.ck,pA v.1.gl,isD<|.slice v.1.A v.1.Ms.length v.1.c,isD<|.map<|some v.1.gk],.r Fb<|bkP v.1.gb s.bk,.r v.1.Fl<|ldP v.1.gl s.en,.r v.1.Fv<|yP 133 1 zeY v.1.A v.1.c v.1.Ms,.r v.1.Fm<|zbR<|mps s.es v.1.Ms,.r v.1.Fk<|Zc (some v.1.gk) jM (Rnd.rks s.ks)<|kyD s.ks,.c g2 [pA gr],.c g6 [bD<|Rnd.kyAt s.ks r.toNat],.c g8 [isD<|.slice u.A ((Za s r).take<|i).length u.c],.r u.F<|yP 110 4 zap u.A u.c<|(Za s r).take<|i]) (fun o i bx=>match o with | none=>False | some n=>False) (fun i x k σ=>∃ (u:Ust) (Fb:LN) (g10:Nat),σ=zN [(2,pA g2),(6,pA g6),(8,pA g8),(10,pA g10)] [.c gr [pA v.1.gb,lsD YB s.ws,iD s.ck,pA v.1.gl,isD<|.slice v.1.A v.1.Ms.length v.1.c,isD<|.map<|some v.1.gk],.r Fb<|bkP v.1.gb s.bk,.r v.1.Fl<|ldP v.1.gl s.en,.r v.1.Fv<|yP 133 1 zeY v.1.A v.1.c v.1.Ms,.r v.1.Fm<|zbR<|mps s.es v.1.Ms,.r v.1.Fk<|Zc (some v.1.gk) jM (Rnd.rks s.ks)<|kyD s.ks,.c g2 [pA gr],.c g6 [bD<|Rnd.kyAt s.ks r.toNat],.c g8 [isD<|.slice u.A ((Za s r).take<|i).length u.c],.r u.F<|yP 110 4 zap u.A u.c<|(Za s r).take<|i,.c g10 [yY x.2.acc,iD x.2.rnd,iD x.2.ser,bD x.2.box,bD x.2.tag]]) qH (Yx (yU s r) (by have:=jf hg r;omega)<|ofR_fit hg r) V (⟨(⟨none,0,[]⟩:Ust),v.1.Fb,V⟩) k9 (fun _ _=>V) ?_ ?_ ?_ ?_ ?_)
   ·rintro i x k hx bx ⟨u,Fb,rfl⟩ y base w0;exact yJ k9 (fun _ _ h=>h) (SWl.e2 (S:=[]) (zM (zs:=[.string ⟨#[]⟩,.int .i64 0,.int .i64 0,.slice none 0 0,.slice none 0 0]) k9 V) fun g10=>(zt (S:=[_]) (zw 10 V V V k9 V<|m9 V)<|zP<|jW (σ':=zN [(2,pA g2),(6,pA g6),(8,pA g8),(10,pA g10)] [.c gr [pA v.1.gb,lsD YB s.ws,iD s.ck,pA v.1.gl,isD<|.slice v.1.A v.1.Ms.length v.1.c,isD<|.map<|some v.1.gk],.r Fb<|bkP v.1.gb s.bk,.r v.1.Fl<|ldP v.1.gl s.en,.r v.1.Fv<|yP 133 1 zeY v.1.A v.1.c v.1.Ms,.r v.1.Fm<|zbR<|mps s.es v.1.Ms,.r v.1.Fk<|Zc (some v.1.gk) jM (Rnd.rks s.ks)<|kyD s.ks,.c g2 [pA gr],.c g6 [bD<|Rnd.kyAt s.ks r.toNat],.c g8 [isD<|.slice u.A ((Za s r).take<|i).length u.c],.r u.F<|yP 110 4 zap u.A u.c<|(Za s r).take<|i,.c g10 [yY x.2.acc,iD x.2.rnd,iD x.2.ser,bD x.2.box,bD x.2.tag]]) ⟨u,Fb,g10,V⟩<|sB [0,1,2,3,4,5,6,7,8,9,10] V V))
   ·rintro i x k hx _ ⟨u,Fb,g10,rfl⟩ y base w0;obtain ⟨hx1,hx2⟩:=zaX (j:=x.1) (e:=x.2) hx;have hlt:=(Jg.1 hx2).1;have hrl:=rowsL_at hx2
    refine jS (Z0<|yJ k9 (fun _ _ h=>h)<|za V (zc (n:=0) V k9)<|za V (zg 10 V V V k9 zh)<|za V (zc (n:=2) V k9)<|za V (zg 10 V V V k9 zh)<|za V (yq V V bldOp2) (SWl.e2 (S:=[]) (zM (zs:=[.string ⟨#[]⟩,.int .i64 0,.slice none 0 0,.bool false]) k9 V) fun g11=>(zt (S:=[_]) (zw 11 V V V k9 V<|m9 V)<|zP<|Zr<|Z0<|Wf (Fb ++ []) (.r 0<|.r 1<|.r 2<|.r 3<|.r 4<|.r 5<|.e 6 (.r 7<|.r 8<|.r 9<|.r 10<|.r 11 .fin) .no) k9 (fun _ _ h=>h) k9 k9 (fun d _ _ _ _ h=>by cases d <;> exact h)<|zl V V (zg 6 V V V k9<|yB 1 V d9 zh)<|zl V V (zz V)<|zl V V (zc (n:=0) V k9)<|zl V V (zg 0 V V V k9<|yB 1 V d9 zh)<|zl V V (zA 10 5 V V k9 V<|yB 1 V d9 zh)<|zl V V (zg 7 V V V k9<|yB 1 V d9 zh)<|yW V (zC [1] (con_openP x.2 hg.fine<|Rnd.kyAt s.ks r.toNat) V ⟨zb _,zb _,zb _,t9⟩ d9 ⟨lR V,t9⟩ (fun _ h=>h) V) ?_ yf)))
    rintro _ ⟨F48,rfl⟩;refine zL V V (zl V V (zm V V)<|zl V V (zm V V)<|Zh V V<|Zh V V<|yz<|Zr<|Z0<|Z0<|yJ k9 (fun _ _ h=>h)<|zd V<|za V (yM V V)<|zP<|Zr<|Wh V (fun hb52=> ?_) (fun hb52=> ?_))
    ·have h52:Env.opE s.bk x.2 (Rnd.kyAt s.ks r.toNat)=0:=oT hb52;exact yJ k9 (fun _ _ h=>h) (zd V<|za V (zc (n:=2) V k9)<|zt (S:=[_]) (zR 10 V V V k9 V<|m9 V)<|zP<|Zr<|SWr.sub (σ':=zN [(2,_),(6,_),(8,_),(11,_)] [.c gr [pA v.1.gb,lsD YB s.ws,iD s.ck,pA v.1.gl,isD<|.slice v.1.A v.1.Ms.length v.1.c,isD<|.map<|some v.1.gk],.r F48<|bkP v.1.gb s.bk,.r v.1.Fl<|ldP v.1.gl s.en,.r v.1.Fv<|yP 133 1 zeY v.1.A v.1.c v.1.Ms,.r v.1.Fm<|zbR<|mps s.es v.1.Ms,.r v.1.Fk<|Zc (some v.1.gk) jM (Rnd.rks s.ks)<|kyD s.ks,.c g2 [pA gr],.c g6 [bD<|Rnd.kyAt s.ks r.toNat],.c g8 [isD<|.slice u.A ((Za s r).take<|i).length u.c],.r u.F<|yP 110 4 zap u.A u.c<|(Za s r).take<|i,.c g11 [yY x.2.acc,iD x.2.ser,bD (qL s.bk (Rnd.kyAt s.ks r.toNat) x.2).bid,yj (qL s.bk (Rnd.kyAt s.ks r.toNat) x.2).bad]]) (⟨⟨_,V,(sT V)⟩,[0,11,1,2,3,4,5,6,7,8,10],by decide,⟨la rfl,⟨lR rfl,⟨lR rfl,⟨lR rfl,⟨lR rfl,⟨lR rfl,⟨la rfl,⟨la rfl,⟨la rfl,⟨lR rfl,⟨⟨_,rfl,⟨zb _,zb _,zb _,zF (by show _=Value.bool (decide _);rw [h52];rfl),trivial⟩⟩,trivial⟩⟩⟩⟩⟩⟩⟩⟩⟩⟩⟩⟩)<|yJ k9 (fun _ _ h=>h)<|za V (zg 8 V V V k9 zh)<|za V (zA 10 4 V V k9 V zh)<|zt (S:=[]) (ZL V V (blsO1<|qL s.bk (Rnd.kyAt s.ks r.toNat) x.2) V) (SWl.e4 (yN 9 4 56 V V (SrcT.ls (l:=[qL s.bk (Rnd.kyAt s.ks r.toNat) x.2]) V) k9 k9 (by have:=VK hg r;simp;omega) d9 (fun _ h=>h) V) fun A59 F59 c59=>(zt (S:=[_]) (zR 8 V V V k9 V<|m9 V)<|zP<|yc<|jW (σ':=zN [] [.c gr [pA v.1.gb,lsD YB s.ws,iD s.ck,pA v.1.gl,isD<|.slice v.1.A v.1.Ms.length v.1.c,isD<|.map<|some v.1.gk],.r F48<|bkP v.1.gb s.bk,.r v.1.Fl<|ldP v.1.gl s.en,.r v.1.Fv<|yP 133 1 zeY v.1.A v.1.c v.1.Ms,.r v.1.Fm<|zbR<|mps s.es v.1.Ms,.r v.1.Fk<|Zc (some v.1.gk) jM (Rnd.rks s.ks)<|kyD s.ks,.c g2 [pA gr],.c g6 [bD<|Rnd.kyAt s.ks r.toNat],.c g8 [isD<|.slice (⟨A59,c59,F59⟩:Ust).A ((Za s r).take<|i + 1).length (⟨A59,c59,F59⟩:Ust).c],.r (⟨A59,c59,F59⟩:Ust).F<|yP 110 4 zap (⟨A59,c59,F59⟩:Ust).A (⟨A59,c59,F59⟩:Ust).c<|(Za s r).take<|i + 1]) ⟨(⟨A59,c59,F59⟩:Ust),F48,V⟩<|⟨⟨_,V,t9⟩,[0,1,2,3,4,5,6,7,8,10],by decide,⟨la rfl,⟨lR rfl,⟨lR rfl,⟨lR rfl,⟨lR rfl,⟨lR rfl,⟨la rfl,⟨la rfl,⟨⟨_,rfl,⟨zF (by rw [yr hrl]),trivial⟩⟩,⟨⟨_,rfl,ZZ (by rw [yr hrl]) (by rw [yr hrl])⟩,trivial⟩⟩⟩⟩⟩⟩⟩⟩⟩⟩⟩)))
    ·have h52:Env.opE s.bk x.2 (Rnd.kyAt s.ks r.toNat)≠0:=oF hb52;exact yJ k9 (fun _ _ h=>h) (za V (zc (n:=3) V k9)<|zt (S:=[_]) (zR 10 V V V k9 V<|m9 V)<|zP<|Zr<|SWr.sub (σ':=zN [(2,_),(6,_),(8,_),(11,_)] [.c gr [pA v.1.gb,lsD YB s.ws,iD s.ck,pA v.1.gl,isD<|.slice v.1.A v.1.Ms.length v.1.c,isD<|.map<|some v.1.gk],.r F48<|bkP v.1.gb s.bk,.r v.1.Fl<|ldP v.1.gl s.en,.r v.1.Fv<|yP 133 1 zeY v.1.A v.1.c v.1.Ms,.r v.1.Fm<|zbR<|mps s.es v.1.Ms,.r v.1.Fk<|Zc (some v.1.gk) jM (Rnd.rks s.ks)<|kyD s.ks,.c g2 [pA gr],.c g6 [bD<|Rnd.kyAt s.ks r.toNat],.c g8 [isD<|.slice u.A ((Za s r).take<|i).length u.c],.r u.F<|yP 110 4 zap u.A u.c<|(Za s r).take<|i,.c g11 [yY x.2.acc,iD x.2.ser,bD (qL s.bk (Rnd.kyAt s.ks r.toNat) x.2).bid,yj (qL s.bk (Rnd.kyAt s.ks r.toNat) x.2).bad]]) (⟨⟨_,V,(sT V)⟩,[0,11,1,2,3,4,5,6,7,8,10],by decide,⟨la rfl,⟨lR rfl,⟨lR rfl,⟨lR rfl,⟨lR rfl,⟨lR rfl,⟨la rfl,⟨la rfl,⟨la rfl,⟨lR rfl,⟨⟨_,rfl,⟨zb _,zb _,Le.trans (zb _) (by show Le _ (bD<|Env.opB _ _ _);rw [opB_bad h52];exact zdX),zF (by show _=Value.bool (decide _);rw [Jo h52]),trivial⟩⟩,trivial⟩⟩⟩⟩⟩⟩⟩⟩⟩⟩⟩⟩)<|yJ k9 (fun _ _ h=>h)<|za V (zg 8 V V V k9 zh)<|za V (zA 10 4 V V k9 V zh)<|zt (S:=[]) (ZL V V (blsO1<|qL s.bk (Rnd.kyAt s.ks r.toNat) x.2) V) (SWl.e4 (yN 9 4 56 V V (SrcT.ls (l:=[qL s.bk (Rnd.kyAt s.ks r.toNat) x.2]) V) k9 k9 (by have:=VK hg r;simp;omega) d9 (fun _ h=>h) V) fun A59 F59 c59=>(zt (S:=[_]) (zR 8 V V V k9 V<|m9 V)<|zP<|yc<|jW (σ':=zN [] [.c gr [pA v.1.gb,lsD YB s.ws,iD s.ck,pA v.1.gl,isD<|.slice v.1.A v.1.Ms.length v.1.c,isD<|.map<|some v.1.gk],.r F48<|bkP v.1.gb s.bk,.r v.1.Fl<|ldP v.1.gl s.en,.r v.1.Fv<|yP 133 1 zeY v.1.A v.1.c v.1.Ms,.r v.1.Fm<|zbR<|mps s.es v.1.Ms,.r v.1.Fk<|Zc (some v.1.gk) jM (Rnd.rks s.ks)<|kyD s.ks,.c g2 [pA gr],.c g6 [bD<|Rnd.kyAt s.ks r.toNat],.c g8 [isD<|.slice (⟨A59,c59,F59⟩:Ust).A ((Za s r).take<|i + 1).length (⟨A59,c59,F59⟩:Ust).c],.r (⟨A59,c59,F59⟩:Ust).F<|yP 110 4 zap (⟨A59,c59,F59⟩:Ust).A (⟨A59,c59,F59⟩:Ust).c<|(Za s r).take<|i + 1]) ⟨(⟨A59,c59,F59⟩:Ust),F48,V⟩<|⟨⟨_,V,t9⟩,[0,1,2,3,4,5,6,7,8,10],by decide,⟨la rfl,⟨lR rfl,⟨lR rfl,⟨lR rfl,⟨lR rfl,⟨lR rfl,⟨la rfl,⟨la rfl,⟨⟨_,rfl,⟨zF (by rw [yr hrl]),trivial⟩⟩,⟨⟨_,rfl,ZZ (by rw [yr hrl]) (by rw [yr hrl])⟩,trivial⟩⟩⟩⟩⟩⟩⟩⟩⟩⟩⟩)))
   ·rintro dk0 bx ⟨u,Fb,rfl⟩;have htk:(Za s r).take (itE<|yU s r).length=Za s r:=Ji (by rw [Ww];unfold Za;rw [JO];exact Js _);refine yc (zn<|zk<|zO (σ':=zN [(8,_)] [.c gr [pA v.1.gb,lsD YB s.ws,iD s.ck,pA v.1.gl,isD<|.slice v.1.A v.1.Ms.length v.1.c,isD<|.map<|some v.1.gk],.r Fb<|bkP v.1.gb s.bk,.r v.1.Fl<|ldP v.1.gl s.en,.r v.1.Fv<|yP 133 1 zeY v.1.A v.1.c v.1.Ms,.r v.1.Fm<|zbR<|mps s.es v.1.Ms,.r v.1.Fk<|Zc (some v.1.gk) jM (Rnd.rks s.ks)<|kyD s.ks,.c g2 [pA gr],.c g6 [bD<|Rnd.kyAt s.ks r.toNat],.c g8 [isD<|.slice u.A (Za s r).length u.c],.r u.F<|yP 110 4 zap u.A u.c<|Za s r,.r [dk0] dfR]) (⟨⟨_,V,⟨lq V,t9⟩⟩,[0,1,2,3,4,5,6,7,8,9,10],by decide,⟨la rfl,⟨lR rfl,⟨lR rfl,⟨lR rfl,⟨lR rfl,⟨lR rfl,⟨la rfl,⟨la rfl,⟨⟨_,rfl,⟨zF (by rw [htk]),trivial⟩⟩,⟨⟨_,rfl,ZZ (by rw [htk]) (by rw [htk])⟩,⟨lR rfl,trivial⟩⟩⟩⟩⟩⟩⟩⟩⟩⟩⟩⟩)<|yd (ZT (gr:=gr) (s:=s) { v.1 with Fb:=Fb } (v.2)) [0,1,2,3,4,5] d9 (sX V) ?_);rintro _ ⟨Fz,rfl⟩;refine zi (za V (zg 2 V V V k9 zh)<|zf V<|zf V<|ze<|qk 3 4 V V (zb _)<|WO (fn:=Tryz.f43) (fun _ _ h=>h)<|Vv 3 V<|WQ (Fz) [3] (Rs.le (ym V (zj V)<|zj V) ?_) d9 ⟨lR V,t9⟩)
    have hE:Zp s r=0:=by (unfold Zp;rw [Jb<|Jj (show Rnd.has s r from hh),Jb hm])
    exact yn ⟨by rw [show ZJ s r=Za s r from Jh hE];exact zb _,zF (by rw [hE]),trivial⟩
   ·rintro _ _ _ _ hX;exact hX.elim
   ·rintro _ _ _ hX;exact hX.elim
  ·have hin:r∉Rnd.rks s.ks:=fun h=>hm (Rnd.mem_rks.1 h).2;refine zi (za V (zg 6 V V V k9 zh)<|za V (zz V)<|za V (zc (n:=5) V k9)<|za V (zg 0 V V V k9 zh)<|zd V<|za V ((jZ (kt:=3) (et:=24) (z:= .slice none 0 0) (ok:=true) 5 V V V (show Le (iD r) (isD<|jM r) from zb _) k9 k9 (keyZ _) hin zh))<|zd V<|za V (zm V V)<|za V (zm V V) (SWl.e2 (S:=[]) (zM (zs:=[.slice none 0 0]) k9 V) fun g6=>(zt (S:=[_]) (zR 7 V V V k9 V<|m9 V)<|zf V<|ze<|zk<|zp<|zd V<|za V (yS V)<|ze<|zW V V<|zp<|zf V<|zf V<|ze<|yd (ZT (gr:=gr) (s:=s) t.1<|t.2) [0,1,2,3,4,5] d9 (sX V) ?_)));rintro _ ⟨Fr,rfl⟩;refine WO (fn:=Tryz.f43) (fun _ _ h=>h) (WQ (Fr) [2] (Rs.le (ym V (zj V)<|zj V) ?_) d9 ⟨lR V,t9⟩)
   have hE:Zp s r=8:=by (unfold Zp;rw [Jb<|Jj (show Rnd.has s r from hh),Jh<|Xp.1 hm])
   exact yn ⟨Le.trans Yb (by rw [qC (by rw [hE];decide)];exact zb _),zF (by rw [hE]),t9⟩

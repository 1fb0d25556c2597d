/-
 Parts of the proof.
-/
import Derived.Test.YtojmcmghmnfjeaaGreatDoorM1H
namespace Go.Proofs.YtojmcmghmnfjeaaGreatDoor
open Go.RowKit
set_option linter.unusedVariables false
set_option linter.unusedSimpArgs false
theorem SR.src {P:Program} {α:Type} {s:Sh α} (hg:Good s) (hf:Flat s) {tx e':TypeId} (hk:P.underlying tx=some (.slice e')) {w:World} {lo hi lo' hi':Nat} {A:Option Addr} {c:Nat} {xs:List α} (h:SR s w lo' hi' A c xs) {n:Nat} (hn:n=s.size) :
 ∃news,Src P n tx (.slice A xs.length c) xs.length news w∧Rowed s w lo hi news xs (List.replicate xs.length []):=by
 subst hn
 rcases Nat.eq_zero_or_pos xs.length with h0 | hp
 ·obtain rfl:=List.eq_nil_of_length_eq_zero h0
  refine ⟨[],?_,⟨rfl,by simp,fun i hi=>absurd hi (by simp)⟩⟩
  cases A with
  | none=>exact Src.ofNil w hk c
  | some a=>exact Src.ofSlice w hk a 0 c [] (by simp) (fun j u hu=>by simp at hu) (fun u hu=>by simp at hu)
 ·obtain ⟨g,off,rfl,h1,h2,h3⟩:=h.2.2 hp
  obtain ⟨news,hr,hn⟩:=Rowed.flat (lo:=lo) (hi:=hi) hg hf h3
  exact ⟨news,Src.ofSlice w hk ⟨g,off,none⟩ xs.length c news hr.2.1 hn (hr.ones hg),hr⟩
theorem SR.take {α:Type} {s:Sh α} {w:World} {lo hi:Nat} {A:Option Addr} {c:Nat} {xs:List α} (h:SR s w lo hi A c xs) {b:Nat} (hb:b≤xs.length):SR s w lo hi A c (xs.take b):=by
 have h1:=h.1
 refine ⟨by simp;omega,h.2.1,fun hp=>?_⟩
 have hp':0<b:=by simp at hp;omega
 obtain ⟨g,off,hA,h1,h2,h3⟩:=h.2.2 (by omega)
 refine ⟨g,off,hA,h1,h2,fun i hi=>?_⟩
 have hi':i<xs.length:=by simp at hi;omega
 obtain ⟨cs,hc,hr⟩:=h3 i hi'
 exact ⟨cs,hc,by simpa using hr⟩
theorem SR.dropN {α:Type} {s:Sh α} {w:World} {lo hi g off:Nat} {c:Nat} {xs:List α} (h:SR s w lo hi (some ⟨g,off,none⟩) c xs) {a:Nat} (ha:a≤xs.length):SR s w lo hi (some ⟨g,off+a*s.size,none⟩) (c-a) (xs.drop a):=by
 have h1:=h.1
 have h2:=h.2.1
 have:=h.sub (a:=a) (b:=xs.length) (d:=c-a) ha (Nat.le_refl _) (by omega) (by omega)
 rwa [List.take_length] at this
theorem SR.dropAll {α:Type} {s:Sh α} {w:World} {lo hi:Nat} {A:Option Addr} {c:Nat} (hc:c≤maxLen):SR s w lo hi A c ([]:List α):=⟨by simp,hc,fun hp=>absurd hp (by simp)⟩
theorem toR_eq {α:Type} {s:Sh α} {x y:α} {n m:Int} {w w':World} {e:Ending} (h1:Hid (x=y)) (h2:Hid (n=m)) (h:ToR s y m w e w'):ToR s x n w e w':=by rw [h1.out,h2.out];exact h
end Go.Proofs.YtojmcmghmnfjeaaGreatDoor

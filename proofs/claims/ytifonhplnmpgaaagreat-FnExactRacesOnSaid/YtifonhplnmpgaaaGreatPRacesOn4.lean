/-
  Parts of the proof, put together by program.
-/
import Derived.Test.YtifonhplnmpgaaaGreatPRacesOn3
set_option linter.unusedVariables false
set_option linter.unusedSimpArgs false
set_option linter.unusedSectionVars false
namespace Go.Sh
def zaM (l:List Nat):List Int:=l.map fun x:Nat=>(x:Int)
theorem zae (l:List Nat):(zaM l).length=l.length:=by simp [zaM]
theorem zaK {l:List Nat} {i:Nat} (h:i<(zaM l).length):(zaM l)[i]=((l[i]'(by rw [←zae];exact h):Nat):Int):=by simp [zaM]
theorem zcc (l m:List Nat):zaM (l++m)=zaM l++zaM m:=by simp [zaM]
theorem zns (l:List Nat) (k:Nat):zaM (l.take k)=(zaM l).take k:=by simp [zaM]
def mkd (ms:List Bool) (i:Nat):Prop:=ms.getD i false=true
theorem zaL {ms:List Bool} {i:Nat} (h:i<ms.length):mkd ms i↔ms[i]=true:=by
 unfold mkd;rw [List.getD_eq_getElem?_getD,List.getElem?_eq_getElem h];rfl
theorem zlx {ms:List Bool} {i:Nat} (h:mkd ms i):i<ms.length:=by
 rcases Nat.lt_or_ge i ms.length with h' | h'
 · exact h'
 unfold mkd at h;rw [List.getD_eq_getElem?_getD,List.getElem?_eq_none h'] at h;cases h
theorem zbY {ms:List Bool} {i j:Nat} (hi:i<ms.length):mkd (ms.set i true) j↔mkd ms j∨j=i:=by
 unfold mkd
 rw [List.getD_eq_getElem?_getD,List.getD_eq_getElem?_getD,List.getElem?_set]
 by_cases h:i=j
 · subst h;simp [hi]
 have:¬j=i:=fun e=>h e.symm
 simp [h,this]
theorem zbl {n i:Nat}:¬mkd (List.replicate n false) i:=by
 unfold mkd
 rw [List.getD_eq_getElem?_getD,List.getElem?_replicate]
 split<;>simp
theorem znt {ms ns:List Bool} (hl:ms.length=ns.length) (h:∀ i,i<ms.length→(mkd ms i↔mkd ns i)):ms=ns:=by
 refine List.ext_getElem hl fun i h1 h2=>?_
 have:=h i h1
 rw [zaL h1,zaL h2] at this
 cases e1:ms[i]<;>cases e2:ns[i]<;>simp_all
def zgL (ms:List Bool):Nat:=ms.count true
theorem zeJ (ms:List Bool):zgL ms≤ms.length:=List.count_le_length
theorem zfP:∀ {ms:List Bool} {i:Nat},i<ms.length→¬mkd ms i→zgL (ms.set i true)=zgL ms+1
 | b :: ms,0,_,h=>by
   have:b=false:=by cases b<;>simp_all [mkd]
   subst this
   simp [zgL]
 | b :: ms,i+1,hi,h=>by
   have ih:=zfP (ms:=ms) (i:=i) (by simpa using hi) (by simpa [mkd] using h)
   simp only [zgL,List.set_cons_succ,List.count_cons] at ih ⊢
   omega
inductive RP (nx:Nat→List Nat) (a:Nat):Nat→Prop
 | one {b:Nat} (h:b∈nx a):RP nx a b
 | more {b d:Nat} (h:RP nx a b) (k:d∈nx b):RP nx a d
theorem RP.trans {nx:Nat→List Nat} {a b d:Nat} (h:RP nx a b) (k:RP nx b d):RP nx a d:=by
 induction k with
 | one h1=>exact .more h h1
 | more _ h2 ih=>exact .more ih h2
theorem RP.keeps {nx:Nat→List Nat} {p:Nat→Prop} {a b:Nat} (h:RP nx a b) (ha:p a) (hp:∀ i j,p i→j∈nx i→p j):p b:=by
 induction h with
 | one h=>exact hp _ _ ha h
 | more _ h ih=>exact hp _ _ ih h
structure SInv (nx:Nat→List Nat) (n a:Nat) (M0 ms:List Bool) (td:List Nat) (k:Nat):Prop where
 len:ms.length=n
 sub:∀ i,mkd M0 i→mkd ms i
 src:∀ i,mkd ms i→mkd M0 i∨RP nx a i
 tdo:∀ i∈td,(i=a∨RP nx a i)∧i<n
 clo:∀ i,(i=a∨(mkd ms i∧¬mkd M0 i))→i∈td∨∀ j∈nx i,mkd ms j
 cnt:td.length+k+zgL M0=1+zgL ms
structure SIn2 (nx:Nat→List Nat) (n a:Nat) (M0 ms:List Bool) (td:List Nat) (k x q:Nat):Prop where
 len:ms.length=n
 sub:∀ i,mkd M0 i→mkd ms i
 src:∀ i,mkd ms i→mkd M0 i∨RP nx a i
 tdo:∀ i∈td,(i=a∨RP nx a i)∧i<n
 clo:∀ i,(i=a∨(mkd ms i∧¬mkd M0 i))→i∈td∨(i=x∧∀ j∈(nx x).take q,mkd ms j)∨∀ j∈nx i,mkd ms j
 cnt:td.length+k+1+zgL M0=1+zgL ms
 met:x=a∨RP nx a x
section
variable {nx:Nat→List Nat} {n a k x q:Nat} {M0 ms:List Bool} {td td':List Nat}
theorem SInv.start (hl:M0.length=n) (ha:a<n):SInv nx n a M0 M0 [a] 0:=
 ⟨hl,fun _ h=>h,fun _ h=>.inl h,fun i hi=>by simp only [List.mem_cons,List.not_mem_nil,or_false] at hi;exact ⟨.inl hi,hi▸ha⟩,fun i hi=>by
   rcases hi with rfl | ⟨h1,h2⟩
   · exact .inl (by simp)
   exact absurd h1 h2,by simp⟩
theorem SInv.bound (h:SInv nx n a M0 ms td k):td.length+k≤1+n:=by
 have h1:=h.cnt
 have h2:=zeJ ms
 rw [h.len] at h2
 omega
theorem SInv.pop (h:SInv nx n a M0 ms td k) (hm:∀ i,i∈td↔i∈td'∨i=x) (hl:td.length=td'.length+1):SIn2 nx n a M0 ms td' k x 0:=
 ⟨h.len,h.sub,h.src,fun i hi=>h.tdo i ((hm i).2 (.inl hi)),fun i hi=>by
   rcases h.clo i hi with h1 | h1
   · rcases (hm i).1 h1 with h1 | rfl
     · exact .inl h1
     exact .inr (.inl ⟨rfl,by simp⟩)
   exact .inr (.inr h1),by have:=h.cnt;omega,(h.tdo x ((hm x).2 (.inr rfl))).1⟩
theorem SIn2.skip (h:SIn2 nx n a M0 ms td k x q) (hq:q<(nx x).length) (hmk:mkd ms (nx x)[q]):SIn2 nx n a M0 ms td k x (q+1):=
 ⟨h.len,h.sub,h.src,h.tdo,fun i hi=>by
   rcases h.clo i hi with h1 | ⟨rfl,h1⟩ | h1
   · exact .inl h1
   · refine .inr (.inl ⟨rfl,fun j hj=>?_⟩)
     rw [List.take_succ_eq_append_getElem hq] at hj
     rcases List.mem_append.1 hj with hj | hj
     · exact h1 j hj
     simp only [List.mem_cons,List.not_mem_nil,or_false] at hj
     rw [hj];exact hmk
   exact .inr (.inr h1),h.cnt,h.met⟩
theorem SIn2.push (h:SIn2 nx n a M0 ms td k x q) (hq:q<(nx x).length) (hn:(nx x)[q]<n) (hmk:¬mkd ms (nx x)[q]):SIn2 nx n a M0 (ms.set (nx x)[q] true) (td++[(nx x)[q]]) k x (q+1):=by
 have hs:=fun j=>zbY (ms:=ms) (i:=(nx x)[q]) (j:=j) (by rw [h.len];exact hn)
 have hr:RP nx a (nx x)[q]:=by
   rcases h.met with e | e
   · exact .one (e▸List.getElem_mem hq)
   exact .more e (List.getElem_mem hq)
 refine ⟨by simp [h.len],fun i hi=>(hs i).2 (.inl (h.sub i hi)),fun i hi=>?_,fun i hi=>?_,fun i hi=>?_,?_,h.met⟩
 · rcases (hs i).1 hi with h1 | h1
   · exact h.src i h1
   exact .inr (h1▸hr)
 · rcases List.mem_append.1 hi with h1 | h1
   · exact h.tdo i h1
   simp only [List.mem_cons,List.not_mem_nil,or_false] at h1
   exact ⟨.inr (h1▸hr),h1▸hn⟩
 · have hi':i=(nx x)[q]∨(i=a∨(mkd ms i∧¬mkd M0 i)):=by
     rcases hi with h1 | ⟨h1,h2⟩
     · exact .inr (.inl h1)
     rcases (hs i).1 h1 with h1 | h1
     · exact .inr (.inr ⟨h1,h2⟩)
     exact .inl h1
   rcases hi' with h1 | h1
   · exact .inl (List.mem_append_right _ (by simp [h1]))
   rcases h.clo i h1 with h1 | ⟨rfl,h1⟩ | h1
   · exact .inl (List.mem_append_left _ h1)
   · refine .inr (.inl ⟨rfl,fun j hj=>?_⟩)
     rw [List.take_succ_eq_append_getElem hq] at hj
     rcases List.mem_append.1 hj with hj | hj
     · exact (hs j).2 (.inl (h1 j hj))
     simp only [List.mem_cons,List.not_mem_nil,or_false] at hj
     exact (hs j).2 (.inr hj)
   exact .inr (.inr fun j hj=>(hs j).2 (.inl (h1 j hj)))
 have:=h.cnt
 rw [zfP (by rw [h.len];exact hn) hmk,List.length_append]
 simp only [List.length_cons,List.length_nil]
 omega
theorem SIn2.done (h:SIn2 nx n a M0 ms td k x q) (hq:(nx x).length≤q):SInv nx n a M0 ms td (k+1):=
 ⟨h.len,h.sub,h.src,h.tdo,fun i hi=>by
   rcases h.clo i hi with h1 | ⟨rfl,h1⟩ | h1
   · exact .inl h1
   · rw [List.take_of_length_le hq] at h1;exact .inr h1
   exact .inr h1,by have:=h.cnt;omega⟩
theorem SInv.fin (h:SInv nx n a M0 ms [] k) (hc:∀ i,mkd M0 i→i≠a→∀ j∈nx i,mkd M0 j) (i:Nat):mkd ms i↔mkd M0 i∨RP nx a i:=by
 refine ⟨h.src i,fun hi=>?_⟩
 rcases hi with hi | hi
 · exact h.sub i hi
 have hcl:∀ b,(b=a∨mkd ms b)→∀ j∈nx b,mkd ms j:=fun b hb=>by
   by_cases hba:b=a
   · rcases h.clo b (.inl hba) with h1 | h1
     · cases h1
     exact h1
   have hb:=hb.resolve_left hba
   by_cases hm:mkd M0 b
   · exact fun j hj=>h.sub j (hc b hm hba j hj)
   rcases h.clo b (.inr ⟨hb,hm⟩) with h1 | h1
   · cases h1
   exact h1
 induction hi with
 | one h1=>exact hcl a (.inl rfl) _ h1
 | more _ h2 ih=>exact hcl _ (.inr ih) _ h2
end
noncomputable def zbE (n:Nat) (p:Nat→Prop):List Bool:=(List.range n).map fun i=>@decide (p i) (Classical.propDecidable _)
noncomputable def zbd (n:Nat) (p:Nat→Prop):List Nat:=(List.range n).filter fun i=>@decide (p i) (Classical.propDecidable _)
noncomputable def zf1 (p:Nat→Prop):Nat→Nat
 | 0=>0
 | n+1=>zf1 p n ||| (if @decide (p n) (Classical.propDecidable _) then 2^n else 0)
section
variable {n:Nat} {p q:Nat→Prop}
theorem zak:(zbE n p).length=n:=by simp [zbE]
theorem zaI {i:Nat}:mkd (zbE n p) i↔i<n∧p i:=by
 constructor
 · intro h
   have hl:=zlx h
   rw [zaL hl] at h
   rw [zak] at hl
   refine ⟨hl,?_⟩
   simpa [zbE] using h
 rintro ⟨h1,h2⟩
 rw [zaL (by rw [zak];exact h1)]
 simpa [zbE] using h2
theorem zbQ {ms:List Bool} (hl:ms.length=n) (h:∀ i,i<n→(mkd ms i↔p i)):ms=zbE n p:=
 znt (by rw [hl,zak]) fun i hi=>by
   rw [zaI,h i (hl▸hi)]
   exact ⟨fun h=>⟨hl▸hi,h⟩,fun h=>h.2⟩
theorem zbo (h:∀ i,i<n→(p i↔q i)):zbE n p=zbE n q:=zbQ zak fun i hi=>by rw [zaI,←h i hi];exact ⟨fun h=>h.2,fun h=>⟨hi,h⟩⟩
theorem zaQ {i:Nat}:i∈zbd n p↔i<n∧p i:=by simp [zbd]
theorem zjP:zbd (n+1) p=zbd n p++(if @decide (p n) (Classical.propDecidable _) then [n] else []):=by
 simp only [zbd,List.range_succ,List.filter_append,List.filter_cons,List.filter_nil]
theorem zea (h:p n):zbd (n+1) p=zbd n p++[n]:=by rw [zjP];simp [h]
theorem zeb (h:¬p n):zbd (n+1) p=zbd n p:=by rw [zjP];simp [h]
theorem zaZ:(zbd n p).length≤n:=Nat.le_trans (List.length_filter_le _ _) (by simp)
theorem zbU {i:Nat}:(zf1 p n).testBit i=true↔i<n∧p i:=by
 induction n with
 | zero=>simp [zf1]
 | succ n ih=>
   rw [zf1,Nat.testBit_or,Bool.or_eq_true,ih]
   by_cases hp:p n
   · simp only [hp,decide_true,if_true,Nat.testBit_two_pow,decide_eq_true_eq]
     constructor
     · rintro (⟨h1,h2⟩ | rfl)
       · exact ⟨by omega,h2⟩
       exact ⟨by omega,hp⟩
     rintro ⟨h1,h2⟩
     rcases Nat.lt_or_eq_of_le (Nat.lt_succ_iff.1 h1) with h | h
     · exact .inl ⟨h,h2⟩
     exact .inr h.symm
   simp only [hp,decide_false,Bool.false_eq_true,if_false,Nat.zero_testBit,or_false]
   constructor
   · rintro ⟨h1,h2⟩;exact ⟨by omega,h2⟩
   rintro ⟨h1,h2⟩
   rcases Nat.lt_or_eq_of_le (Nat.lt_succ_iff.1 h1) with h | h
   · exact ⟨h,h2⟩
   exact absurd (h▸h2) hp
theorem zho:zf1 p n<2^n:=by
 refine Nat.lt_pow_two_of_testBit _ fun i hi=>?_
 cases h:(zf1 p n).testBit i
 · rfl
 have:=(zbU.1 h).1;omega
theorem zec {m:Nat} (h:∀ i,m.testBit i=true↔i<n∧p i):m=zf1 p n:=
 Nat.eq_of_testBit_eq fun i=>by
   have h1:=h i
   rw [←zbU] at h1
   cases e1:m.testBit i<;>cases e2:(zf1 p n).testBit i<;>simp_all
theorem zcw (h:∀ i,i<n→(p i↔q i)):zf1 p n=zf1 q n:=zec fun i=>by
 rw [zbU]
 exact ⟨fun ⟨h1,h2⟩=>⟨h1,(h i h1).1 h2⟩,fun ⟨h1,h2⟩=>⟨h1,(h i h1).2 h2⟩⟩
end
end Go.Sh
namespace Go.Proofs.YtifonhplnmpgaaaGreat
open Go Go.Sh Go.Proofs
open Rep (rep)
def F136 (a0 a1:Value) (w:World) (R:VW):Prop:=
 NIL a0 <|
 rF 114 a0 0 w fun x8=>
 rF 32 x8 4 w fun x9=>
 rL 30 x9 w fun x10=>
 rX 30 x10 a1 w fun x12=>
 rL 111 x12 w fun x13=>
 oP (Instr.alloc 111 true (.tuple #[])) w fun x5 w=>
 oS 111 x5 x13 w fun w=>
 rF 111 x5 0 w fun x14=>
 rL 3 x14 w fun x15=>
 rB .eql 3 T0 U0 x15 (iV 9) w fun x17=>
 BR x17
 (R (Value.slice none 0 0) w)
 (rB .eql 3 T0 U0 x15 (iV 3) w fun x19=>
 BR x19
 (rF 111 x5 3 w fun x20=>
 rL 3 x20 w fun x21=>
 oP (Instr.buildSlice 23 1 #[(0,x21)]) w fun x22 w=>
 R x22 w)
 (rB .eql 3 T0 U0 x15 (iV 2) w fun x24=>
 BR x24
 (rF 111 x5 3 w fun x25=>
 rL 3 x25 w fun x26=>
 rA a1 (iV 1) w fun x28=>
 rB .neq 3 T0 T0 x26 x28 w fun x29=>
 BR x29
 (rA a1 (iV 1) w fun x31=>
 rF 111 x5 3 w fun x32=>
 rL 3 x32 w fun x33=>
 oP (Instr.buildSlice 23 2 #[(0,x31),(1,x33)]) w fun x34 w=>
 R x34 w)
 (rA a1 (iV 1) w fun x36=>
 oP (Instr.buildSlice 23 1 #[(0,x36)]) w fun x37 w=>
 R x37 w))
 (rA a1 (iV 1) w fun x36=>
 oP (Instr.buildSlice 23 1 #[(0,x36)]) w fun x37 w=>
 R x37 w)))
def cfg136:Cfg:=⟨extL,[],[],[],[],[],[]⟩
theorem F136_call {a0 a1:Value} {w:World} {R:VW} (h:F136 a0 a1 w R):cL 136 [a0,a1] w R:=co (g:=cfg136) Tryz.func136 (by kernel_rfl) (by kernel_rfl) (by kernel_rfl) h
def F179 (a0 a1:Value) (w:World) (R:VW):Prop:=
 oP (Instr.box 32 a0) w fun x2 w=>
 rF 32 x2 4 w fun x6=>
 rL 30 x6 w fun x7=>
 rX 30 x7 a1 w fun x9=>
 rL 111 x9 w fun x10=>
 oP (Instr.alloc 111 true (.tuple #[])) w fun x5 w=>
 oS 111 x5 x10 w fun w=>
 rF 111 x5 0 w fun x11=>
 rL 3 x11 w fun x12=>
 rB .eql 3 T0 U0 x12 (iV 2) w fun x14=>
 BR x14
 (rF 111 x5 3 w fun x15=>
 rL 3 x15 w fun x16=>
 rA a1 (iV 1) w fun x18=>
 rB .eql 3 T0 T0 x16 x18 w fun x19=>
 BR x19
 (rA a1 (iV 1) w fun x21=>
 oP (Instr.buildSlice 23 1 #[(0,x21)]) w fun x22 w=>
 R x22 w)
 (rA a1 (iV 1) w fun x24=>
 rF 111 x5 3 w fun x25=>
 rL 3 x25 w fun x26=>
 oP (Instr.buildSlice 23 2 #[(0,x24),(1,x26)]) w fun x27 w=>
 R x27 w))
 (rB .eql 3 T0 U0 x12 (iV 3) w fun x29=>
 BR x29
 (rF 111 x5 3 w fun x30=>
 rL 3 x30 w fun x31=>
 oP (Instr.buildSlice 23 1 #[(0,x31)]) w fun x32 w=>
 R x32 w)
 (rB .eql 3 T0 U0 x12 (iV 9) w fun x34=>
 BR x34
 (oP (Instr.buildSlice 23 0 #[]) w fun x35 w=>
 R x35 w)
 (rA a1 (iV 1) w fun x37=>
 oP (Instr.buildSlice 23 1 #[(0,x37)]) w fun x38 w=>
 R x38 w)))
def cfg179:Cfg:=⟨extL,[],[],[],[],[],[]⟩
theorem F179_call {a0 a1:Value} {w:World} {R:VW} (h:F179 a0 a1 w R):cL 179 [a0,a1] w R:=co (g:=cfg179) Tryz.func179 (by kernel_rfl) (by kernel_rfl) (by kernel_rfl) h
def zav (c:DCode) (i:Nat):List Nat:=
 if (zaj c i).op=9 then [] else if (zaj c i).op=3 then [(zaj c i).to.toNat] else if (zaj c i).op=2∧(zaj c i).to≠(i:Int)+1 then [i+1,(zaj c i).to.toNat] else [i+1]
theorem zb2 {c:DCode} (hc:CodeR c) {i j:Nat} (hi:i<c.ins.length) (h:j∈zav c i):j<c.ins.length∧zar c j=zar c i:=by
 have h9:=znq hc (a:=(i:Int)) (by omega) (by omega)
 have hto:=zkB hc (a:=(i:Int)) (by omega) (by omega)
 simp only [Int.toNat_natCast] at h9 hto
 unfold zav at h
 split at h
 · cases h
 rename_i ho
 have h1:=h9 ho
 have e1:((i+1:Nat):Int)=(i:Int)+1:=by omega
 split at h
 · rename_i h3
   simp only [List.mem_cons,List.not_mem_nil,or_false] at h
   subst h
   have h2:=hto (.inr h3)
   rw [Int.toNat_of_nonneg h2.1]
   exact ⟨by omega,h2.2.2⟩
 split at h
 · rename_i h2
   simp only [List.mem_cons,List.not_mem_nil,or_false] at h
   rcases h with rfl | rfl
   · exact ⟨by omega,by rw [e1];exact h1.2⟩
   have h2:=hto (.inl h2.1)
   rw [Int.toNat_of_nonneg h2.1]
   exact ⟨by omega,h2.2.2⟩
 simp only [List.mem_cons,List.not_mem_nil,or_false] at h
 subst h
 exact ⟨by omega,by rw [e1];exact h1.2⟩
theorem zdP (c:DCode) (i:Nat):(zav c i).length≤2:=by
 unfold zav
 split
 · simp
 split
 · simp
 split<;>simp
section
variable {P:Program} {w:World} {K:Value→World→Prop}
def vsI (l:List Int):List Value:=l.map fun x=>.int .i64 x
theorem zjQ {w:World}:∀ {l:List Int},(∀ x∈l,I64 x)→Cells [] w (vsI l) l
 | [],_=>⟨rfl,rfl⟩
 | x :: l,h=>⟨[],[],[.int .i64 x],vsI l,rfl,rfl,⟨rfl,rfl,h x (by simp)⟩,zjQ fun y hy=>h y (by simp [hy])⟩
theorem zp6 {l:List Int} {e:Nat} (hl:∀ x∈l,I64 x) (hm:l.length≤maxLen):Own w.heap.size (w.alloc (.cells (vsI l).toArray e)) (.slice (some ⟨w.heap.size,0,none⟩) l.length l.length) l:=by
 have hB:Blk w.heap.size e (w.alloc (.cells (vsI l).toArray e)) (vsI l):=heap_alloc_new w _
 refine ⟨[w.heap.size],⟨⟨_,⟨some ⟨w.heap.size,0,none⟩,l.length,[],vsI l,rfl,Nat.le_refl _,hm,zjQ hl,.inr ⟨_,_,rfl,rfl,hB.range,?_⟩⟩,rfl⟩,by simp,fun i hi=>?_⟩,by simp⟩
 · exact (Array.getElem?_eq_some_iff.1 hB).1
 simp only [List.mem_cons,List.not_mem_nil,or_false] at hi
 subst hi
 exact ⟨_,_,hB⟩
theorem zh2 {t e:TypeId} {by_:Nat} {x y:Int} (ht:P.underlying t=some (.slice e)) (he:tyI P e=some (1,by_,false)) (hz:zcQ P e=some [.int .i64 0]) (hx:I64 x) (hy:I64 y)
   (k:∀ v w',Ext w w'→Own w.heap.size w' v [x,y]→K v w'):OP P (Instr.buildSlice t 2 #[(0,.int .i64 x),(1,.int .i64 y)]) w K:=by
 unfold zcQ at hz
 cases hi:P.info? e with
 | none=>simp [hi] at hz
 | some i=>
   simp only [hi] at hz
   obtain ⟨v,hv,hvc⟩:=Option.map_eq_some_iff.1 hz
   refine ⟨_,w.alloc (.cells (vsI [x,y]).toArray e),?_,k _ _ (zaX w _) (zp6 (l:=[x,y]) (e:=e) (by simp [hx,hy]) (by simp [maxLen]))⟩
   have hvc':v.cells=#[.int .i64 0]:=Array.ext' (by simpa using hvc)
   have e1:∀ n:Int,(Value.int .i64 n).cells=#[.int .i64 n]:=fun _=>rfl
   simp only [Instr.buildSlice,Sem.run_bind,run_underlying ht,Result.andThen_ok,zaO he]
   have e2:Array.range 2=#[0,1]:=by decide
   simp [zeroValue,typeInfo,hi,hv,newRow,Instr.fill,hvc',vsI,e1,e2]
end
theorem zrt:zcQ Tryz.prog 3=some [.int .i64 0]:=by kernel_rfl
theorem zhp {w W0:World} {b:Nat} {c:DCode} {i:Nat} (hA:At W0 b 0 c) (e0:Ext W0 w) (hc:CodeR c) (hi:i<c.ins.length) :
   CALL Tryz.prog 136 [.pointer (some ⟨b,0,none⟩),.int .i64 (i:Int)] w fun r w'=>Ext w w'∧Own w.heap.size w' r (zaM (zav c i)):=by
 refine F136_call ?_
 unfold F136
 have hil:=hc.f.ins
 have hto:=zkB hc (a:=(i:Int)) (by omega) (by omega)
 simp only [Int.toNat_natCast] at hto
 refine NIL.mk rfl ?_
 refine zaa zaY ?_
 refine zaa zaD ?_
 refine zab zco (zai hA) e0 fun v10 h10=>?_
 refine zad u30 zaS h10 hi fun b12 o12 h12=>?_
 rw [zaG] at h12
 have hnx:zav c i=if (zaj c i).op=9 then [] else if (zaj c i).op=3 then [(zaj c i).to.toNat] else if (zaj c i).op=2∧(zaj c i).to≠(i:Int)+1 then [i+1,(zaj c i).to.toNat] else [i+1]:=rfl
 generalize zaj c i=I at *
 refine zab zaS h12 e0 fun v13 h13=>?_
 refine zce zfE rfl zaS rfl h13 e0 fun w1 hx1 hA5 hV5=>?_
 refine zaa zaH ?_
 refine zac ty3 (zat hA5) (Ext.refl _) fun _=>?_
 refine zaq ?_
 refine br (fun c9=>?_) (fun c9=>?_)
 · rw [hnx,if_pos c9]
   exact ⟨hx1,zip rfl⟩
 rw [if_neg c9] at hnx
 refine zaq ?_
 refine br (fun c3=>?_) (fun c3=>?_)
 · rw [if_pos c3] at hnx
   have ht:=hto (.inr c3)
   refine zaa zbX ?_
   refine zac ty3 (zbj hA5) (Ext.refl _) fun hI=>?_
   refine zbP (x:=I.to) u23 ty3 z3 (by decide) (za7 hI) fun v w2 hx2 hr=>?_
   refine ⟨hx1.trans hx2,?_⟩
   rw [hnx]
   have e:zaM [I.to.toNat]=[I.to]:=by simp [zaM,Int.toNat_of_nonneg ht.1]
   rw [e]
   have:=hx1.size
   exact hr.own.own.mono (by omega)
 rw [if_neg c3] at hnx
 have e1:zaM [i+1]=[((i+1:Nat):Int)]:=by simp [zaM]
 refine zaq ?_
 refine br (fun c2=>?_) (fun c2=>?_)
 · have ht:=hto (.inl c2)
   refine zaa zbX ?_
   refine zac ty3 (zbj hA5) (Ext.refl _) fun hI=>?_
   refine zag (by omega) ?_
   refine zaz ?_
   refine br (fun cn=>?_) (fun cn=>?_)
   · rw [if_pos ⟨c2,by omega⟩] at hnx
     refine zag (by omega) ?_
     refine zaa zbX ?_
     refine zac ty3 (zbj hA5) (Ext.refl _) fun _=>?_
     refine zh2 u23 ty3 zrt (by unfold I64;omega) hI fun v w2 hx2 hr=>?_
     refine ⟨hx1.trans hx2,?_⟩
     have e:zaM [i+1,I.to.toNat]=[((i+1:Nat):Int),I.to]:=by simp [zaM,Int.toNat_of_nonneg ht.1]
     rw [hnx,e]
     have:=hx1.size
     exact hr.mono (by omega)
   rw [if_neg (fun h=>cn (by have:=h.2;omega))] at hnx
   refine zag (by omega) ?_
   refine zbP (x:=((i+1:Nat):Int)) u23 ty3 z3 (by decide) (za7 (by unfold I64;omega)) fun v w2 hx2 hr=>?_
   refine ⟨hx1.trans hx2,?_⟩
   rw [hnx,e1]
   have:=hx1.size
   exact hr.own.own.mono (by omega)
 rw [if_neg (fun h=>c2 h.1)] at hnx
 refine zag (by omega) ?_
 refine zbP (x:=((i+1:Nat):Int)) u23 ty3 z3 (by decide) (za7 (by unfold I64;omega)) fun v w2 hx2 hr=>?_
 refine ⟨hx1.trans hx2,?_⟩
 rw [hnx,e1]
 have:=hx1.size
 exact hr.own.own.mono (by omega)
theorem zgd {w W0:World} {v0:Value} {c:DCode} {i:Nat} (h0:Is W0 v0 c) (e0:Ext W0 w) (hc:CodeR c) (hi:i<c.ins.length) :
   CALL Tryz.prog 179 [v0,.int .i64 (i:Int)] w fun r w'=>Ext w w'∧Own w.heap.size w' r (zaM (zav c i)):=by
 refine F179_call ?_
 unfold F179
 have hil:=hc.f.ins
 have hto:=zkB hc (a:=(i:Int)) (by omega) (by omega)
 simp only [Int.toNat_natCast] at hto
 refine zbq h0 e0 fun w0 hx0 hA=>?_
 refine zaa zaD ?_
 refine zab zco (zai hA) (Ext.refl _) fun v10 h10=>?_
 refine zad u30 zaS h10 hi fun b12 o12 h12=>?_
 rw [zaG] at h12
 have hnx:zav c i=if (zaj c i).op=9 then [] else if (zaj c i).op=3 then [(zaj c i).to.toNat] else if (zaj c i).op=2∧(zaj c i).to≠(i:Int)+1 then [i+1,(zaj c i).to.toNat] else [i+1]:=rfl
 generalize zaj c i=I at *
 refine zab zaS h12 (Ext.refl _) fun v13 h13=>?_
 refine zce zfE rfl zaS rfl h13 (Ext.refl _) fun w1 hx1 hA5 hV5=>?_
 have hs0:=hx0.size
 have hs1:=hx1.size
 have hx01:=hx0.trans hx1
 have e1:zaM [i+1]=[((i+1:Nat):Int)]:=by simp [zaM]
 refine zaa zaH ?_
 refine zac ty3 (zat hA5) (Ext.refl _) fun _=>?_
 refine zaq ?_
 refine br (fun c2=>?_) (fun c2=>?_)
 · have ht:=hto (.inl c2)
   rw [if_neg (by omega),if_neg (by omega)] at hnx
   refine zaa zbX ?_
   refine zac ty3 (zbj hA5) (Ext.refl _) fun hI=>?_
   refine zag (by omega) ?_
   refine zaq ?_
   refine br (fun cn=>?_) (fun cn=>?_)
   · rw [if_neg (fun h=>h.2 (by omega))] at hnx
     refine zag (by omega) ?_
     refine zbP (x:=((i+1:Nat):Int)) u23 ty3 z3 (by decide) (za7 (by unfold I64;omega)) fun v w2 hx2 hr=>?_
     refine ⟨hx01.trans hx2,?_⟩
     rw [hnx,e1]
     exact hr.own.own.mono (by omega)
   rw [if_pos ⟨c2,by omega⟩] at hnx
   refine zag (by omega) ?_
   refine zaa zbX ?_
   refine zac ty3 (zbj hA5) (Ext.refl _) fun _=>?_
   refine zh2 u23 ty3 zrt (by unfold I64;omega) hI fun v w2 hx2 hr=>?_
   refine ⟨hx01.trans hx2,?_⟩
   have e:zaM [i+1,I.to.toNat]=[((i+1:Nat):Int),I.to]:=by simp [zaM,Int.toNat_of_nonneg ht.1]
   rw [hnx,e]
   exact hr.mono (by omega)
 refine zaq ?_
 refine br (fun c3=>?_) (fun c3=>?_)
 · rw [if_neg (by omega),if_pos c3] at hnx
   have ht:=hto (.inr c3)
   refine zaa zbX ?_
   refine zac ty3 (zbj hA5) (Ext.refl _) fun hI=>?_
   refine zbP (x:=I.to) u23 ty3 z3 (by decide) (za7 hI) fun v w2 hx2 hr=>?_
   refine ⟨hx01.trans hx2,?_⟩
   rw [hnx]
   have e:zaM [I.to.toNat]=[I.to]:=by simp [zaM,Int.toNat_of_nonneg ht.1]
   rw [e]
   exact hr.own.own.mono (by omega)
 refine zaq ?_
 refine br (fun c9=>?_) (fun c9=>?_)
 · rw [if_pos c9] at hnx
   rw [hnx]
   refine zba (α:=Int) u23 ty3 fun a w2 hx2 hr=>?_
   have hs2:=hx2.size
   exact ⟨hx01.trans hx2,hr.own.own.mono (by omega)⟩
 rw [if_neg c9,if_neg c3,if_neg (fun h=>c2 h.1)] at hnx
 refine zag (by omega) ?_
 refine zbP (x:=((i+1:Nat):Int)) u23 ty3 z3 (by decide) (za7 (by unfold I64;omega)) fun v w2 hx2 hr=>?_
 refine ⟨hx01.trans hx2,?_⟩
 rw [hnx,e1]
 exact hr.own.own.mono (by omega)
end Go.Proofs.YtifonhplnmpgaaaGreat
namespace Go.Sh
open Rep (rep)
section
variable {P:Program} {w w0 w':World} {α:Type} [Rep α] {lo hi e:Nat} {v:Value} {l:List α}
theorem RowG.flat [Flat α] {F:List Nat} (h:RowG F e w v l):F=[]∨∃ b,F=[b]:=by
 rcases h with ⟨_,_,_,rfl⟩ | ⟨xs,Fi,_,hc,rfl,_⟩
 · exact .inl rfl
 have:=Cells.flat (xs:=xs) hc
 subst this
 rcases hv:v.ownBlock with _ | b
 · exact .inl (by simp)
 exact .inr ⟨b,by simp⟩
theorem Chg.ofI {F:List Nat} (h:Chg F w w') (hF:∀ b∈F,lo≤b∧b<hi):ChgI lo hi w w':=
 ⟨h.os,h.tape,h.output,h.size,fun b hb hx=>h.block b hb fun hm=>by have:=hF b hm;omega⟩
theorem ChgI.ext_left {w1:World} (hx:Ext w w1) (h:ChgI lo hi w1 w'):ChgI lo hi w w':=
 ⟨h.os.trans hx.os,h.tape.trans hx.tape,h.output.trans hx.output,Nat.le_trans hx.size h.size,fun b hb ho=>by rw [h.block b (Nat.lt_of_lt_of_le hb hx.size) ho,hx.block b hb]⟩
theorem zdk [Flat α] {t ty:TypeId} {by_:Nat} {u:Value} {x:α} {lo2 hi2:Nat} {K:Value→World→Prop} (ht:P.underlying t=some (.slice e)) (he:tyI P e=some (Rep.size α,by_,Rep.agg α)) (hz:zbJ P e=true)
   (hzc:(P.info? e).map (fun i=>(i.zero.map (·.cells.size)))=some (some (Rep.size α))) (hsz:Rep.size α≤1000) (hv:RowI lo hi e w v l) (hx:OwnI lo2 hi2 w u x) (hm:l.length+1≤maxLen) (hb:(l.length+1)*by_≤140737488355328)
   (k:∀ v' w' lo' hi',ChgI lo hi w w'→RowI lo' hi' e w' v' (l++[x])→(lo'=lo∧hi'=hi∨lo'=w.heap.size∧hi'=w'.heap.size)→K v' w'):OP P (Instr.buildSlice t 1 #[(0,u)]) w fun s w1=>OP P (Builtin.append_ #[t,t] ty [v,s].toArray) w1 K:=by
 obtain ⟨F,h1,h2,h3⟩:=zgJ.1 hv
 obtain ⟨G,hmx,hG⟩:=hx
 have hGn:G=[]:=by obtain ⟨cs,hr,_⟩:=hmx.own;exact Flat.flat hr
 subst hGn
 refine zgK (K:=fun _=>K) ht he hz hzc hsz h1 h2 hmx (by simp) hm hb (fun w1 v' w' G' hx1 hc hR hN hs=>?_) fun _ _ _ h=>h
 have hcI:=ChgI.ext_left hx1 (hc.ofI h3)
 have hlt:=hR.lt
 rcases hR.flat with rfl | ⟨b,rfl⟩
 · exact k v' w' lo hi hcI (zgJ.2 ⟨[],hR,hN,by simp⟩) (.inl ⟨rfl,rfl⟩)
 rcases hs b (by simp) with h | h | h
 · exact k v' w' lo hi hcI (zgJ.2 ⟨[b],hR,hN,fun c hc=>by simp at hc;subst hc;exact h3 _ h⟩) (.inl ⟨rfl,rfl⟩)
 · cases h
 exact k v' w' w.heap.size w'.heap.size hcI (zgJ.2 ⟨[b],hR,hN,fun c hc=>by simp at hc;subst hc;exact ⟨h,hlt _ (by simp)⟩⟩) (.inr ⟨rfl,rfl⟩)
end
end Go.Sh
namespace Go.Proofs.YtifonhplnmpgaaaGreat
open Go Go.Sh Go.Proofs
open Rep (rep)
def F214 (a0 a1:Value) (w:World) (R:VW):Prop:=
 oP (Instr.box 32 a0) w fun x2 w=>
 rF 32 x2 4 w fun x10=>
 rL 30 x10 w fun x11=>
 rN 30 3 x11 w fun x12=>
 oP (Instr.makeSlice 101 x12 x12) w fun x13 w=>
 oP (Instr.buildSlice 23 1 #[(0,a1)]) w fun x15 w=>
 LOOPI [6,7] [x15,(iV 0)] w fun u4 w next4=>
 rN 23 3 (u4 6) w fun x18=>
 rC (u4 7) x18 w fun x19=>
 BR x19
 ((fun w=>rL 32 x2 w fun x22=>
 rX 23 (u4 6) (u4 7) w fun x25=>
 rL 3 x25 w fun x26=>
 cL 179 [x22,x26] w fun x27 w=>
 LOOPI [6,9] [(u4 6),(iV 0)] w fun u8 w next8=>
 rN 23 3 x27 w fun x30=>
 rC (u8 9) x30 w fun x31=>
 BR x31
 (rX 23 x27 (u8 9) w fun x37=>
 rL 3 x37 w fun x38=>
 rX 101 x13 x38 w fun x39=>
 rL 4 x39 w fun x40=>
 rD (Op.unary .not x40) w fun x41=>
 BR x41
 (rX 23 x27 (u8 9) w fun x45=>
 rL 3 x45 w fun x46=>
 rX 101 x13 x46 w fun x47=>
 oS 4 x47 (Value.bool true) w fun w=>
 rX 23 x27 (u8 9) w fun x51=>
 rL 3 x51 w fun x52=>
 oP (Instr.buildSlice 23 1 #[(0,x52)]) w fun x53 w=>
 oP (Builtin.append_ #[23,23] 23 [(u8 6),x53].toArray) w fun x54 w=>
 rA (u8 9) (iV 1) w fun x33=>
 next8 [x54,x33] w)
 (rA (u8 9) (iV 1) w fun x33=>
 next8 [(u8 6),x33] w))
 (rA (u4 7) (iV 1) w fun x21=>
 next4 [(u8 6),x21] w)) (World.drew1 w))
 (R x13 w)
def cfg214:Cfg:=⟨extL,[],[(4,36028797018899392,[6,7]),(8,36028796750529088,[6,9])],[(6,[0,1,2,3,4,5,6],0)],[],[],[]⟩
theorem F214_call {a0 a1:Value} {w:World} {R:VW} (h:F214 a0 a1 w R):cL 214 [a0,a1] w R:=co (g:=cfg214) Tryz.func214 (by kernel_rfl) (by kernel_rfl) (by kernel_rfl) h
def F78 (a0 a1 a2:Value) (w:World) (R:VW):Prop:=
 oP (Instr.buildSlice 23 1 #[(0,a2)]) w fun x11 w=>
 LOOPI [6] [x11] w fun u1 w next1=>
 rN 23 3 (u1 6) w fun x13=>
 rB .gtr 3 T0 U0 x13 (iV 0) w fun x14=>
 BR x14
 (rN 23 3 (u1 6) w fun x17=>
 rB .sub 3 T0 U0 x17 (iV 1) w fun x18=>
 rX 23 (u1 6) x18 w fun x19=>
 rL 3 x19 w fun x20=>
 rN 23 3 (u1 6) w fun x23=>
 rB .sub 3 T0 U0 x23 (iV 1) w fun x24=>
 rD (Instr.sliceAt 23 (u1 6) none (some x24) none) w fun x25=>
 cL 136 [a0,x20] w fun x28 w=>
 rN 23 3 x28 w fun x29=>
 LOOPI [6,30] [x25,(iV 0)] w fun u5 w next5=>
 rC (u5 30) x29 w fun x31=>
 BR x31
 (rX 23 x28 (u5 30) w fun x32=>
 rL 3 x32 w fun x33=>
 rX 101 a1 x33 w fun x36=>
 rL 4 x36 w fun x37=>
 rD (Op.unary .not x37) w fun x38=>
 BR x38
 (rX 101 a1 x33 w fun x41=>
 oS 4 x41 (Value.bool true) w fun w=>
 oP (Instr.buildSlice 23 1 #[(0,x33)]) w fun x44 w=>
 oP (Builtin.append_ #[23,23] 23 [(u5 6),x44].toArray) w fun x45 w=>
 rA (u5 30) (iV 1) w fun x46=>
 next5 [x45,x46] w)
 (rA (u5 30) (iV 1) w fun x46=>
 next5 [(u5 6),x46] w))
 (next1 [(u5 6)] w))
 (R (Value.tuple #[]) w)
def cfg78:Cfg:=⟨extL,[],[(1,140737488351936,[6]),(5,140736414614080,[6,30])],[],[],[],[]⟩
theorem F78_call {a0 a1 a2:Value} {w:World} {R:VW} (h:F78 a0 a1 a2 w R):cL 78 [a0,a1,a2] w R:=co (g:=cfg78) Tryz.func78 (by kernel_rfl) (by kernel_rfl) (by kernel_rfl) h
section
variable {P:Program} {w w':World}
theorem zds {α:Type} [Rep α] [Flat α] {F:List Nat} {v:Value} {l:List α} (hm:Mine F w v l) (hl:l≠[]):∃ b o cap,v=.slice (some ⟨b,o,none⟩) l.length cap∧F=[b]:=by
 obtain ⟨⟨cs,⟨a,cap,Fi,xs,rfl,h1,h2,hc,h4⟩,rfl⟩,hn,hw⟩:=hm
 rcases h4 with ⟨h4,_⟩ | ⟨b,o,rfl,rfl,hr,hb⟩
 · exact absurd h4 hl
 have hFi:=Cells.flat (xs:=xs) hc
 subst hFi
 exact ⟨b,o,cap,rfl,rfl⟩
theorem zaW {α:Type} [Rep α] [Flat α] (h1:Rep.size α=1) {t by_ m n i:Nat} {l:List α} {y:α} {u:Value} {K:World→Prop} (ht:tyI P t=some (1,by_,Rep.agg α)) (hm:Mine [m] w (.slice (some ⟨m,0,none⟩) n n) l) (hl:l.length=n) (hi:i<n) (hu:Mine [] w u y)
   (k:∀ w',Chg [m] w w'→Mine [m] w' (.slice (some ⟨m,0,none⟩) n n) (l.set i y)→K w'):OPU P (Instr.storeAt t (.pointer (some ⟨m,i*1,none⟩)) u) w K:=by
 obtain ⟨b,a,cap,G,hv,hL⟩:=zqT hm (k:=i) (by omega)
 simp only [Value.slice.injEq,Option.some.injEq,Addr.mk.injEq,and_true] at hv
 obtain ⟨⟨rfl,rfl⟩,_⟩:=hv
 rw [h1,Nat.zero_add] at hL
 refine zeI (y':=y) (by rw [h1];exact ht) hL hu fun w8 F' hc8 hm8 hF8=>?_
 have hF9:F'=[m]:=by
   obtain ⟨b,o,cap,hv,hF2⟩:=zds hm8 (by intro e;have h:=congrArg List.length e;rw [List.length_set,hl] at h;simp only [List.length_nil] at h;omega)
   subst hF2
   have:=hF8 b (by simp)
   simpa using this
 subst hF9
 exact k w8 hc8 hm8
theorem zbk {α:Type} [Rep α] {t e by_ m n i:Nat} {K:Value→Prop} (h1:Rep.size α=1) (ht:P.underlying t=some (.slice e)) (he:tyI P e=some (1,by_,Rep.agg α)) (hi:i<n) (kk:K (.pointer (some ⟨m,i*1,none⟩))) :
   RD P (Instr.indexAt t (.slice (some ⟨m,0,none⟩) n n) (.int .i64 (i:Int))) w K:=zdd ht he hi kk
end
structure WI (w1 w:World) (m n lo hi:Nat) (tv:Value) (L:List Nat) (ms:List Bool):Prop where
 chg:ChgI m (m+1) w1 w
 row:RowI lo hi 3 w tv (zaM L)
 mks:Mine [m] w (.slice (some ⟨m,0,none⟩) n n) ms
 l0:w1.heap.size≤lo
 m1:m<lo
 h2:lo≤hi
 h3:hi≤w.heap.size
section
variable {w1 w w':World} {m n lo hi:Nat} {tv:Value} {L:List Nat} {ms:List Bool}
theorem WI.step (h:WI w1 w m n lo hi tv L ms) (hx:Ext w w'):WI w1 w' m n lo hi tv L ms:=
 ⟨h.chg.trans hx.toI,h.row.ext hx,h.mks.ext hx,h.l0,h.m1,h.h2,Nat.le_trans h.h3 hx.size⟩
theorem WI.push {tv':Value} {x:Nat} {lo' hi':Nat} (h:WI w1 w m n lo hi tv L ms) (hc:ChgI lo hi w w') (hr:RowI lo' hi' 3 w' tv' (zaM L++[(x:Int)])) (hd:lo'=lo∧hi'=hi∨lo'=w.heap.size∧hi'=w'.heap.size) :
   WI w1 w' m n lo' hi' tv' (L++[x]) ms:=by
 have hs:=hc.size
 have h1:=h.l0
 have h2:=h.h2
 have h3:=h.h3
 have h4:=h.chg.size
 have h5:=h.m1
 have hml:=h.mks.lt m (by simp)
 refine ⟨⟨hc.os.trans h.chg.os,hc.tape.trans h.chg.tape,hc.output.trans h.chg.output,Nat.le_trans h4 hs,fun b hb ho=>(hc.block b (Nat.lt_of_lt_of_le hb h4) (by omega)).trans (h.chg.block b hb ho)⟩,by rw [zcc];exact hr,h.mks.keep fun b hb=>?_,by omega,by omega,by omega,by omega⟩
 simp only [List.mem_cons,List.not_mem_nil,or_false] at hb
 subst hb
 exact hc.block b hml (by omega)
theorem WI.mark {ms':List Bool} (h:WI w1 w m n lo hi tv L ms) (hc:Chg [m] w w') (hm:Mine [m] w' (.slice (some ⟨m,0,none⟩) n n) ms'):WI w1 w' m n lo hi tv L ms':=by
 have hc':ChgI m (m+1) w w':=hc.toI fun b hb=>by simp only [List.mem_cons,List.not_mem_nil,or_false] at hb;omega
 have h5:=h.m1
 exact ⟨h.chg.trans hc',h.row.chg hc' (by omega),hm,h.l0,h5,h.h2,Nat.le_trans h.h3 hc'.size⟩
end
theorem zrj:zcQ Tryz.prog 4=some [.bool false]:=by kernel_rfl
theorem ownI_int {w:World} {x:Int} (lo hi:Nat) (h:I64 x):OwnI lo hi w (.int .i64 x) x:=⟨[],za7 h,by simp⟩
theorem zbb {w:World} {b:Bool}:Mine [] w (.bool b) b:=⟨⟨[.bool b],⟨rfl,rfl⟩,rfl⟩,List.nodup_nil,Wr.nil w⟩
theorem zgv {w W0:World} {v0:Value} {c:DCode} {a:Nat} (h0:Is W0 v0 c) (e0:Ext W0 w) (hc:CodeR c) (ha:a<c.ins.length) :
   CALL Tryz.prog 214 [v0,.int .i64 (a:Int)] w fun r w'=>Ext w w'∧∃ m,r=.slice (some ⟨m,0,none⟩) c.ins.length c.ins.length∧w.heap.size≤m∧Mine [m] w' (.slice (some ⟨m,0,none⟩) c.ins.length c.ins.length) (zbE c.ins.length (RP (zav c) a)):=by
 refine F214_call ?_
 unfold F214
 have hil:=hc.f.ins
 have hnl:=fun {i j:Nat}=>zb2 hc (i:=i) (j:=j)
 refine zbq h0 e0 fun w1 hx1 hA=>?_
 refine zaa zaD ?_
 refine zab zco (zai hA) (Ext.refl _) fun v11 h11=>?_
 refine zaf u30 h11 ?_
 generalize hn:c.ins.length=n at *
 refine ziL (α:=Bool) zcm ty4 rfl rfl zrj (by omega) (by omega) fun w2 hx2 hr2=>?_
 have hs1:=hx1.size
 have hs2:=hx2.size
 have hM2:Mine [w1.heap.size] w2 (.slice (some ⟨w1.heap.size,0,none⟩) n n) (List.replicate n (RepZ.zv:Bool)):=by
   obtain ⟨F,hM,hF⟩:=hr2.own
   obtain ⟨b,o,cap,hv,hF2⟩:=zds hM (by intro e;have:=congrArg List.length e;simp at this;omega)
   simp only [Value.slice.injEq,Option.some.injEq,Addr.mk.injEq,List.cons.injEq,and_true] at hv
   obtain ⟨⟨hb,ho⟩,_⟩:=hv
   rw [←hb] at hF2
   rwa [hF2] at hM
 have hzz:(List.replicate n (RepZ.zv:Bool))=List.replicate n false:=rfl
 rw [hzz] at hM2
 refine zbP (x:=(a:Int)) u23 ty3 z3 (by decide) (za7 (by unfold I64;omega)) fun v15 w3 hx3 hr3=>?_
 have hs3:=hx3.size
 generalize hm:w1.heap.size=m at *
 have hW3:WI w1 w3 m n w2.heap.size w3.heap.size v15 [a] (List.replicate n false):=⟨(hx2.trans hx3).toI,hr3,hM2.ext hx3,by omega,by have:=hM2.lt m (by simp);omega,hs3,Nat.le_refl _⟩
 refine zas (1+n) (fun h us w'=>∃ (tv:Value) (lo hi:Nat) (L:List Nat) (ms:List Bool),us=[tv,.int .i64 (h:Int)]∧h≤L.length∧WI w1 w' m n lo hi tv L ms∧SInv (zav c) n a (List.replicate n false) ms (L.drop h) h) 0 (Nat.zero_le _) ⟨v15,_,_,[a],_,rfl,by simp,hW3,SInv.start (by simp) ha⟩ ?_
 rintro h mk u w4 hkm ⟨tv,lo,hi,L,ms,hu,hhL,hW4,hS4⟩
 obtain ⟨hu1,hu2⟩:=zb9 hu
 rw [hu1,hu2]
 have hb4:=hS4.bound
 rw [List.length_drop] at hb4
 refine zaf u23 hW4.row.is ?_
 rw [zae]
 refine zah ?_
 refine br (fun hlt=>?_) (fun hge=>?_)
 case refine_2=>
   have hhe:h=L.length:=by omega
   rw [hhe,List.drop_length] at hS4
   have hfin:=hS4.fin fun i hi=>absurd hi zbl
   have hms:ms=zbE n (RP (zav c) a):=zbQ hS4.len fun i hi=>by
     rw [hfin i]
     exact ⟨fun h=>h.resolve_left zbl,.inr⟩
   rw [←hms]
   have hx4:Ext w1 w4:=(Ext.refl w1).chgI hW4.chg (by omega)
   exact ⟨hx1.trans hx4,m,rfl,by omega,hW4.mks⟩
 have hh:h<L.length:=by omega
 have hx5:=zan w4
 have hW5:=hW4.step hx5
 generalize World.drew1 w4=w5 at *
 have hxa:∀ {w:World} {lo hi tv L ms},WI w1 w m n lo hi tv L ms→Ext w1 w:=fun h=>(Ext.refl w1).chgI h.chg (by omega)
 refine zab zbu hA (hxa hW5) fun v22 h22=>?_
 refine zad u23 ty3 (i:=h) hW5.row.is (by rw [zae];exact hh) fun b1 o1 hA1=>?_
 rw [zaK] at hA1
 refine zac ty3 hA1 (Ext.refl _) fun _=>?_
 generalize hx:L[h]=x at *
 have hdr:L.drop h=x :: L.drop (h+1):=by rw [List.drop_eq_getElem_cons hh,hx]
 have hxn:x<n:=(hS4.tdo x (by rw [hdr];simp)).2
 refine (zgd h22 (hxa hW5) hc (by rw [hn];exact hxn)).mono ?_
 rintro v27 w6 ⟨hx6,ho6⟩
 have hW6:=hW5.step hx6
 have hI6:=hW5.h3
 have hm6:=hW5.mks.lt m (by simp)
 have hS6:SIn2 (zav c) n a (List.replicate n false) ms (L.drop (h+1)) h x 0:=hS4.pop (fun i=>by rw [hdr];simp [or_comm]) (by rw [hdr];simp)
 have hl2:=zdP c x
 refine zas (zav c x).length (fun q us w'=>∃ (tv:Value) (lo hi:Nat) (L:List Nat) (ms:List Bool),us=[tv,.int .i64 (q:Int)]∧q≤(zav c x).length∧h<L.length∧WI w1 w' m n lo hi tv L ms∧SIn2 (zav c) n a (List.replicate n false) ms (L.drop (h+1)) h x q∧OwnI w5.heap.size w6.heap.size w' v27 (zaM (zav c x))∧(hi≤w5.heap.size∨w6.heap.size≤lo)∧w6.heap.size≤w'.heap.size) 0 (Nat.zero_le _) ⟨tv,lo,hi,L,ms,rfl,Nat.zero_le _,hh,hW6,hS6,ho6.toI,.inl hI6,Nat.le_refl _⟩ ?_
 rintro q mk8 u8 w7 hkm8 ⟨tv7,lo7,hi7,L7,ms7,hu8,hql,hh7,hW7,hS7,ho7,hd7,hz7⟩
 obtain ⟨hu81,hu82⟩:=zb9 hu8
 rw [hu81,hu82]
 refine zaf u23 ho7.is ?_
 rw [zae]
 refine zah ?_
 refine br (fun hlt8=>?_) (fun hge8=>?_)
 case refine_2=>
   refine zag (by omega) ?_
   exact ⟨mk-1,by omega,h+1,by omega,tv7,lo7,hi7,L7,ms7,rfl,by omega,hW7,hS7.done (by omega)⟩
 have hq:q<(zav c x).length:=by omega
 have hrd:∀ {w:World} {K:Value→Prop} (ho:OwnI w5.heap.size w6.heap.size w v27 (zaM (zav c x))) (k:K (.int .i64 (((zav c x)[q]:Nat):Int))),RD Tryz.prog (Instr.indexAt 23 v27 (.int .i64 (q:Int))) w fun x37=>RD Tryz.prog (Instr.loadAt 3 x37) w K:=fun ho k=>by
   refine zad u23 ty3 (i:=q) ho.is (by rw [zae];exact hq) fun b1 o1 hA1=>?_
   rw [zaK] at hA1
   exact zac ty3 hA1 (Ext.refl _) fun _=>k
 have hy:=hnl hxn (List.getElem_mem hq)
 refine hrd ho7 ?_
 have hlen7:=hS7.len
 refine zad zcm ty4 hW7.mks.is (by rw [hlen7];exact hy.1) fun b2 o2 hA2=>?_
 refine zax ty4 hA2 (Ext.refl _) ?_
 refine za0 ?_
 have hmk7:=zaL (ms:=ms7) (i:=(zav c x)[q]) (by rw [hlen7];exact hy.1)
 refine zbI (fun hf=>?_) (fun hf=>?_)
 · have hnm:¬mkd ms7 (zav c x)[q]:=by rw [hmk7];simpa using hf
   refine hrd ho7 ?_
   refine zbk (α:=Bool) rfl zcm ty4 hy.1 ?_
   refine zaW (α:=Bool) rfl ty4 hW7.mks hlen7 hy.1 zbb fun w8 hc8 hm8=>?_
   have hW8:=hW7.mark hc8 hm8
   have hc8':ChgI m (m+1) w7 w8:=hc8.toI fun b hb=>by simp only [List.mem_cons,List.not_mem_nil,or_false] at hb;omega
   have ho8:=ho7.chg hc8' (by omega)
   refine hrd ho8 ?_
   have hS8:=hS7.push hq hy.1 hnm
   generalize (zav c x)[q]=y at *
   have hLb:L7.length≤2+n:=by
     have h1:=hS7.cnt
     have h2:=zeJ ms7
     rw [List.length_drop] at h1
     omega
   refine zdk (x:=(y:Int)) u23 ty3 z3 zc3 (by decide) hW8.row (ownI_int 0 0 (by unfold I64;omega)) (by rw [zao,zae];omega) (by rw [zae];omega) fun v54 w9 lo9 hi9 hc9 hr9 hd9=>?_
   have hW9:=hW8.push hc9 hr9 hd9
   have hsz8:=hc8'.size
   have hsz7:=ho7.is
   refine zag (by omega) ?_
   refine ⟨mk8-1,by omega,q+1,by omega,v54,lo9,hi9,L7++[y],_,rfl,by omega,by simp;omega,hW9,?_,ho8.chg hc9 (by omega),by omega,by have:=hc9.size;omega⟩
   rw [List.drop_append_of_le_length (by omega)]
   exact hS8
 have hnm:mkd ms7 (zav c x)[q]:=by rw [hmk7];simpa using hf
 refine zag (by omega) ?_
 exact ⟨mk8-1,by omega,q+1,by omega,tv7,lo7,hi7,L7,ms7,rfl,by omega,hh7,hW7,hS7.skip hq hnm,ho7,hd7,hz7⟩
section
variable {P:Program} {w:World} {α:Type} [Rep α] [Flat α] {lo hi e:Nat} {v:Value} {l:List α}
theorem zp7 {t e b o n cap k by_:Nat} {K:Value→Prop} (ht:P.underlying t=some (.slice e)) (he:tyI P e=some (Rep.size α,by_,Rep.agg α)) (hk:k≤n) (hn:n≤cap) (kk:K (.slice (some ⟨b,o,none⟩) k cap)) :
   RD P (Instr.sliceAt t (.slice (some ⟨b,o,none⟩) n cap) none (some (.int .i64 (k:Int))) none) w K:=by
 refine za4 (fun w' _=>?_) kk
 have hbd:(Instr.sliceBounds true n cap none (some (.int .i64 (k:Int))) none).run P w'=.ok (0,k,cap) w':=by
   have h5:(k:Int)≤(cap:Int):=by omega
   simp [Instr.sliceBounds,Instr.sliceBound,asIntOf,h5]
   intro h6
   omega
 simp only [Instr.sliceAt,Instr.slice,Sem.run_bind,run_underlying ht,Result.andThen_ok,hbd,zaO he]
 simp [Addr.add_mid]
theorem zoP (h:RowI lo hi e w v l) (hl:l≠[]) {k:Nat} (hk:k≤l.length):∃ g cap,v=.slice (some ⟨g,0,none⟩) l.length cap∧l.length≤cap∧RowI lo hi e w (.slice (some ⟨g,0,none⟩) k cap) (l.take k):=by
 rcases h with ⟨a,_,h⟩ | ⟨F,⟨xs,Fi,⟨hlen,ho⟩,hc,hF,hw⟩,hn,hb⟩
 · exact absurd h hl
 rcases ho with ⟨_,h0⟩ | ⟨g,cap,cur,rfl,_,hg,h1,h2,h3,h4⟩
 · exact absurd (List.eq_nil_of_length_eq_zero h0) hl
 refine ⟨g,cap,rfl,h1,.inr ⟨F,⟨xs.take (k*Rep.size α),[],⟨?_,.inr ⟨g,cap,cur,?_,Nat.zero_le _,hg,by rw [List.length_take];omega,h2,h3,?_⟩⟩,?_,?_,Wr.nil w⟩,hn,hb⟩⟩
 · rw [List.length_take,List.length_take,hlen,Nat.min_eq_left hk]
   exact Nat.min_eq_left (Nat.mul_le_mul_right _ hk)
 · rw [List.length_take,Nat.min_eq_left hk]
 · rw [List.length_take,Nat.min_eq_left hk,←h4,List.take_take,Nat.min_eq_left (Nat.mul_le_mul_right _ hk)]
 · have e1:l=l.take k++l.drop k:=by simp
   have hFi:=Cells.flat (xs:=xs) hc
   subst hFi
   rw [e1] at hc
   obtain ⟨F1,F2,x1,x2,hF12,hx12,c1,c2⟩:=Cells.split hc
   have hF1:=Cells.flat (xs:=x1) c1
   subst hF1
   have hl1:=Cells.len c1
   rw [List.length_take,Nat.min_eq_left hk] at hl1
   rw [hx12,List.take_left' hl1]
   exact c1
 have hFi:=Cells.flat (xs:=xs) hc
 subst hFi
 rw [hF];rfl
end
theorem zkC {w W0:World} {v0:Value} {c:DCode} {a:Nat} (h0:Is W0 v0 c) (e0:Ext W0 w) (hc:CodeR c) (ha:a<c.ins.length) :
   CALL Tryz.prog 214 [v0,.int .i64 (a:Int)] w fun r w'=>Ext w w'∧Own w.heap.size w' r (zbE c.ins.length (RP (zav c) a)):=
 (zgv h0 e0 hc ha).mono fun r w' ⟨hx,m,hr,hm,hM⟩=>⟨hx,[m],by rw [hr];exact hM,fun b hb=>by simp only [List.mem_cons,List.not_mem_nil,or_false] at hb;omega⟩
def KAt (W0 w:World) (b:Nat) (c:DCode):Prop:=∃ F cs,Rep.rep F W0 cs c∧w.rangeAt b 0 cs∧b<w.heap.size
theorem KAt.at {W0 w:World} {b:Nat} {c:DCode} (h:KAt W0 w b c) (hx:Ext W0 w):At w b 0 c:=by
 obtain ⟨F,cs,hr,hc,_⟩:=h
 exact ⟨F,cs,zb4 hr hx,hc⟩
theorem KAt.keep {W0 w w':World} {b:Nat} {c:DCode} (h:KAt W0 w b c) (hb:w'.heap[b]?=w.heap[b]?) (hs:w.heap.size≤w'.heap.size):KAt W0 w' b c:=by
 obtain ⟨F,cs,hr,hc,hl⟩:=h
 exact ⟨F,cs,hr,zcd hc hb,by omega⟩
theorem KAt.lt {W0 w:World} {b:Nat} {c:DCode} (h:KAt W0 w b c):b<w.heap.size:=by obtain ⟨_,_,_,_,h⟩:=h;exact h
theorem zjR {w W0:World} {b m n a:Nat} {c:DCode} {ms0:List Bool} (hk:KAt W0 w b c) (e0:Ext W0 w) (hc:CodeR c) (hn:c.ins.length=n) (ha:a<n) (hM:Mine [m] w (.slice (some ⟨m,0,none⟩) n n) ms0) (hl:ms0.length=n) (h0:W0.heap.size≤m) (hb:b≠m)
   (hclo:∀ i,mkd ms0 i→i≠a→∀ j∈zav c i,mkd ms0 j) :
   CALL Tryz.prog 78 [.pointer (some ⟨b,0,none⟩),.slice (some ⟨m,0,none⟩) n n,.int .i64 (a:Int)] w fun r w'=>r=.tuple #[]∧ChgI m (m+1) w w'∧Mine [m] w' (.slice (some ⟨m,0,none⟩) n n) (zbE n fun i=>mkd ms0 i∨RP (zav c) a i):=by
 refine F78_call ?_
 unfold F78
 have hil:=hc.f.ins
 have hnl:=fun {i j:Nat}=>zb2 hc (i:=i) (j:=j)
 rw [hn] at hnl hil
 refine zbP (x:=(a:Int)) u23 ty3 z3 (by decide) (za7 (by unfold I64;omega)) fun v11 w1 hx1 hr1=>?_
 have hW1:WI w w1 m n w.heap.size w1.heap.size v11 [a] ms0:=⟨hx1.toI,hr1,hM.ext hx1,Nat.le_refl _,hM.lt m (by simp),hx1.size,Nat.le_refl _⟩
 have hKA:∀ {w':World} {lo hi tv L ms},WI w w' m n lo hi tv L ms→At w' b 0 c:=fun h=>(hk.keep (h.chg.block b hk.lt (by omega)) h.chg.size).at (e0.chgI h.chg h0)
 refine zas (1+n) (fun h us w'=>∃ (tv:Value) (lo hi:Nat) (L:List Nat) (ms:List Bool),us=[tv]∧WI w w' m n lo hi tv L ms∧SInv (zav c) n a ms0 ms L h) 0 (Nat.zero_le _) ⟨v11,_,_,[a],_,rfl,hW1,SInv.start hl ha⟩ ?_
 rintro h mk u w4 hkm ⟨tv,lo,hi,L,ms,hu,hW4,hS4⟩
 simp only [List.map_cons,List.map_nil,List.cons.injEq,and_true] at hu
 rw [hu]
 have hb4:=hS4.bound
 refine zaf u23 hW4.row.is ?_
 rw [zae]
 refine zdI ?_
 refine br (fun hlt=>?_) (fun hge=>?_)
 case refine_2=>
   have hL0:L=[]:=List.eq_nil_of_length_eq_zero (by omega)
   rw [hL0] at hS4
   have hfin:=hS4.fin hclo
   have hms:ms=zbE n (fun i=>mkd ms0 i∨RP (zav c) a i):=zbQ hS4.len fun i hi=>hfin i
   rw [←hms]
   exact ⟨rfl,hW4.chg,hW4.mks⟩
 obtain ⟨z,hz⟩:∃ z,L.length=z+1:=⟨L.length-1,by omega⟩
 have hzl:z<L.length:=by omega
 have hne:zaM L≠[]:=fun e=>by have:=congrArg List.length e;rw [zae,hz] at this;cases this
 refine zaf u23 hW4.row.is ?_
 rw [zae]
 refine zbC (by unfold I64;omega) ?_
 have ez:(L.length:Int)-1=(z:Int):=by omega
 rw [ez]
 refine zad u23 ty3 (i:=z) hW4.row.is (by rw [zae];exact hzl) fun b1 o1 hA1=>?_
 rw [zaK] at hA1
 refine zac ty3 hA1 (Ext.refl _) fun _=>?_
 generalize hx:L[z]=x at *
 refine zaf u23 hW4.row.is ?_
 rw [zae]
 refine zbC (by unfold I64;omega) ?_
 rw [ez]
 obtain ⟨g,cap,hv4,hcap,hr4⟩:=zoP hW4.row hne (k:=z) (by rw [zae];omega)
 rw [zae] at hv4 hcap
 rw [hv4]
 refine zp7 (α:=Int) u23 ty3 (by omega) hcap ?_
 have hLz:L=L.take z++[x]:=by
   have:=List.take_succ_eq_append_getElem hzl
   rw [←hz,List.take_length,hx] at this
   exact this
 rw [←zns] at hr4
 have hW5:WI w w4 m n lo hi (.slice (some ⟨g,0,none⟩) z cap) (L.take z) ms:=⟨hW4.chg,hr4,hW4.mks,hW4.l0,hW4.m1,hW4.h2,hW4.h3⟩
 have hxn:x<n:=(hS4.tdo x (by rw [hLz];simp)).2
 refine (zhp (hKA hW5) (Ext.refl _) hc (by rw [hn];exact hxn)).mono ?_
 rintro v27 w6 ⟨hx6,ho6⟩
 have hW6:=hW5.step hx6
 have hI6:=hW5.h3
 have hm6:=hW5.mks.lt m (by simp)
 have hLm:∀ i,i∈L↔i∈L.take z∨i=x:=fun i=>by
   have:i∈L↔i∈L.take z++[x]:=by rw [←hLz]
   rw [this];simp
 have hS6:SIn2 (zav c) n a ms0 ms (L.take z) h x 0:=hS4.pop hLm (by rw [List.length_take];omega)
 have hl2:=zdP c x
 refine zaf u23 ho6.is ?_
 rw [zae]
 refine zas (zav c x).length (fun q us w'=>∃ (tv:Value) (lo hi:Nat) (L:List Nat) (ms:List Bool),us=[tv,.int .i64 (q:Int)]∧q≤(zav c x).length∧WI w w' m n lo hi tv L ms∧SIn2 (zav c) n a ms0 ms L h x q∧OwnI w4.heap.size w6.heap.size w' v27 (zaM (zav c x))∧(hi≤w4.heap.size∨w6.heap.size≤lo)∧w6.heap.size≤w'.heap.size) 0 (Nat.zero_le _) ⟨_,lo,hi,_,ms,rfl,Nat.zero_le _,hW6,hS6,ho6.toI,.inl hI6,Nat.le_refl _⟩ ?_
 rintro q mk8 u8 w7 hkm8 ⟨tv7,lo7,hi7,L7,ms7,hu8,hql,hW7,hS7,ho7,hd7,hz7⟩
 obtain ⟨hu81,hu82⟩:=zb9 hu8
 rw [hu81,hu82]
 refine zah ?_
 refine br (fun hlt8=>?_) (fun hge8=>?_)
 case refine_2=>
   exact ⟨mk-1,by omega,h+1,by omega,tv7,lo7,hi7,L7,ms7,rfl,hW7,hS7.done (by omega)⟩
 have hq:q<(zav c x).length:=by omega
 have hy:=hnl hxn (List.getElem_mem hq)
 refine zad u23 ty3 (i:=q) ho7.is (by rw [zae];exact hq) fun b3 o3 hA3=>?_
 rw [zaK] at hA3
 refine zac ty3 hA3 (Ext.refl _) fun _=>?_
 have hlen7:=hS7.len
 refine zad zcm ty4 hW7.mks.is (by rw [hlen7];exact hy.1) fun b2 o2 hA2=>?_
 refine zax ty4 hA2 (Ext.refl _) ?_
 refine za0 ?_
 have hmk7:=zaL (ms:=ms7) (i:=(zav c x)[q]) (by rw [hlen7];exact hy.1)
 refine zbI (fun hf=>?_) (fun hf=>?_)
 · have hnm:¬mkd ms7 (zav c x)[q]:=by rw [hmk7];simpa using hf
   refine zbk (α:=Bool) rfl zcm ty4 hy.1 ?_
   refine zaW (α:=Bool) rfl ty4 hW7.mks hlen7 hy.1 zbb fun w8 hc8 hm8=>?_
   have hW8:=hW7.mark hc8 hm8
   have hc8':ChgI m (m+1) w7 w8:=hc8.toI fun b hb=>by simp only [List.mem_cons,List.not_mem_nil,or_false] at hb;omega
   have ho8:=ho7.chg hc8' (by omega)
   have hS8:=hS7.push hq hy.1 hnm
   generalize (zav c x)[q]=y at *
   have hLb:L7.length≤2+n:=by
     have h1:=hS7.cnt
     have h2:=zeJ ms7
     omega
   refine zdk (x:=(y:Int)) u23 ty3 z3 zc3 (by decide) hW8.row (ownI_int 0 0 (by unfold I64;omega)) (by rw [zao,zae];omega) (by rw [zae];omega) fun v54 w9 lo9 hi9 hc9 hr9 hd9=>?_
   have hW9:=hW8.push hc9 hr9 hd9
   have hsz8:=hc8'.size
   refine zag (by omega) ?_
   exact ⟨mk8-1,by omega,q+1,by omega,v54,lo9,hi9,L7++[y],_,rfl,by omega,hW9,hS8,ho8.chg hc9 (by omega),by omega,by have:=hc9.size;omega⟩
 have hnm:mkd ms7 (zav c x)[q]:=by rw [hmk7];simpa using hf
 refine zag (by omega) ?_
 exact ⟨mk8-1,by omega,q+1,by omega,tv7,lo7,hi7,L7,ms7,rfl,by omega,hW7,hS7.skip hq hnm,ho7,hd7,hz7⟩
def F176 (a0:Value) (w:World) (R:VW):Prop:=
 oP (Instr.buildSlice 23 0 #[]) w fun x5 w=>
 LOOPI [3,4] [x5,(iV 0)] w fun u3 w next3=>
 rN 101 3 a0 w fun x8=>
 rC (u3 4) x8 w fun x9=>
 BR x9
 (rX 101 a0 (u3 4) w fun x14=>
 rL 4 x14 w fun x15=>
 BR x15
 (oP (Instr.buildSlice 23 1 #[(0,(u3 4))]) w fun x18 w=>
 oP (Builtin.append_ #[23,23] 23 [(u3 3),x18].toArray) w fun x19 w=>
 rA (u3 4) (iV 1) w fun x11=>
 next3 [x19,x11] w)
 (rA (u3 4) (iV 1) w fun x11=>
 next3 [(u3 3),x11] w))
 (R (u3 3) w)
def cfg176:Cfg:=⟨extL,[],[(3,1048536,[3,4])],[],[],[],[]⟩
theorem F176_call {a0:Value} {w:World} {R:VW} (h:F176 a0 w R):cL 176 [a0] w R:=co (g:=cfg176) Tryz.func176 (by kernel_rfl) (by kernel_rfl) (by kernel_rfl) h
def F234 (a0 a1:Value) (w:World) (R:VW):Prop:=
 oP (Instr.box 32 a0) w fun x2 w=>
 (fun w=>rL 32 x2 w fun x6=>
 rF 32 x2 3 w fun x7=>
 rL 23 x7 w fun x8=>
 rX 23 x8 a1 w fun x10=>
 rL 3 x10 w fun x11=>
 cL 214 [x6,x11] w fun x12 w=>
 rF 32 x2 3 w fun x14=>
 rL 23 x14 w fun x15=>
 rX 23 x15 a1 w fun x17=>
 rL 3 x17 w fun x18=>
 rX 101 x12 x18 w fun x19=>
 oS 4 x19 (Value.bool true) w fun w=>
 R x12 w) (World.drew1 w)
def cfg234:Cfg:=⟨extL,[],[],[(1,[0,1,2,3,4,5,6,7],0)],[],[],[]⟩
theorem F234_call {a0 a1:Value} {w:World} {R:VW} (h:F234 a0 a1 w R):cL 234 [a0,a1] w R:=co (g:=cfg234) Tryz.func234 (by kernel_rfl) (by kernel_rfl) (by kernel_rfl) h
def F212 (a0 a1 a2:Value) (w:World) (R:VW):Prop:=
 oP (Instr.box 32 a0) w fun x3 w=>
 rL 32 x3 w fun x10=>
 cL 234 [x10,a1] w fun x12 w=>
 rF 32 x3 2 w fun x13=>
 rL 22 x13 w fun x14=>
 rN 22 3 x14 w fun x15=>
 oP (Instr.makeSlice 101 x15 x15) w fun x16 w=>
 LOOPI [9] [(iV 0)] w fun u4 w next4=>
 rF 32 x3 4 w fun x18=>
 rL 30 x18 w fun x19=>
 rN 30 3 x19 w fun x20=>
 rC (u4 9) x20 w fun x21=>
 BR x21
 (rX 101 x12 (u4 9) w fun x26=>
 rL 4 x26 w fun x27=>
 BR x27
 (rF 32 x3 4 w fun x29=>
 rL 30 x29 w fun x30=>
 rX 30 x30 (u4 9) w fun x32=>
 rF 111 x32 0 w fun x33=>
 rL 3 x33 w fun x34=>
 rB .eql 3 T0 T0 x34 a2 w fun x36=>
 BR x36
 (rF 32 x3 4 w fun x39=>
 rL 30 x39 w fun x40=>
 rX 30 x40 (u4 9) w fun x42=>
 rF 111 x42 1 w fun x43=>
 rL 3 x43 w fun x44=>
 rX 101 x16 x44 w fun x45=>
 oS 4 x45 (Value.bool true) w fun w=>
 rA (u4 9) (iV 1) w fun x23=>
 next4 [x23] w)
 (rA (u4 9) (iV 1) w fun x23=>
 next4 [x23] w))
 (rA (u4 9) (iV 1) w fun x23=>
 next4 [x23] w))
 (cL 176 [x16] w fun x47 w=>
 R x47 w)
def cfg212:Cfg:=⟨extL,[],[(4,70368744047104,[9])],[],[],[],[]⟩
theorem F212_call {a0 a1 a2:Value} {w:World} {R:VW} (h:F212 a0 a1 a2 w R):cL 212 [a0,a1,a2] w R:=co (g:=cfg212) Tryz.func212 (by kernel_rfl) (by kernel_rfl) (by kernel_rfl) h
def zoQ (ms:List Bool) (n:Nat):List Nat:=(List.range n).filter fun i=>ms.getD i false
theorem zfQ (ms:List Bool) (n:Nat):zoQ ms (n+1)=zoQ ms n++(if ms.getD n false then [n] else []):=by
 simp only [zoQ,List.range_succ,List.filter_append,List.filter_cons,List.filter_nil]
theorem zly (ms:List Bool) (n:Nat):(zoQ ms n).length≤n:=Nat.le_trans (List.length_filter_le _ _) (by simp)
theorem zeK (n:Nat) (p:Nat→Prop):zoQ (zbE n p) n=zbd n p:=by
 refine List.filter_congr fun i hi=>?_
 have hi':=List.mem_range.1 hi
 have:=zaI (n:=n) (p:=p) (i:=i)
 unfold mkd at this
 by_cases h:p i
 · rw [this.2 ⟨hi',h⟩];simp [h]
 have h2:(zbE n p).getD i false≠true:=fun e=>h (this.1 e).2
 simp only [h,decide_false]
 cases hh:(zbE n p).getD i false
 · rfl
 exact absurd hh h2
theorem zdt {w W0:World} {v0:Value} {ms:List Bool} (h0:Is W0 v0 ms) (e0:Ext W0 w) (hn:ms.length≤1000000) :
   CALL Tryz.prog 176 [v0] w fun r w'=>Ext w w'∧Own w.heap.size w' r (zaM (zoQ ms ms.length)):=by
 refine F176_call ?_
 unfold F176
 refine zba (α:=Int) u23 ty3 fun a w1 hx1 hr1=>?_
 have hs1:=hx1.size
 refine zas ms.length (fun k us w'=>∃ (v:Value),us=[v,.int .i64 (k:Int)]∧k≤ms.length∧Ext w w'∧RowI w.heap.size w'.heap.size 3 w' v (zaM (zoQ ms k))) 0 (Nat.zero_le _) ⟨_,rfl,Nat.zero_le _,hx1,hr1.mono hs1 (Nat.le_refl _)⟩ ?_
 rintro k mk u w2 hkm ⟨v,hu,hkl,hx2,hr2⟩
 obtain ⟨hu1,hu2⟩:=zb9 hu
 rw [hu1,hu2]
 refine zaf zcm h0 ?_
 refine zah ?_
 refine br (fun hlt=>?_) (fun hge=>?_)
 case refine_2=>
   have:k=ms.length:=by omega
   rw [this] at hr2
   exact ⟨hx2,hr2.own.own⟩
 have hk:k<ms.length:=by omega
 have hs2:=hx2.size
 have hg:ms.getD k false=ms[k]:=by rw [List.getD_eq_getElem?_getD,List.getElem?_eq_getElem hk];rfl
 have hil:=zly ms k
 refine zad zcm ty4 h0 hk fun b2 o2 hA2=>?_
 refine zax ty4 hA2 (e0.trans hx2) ?_
 refine zbI (fun hf=>?_) (fun hf=>?_)
 · refine zcb (lo2:=w2.heap.size) (hi2:=w2.heap.size) (x:=(k:Int)) u23 ty3 z3 zc3 (by decide) hr2 hs2 (ownI_int _ _ (by unfold I64;omega)) (Nat.le_refl _) hs2 (by rw [zao,zae];omega) (by rw [zae];omega) fun v54 w9 hc9 hr9=>?_
   refine zag (by omega) ?_
   refine ⟨mk-1,by omega,k+1,by omega,v54,rfl,by omega,hx2.chgI hc9 (Nat.le_refl _),?_⟩
   rw [zfQ,hg,hf,if_pos rfl,zcc]
   exact hr9
 refine zag (by omega) ?_
 refine ⟨mk-1,by omega,k+1,by omega,v,rfl,by omega,hx2,?_⟩
 rw [zfQ,hg,hf]
 simpa using hr2
def zay (c:DCode) (p:Nat) (i:Nat):Prop:=i=(en c p).toNat∨RP (zav c) (en c p).toNat i
theorem zdQ {w W0:World} {v0:Value} {c:DCode} {p:Nat} (h0:Is W0 v0 c) (e0:Ext W0 w) (hc:CodeR c) (hp:p<c.entry.length) :
   CALL Tryz.prog 234 [v0,.int .i64 (p:Int)] w fun r w'=>Ext w w'∧Own w.heap.size w' r (zbE c.ins.length (zay c p)):=by
 refine F234_call ?_
 unfold F234
 have hen:=znr hc hp
 refine zbq h0 e0 fun w1 hx1 hA=>?_
 have hx2:=zan w1
 generalize World.drew1 w1=w2 at *
 have hs1:=hx1.size
 have hs2:=hx2.size
 obtain ⟨a,hae⟩:∃ a:Nat,en c p=(a:Int):=⟨(en c p).toNat,by omega⟩
 have hla:zay c p=fun i=>i=a∨RP (zav c) a i:=by
   funext i;unfold zay;rw [hae];rfl
 have ha:a<c.ins.length:=by omega
 rw [hla]
 refine zab zbu hA hx2 fun v6 h6=>?_
 refine zaa zaT ?_
 refine zab zb6 (zam hA) hx2 fun v8 h8=>?_
 refine zad u23 ty3 h8 hp fun b1 o1 hA1=>?_
 rw [za8 hp,hae] at hA1
 refine zac ty3 hA1 hx2 fun _=>?_
 refine (zgv h6 hx2 hc ha).mono ?_
 rintro _ w3 ⟨hx3,m,rfl,hm,hM⟩
 have hs3:=hx3.size
 refine zaa zaT ?_
 refine zab zb6 (zam hA) (hx2.trans hx3) fun v15 h15=>?_
 refine zad u23 ty3 h15 hp fun b2 o2 hA2=>?_
 rw [za8 hp,hae] at hA2
 refine zac ty3 hA2 (hx2.trans hx3) fun _=>?_
 refine zbk (α:=Bool) rfl zcm ty4 ha ?_
 refine zaW (α:=Bool) rfl ty4 hM zak ha zbb fun w4 hc4 hm4=>?_
 have hset:(zbE c.ins.length (RP (zav c) a)).set a true=zbE c.ins.length (fun i=>i=a∨RP (zav c) a i):=zbQ (by rw [List.length_set,zak]) fun i hi=>by
   rw [zbY (by rw [zak];exact ha),zaI]
   constructor
   · rintro (⟨_,h⟩ | h)
     · exact .inr h
     exact .inl h
   rintro (h | h)
   · exact .inr h
   exact .inl ⟨hi,h⟩
 rw [hset] at hm4
 have hc4':ChgI m (m+1) w3 w4:=hc4.toI fun b hb=>by simp only [List.mem_cons,List.not_mem_nil,or_false] at hb;omega
 exact ⟨((hx1.trans hx2).trans hx3).chgI hc4' (by omega),[m],hm4,fun b hb=>by simp only [List.mem_cons,List.not_mem_nil,or_false] at hb;omega⟩
theorem zc2 {w:World} {n:Nat} {K:Value→World→Prop} (h0:0<n) (hn:n≤1000000)
   (k:∀ w',Ext w w'→Mine [w.heap.size] w' (.slice (some ⟨w.heap.size,0,none⟩) n n) (List.replicate n false)→K (.slice (some ⟨w.heap.size,0,none⟩) n n) w'):OP Tryz.prog (Instr.makeSlice 101 (.int .i64 (n:Int)) (.int .i64 (n:Int))) w K:=
 ziL (α:=Bool) zcm ty4 rfl rfl zrj (by omega) (by omega) fun w2 hx2 hr2=>by
   refine k w2 hx2 ?_
   obtain ⟨F,hM,hF⟩:=hr2.own
   obtain ⟨b,o,cap,hv,hF2⟩:=zds hM (by intro e;have:=congrArg List.length e;simp at this;omega)
   simp only [Value.slice.injEq,Option.some.injEq,Addr.mk.injEq,List.cons.injEq,and_true] at hv
   obtain ⟨⟨hb,ho⟩,_⟩:=hv
   rw [←hb] at hF2
   rw [hF2] at hM
   exact hM
theorem zcC (n:Nat) {p:Nat→Prop} (h:∀ i,¬p i):List.replicate n false=zbE n p:=
 zbQ (by simp) fun i _=>⟨fun h=>absurd h zbl,fun hp=>absurd hp (h i)⟩
theorem zlz {n q:Nat} {p p':Nat→Prop} (hq:q<n) (h:∀ i,p' i↔p i∨i=q):(zbE n p).set q true=zbE n p':=
 zbQ (by rw [List.length_set,zak]) fun i hi=>by
   rw [zbY (by rw [zak];exact hq),zaI,h]
   exact ⟨fun h=>h.imp (·.2) id,fun h=>h.imp (fun h=>⟨hi,h⟩) id⟩
def zgM (c:DCode) (p:Nat) (op:Int) (q:Nat):Prop:=∃ i,i<c.ins.length∧zay c p i∧(zaj c i).op=op∧(zaj c i).arg=(q:Int)
theorem zhq {w W0:World} {v0:Value} {c:DCode} {p:Nat} {op:Int} (h0:Is W0 v0 c) (e0:Ext W0 w) (hc:CodeR c) (hp:p<c.entry.length) (hop:op=4∨op=5) :
   CALL Tryz.prog 212 [v0,.int .i64 (p:Int),.int .i64 op] w fun r w'=>Ext w w'∧Own w.heap.size w' r (zaM (zbd c.procs.length (zgM c p op))):=by
 refine F212_call ?_
 unfold F212
 have hil:=hc.f.ins
 have h8:=hc.1.procs8
 refine zbq h0 e0 fun w1 hx1 hA=>?_
 refine zab zbu hA (Ext.refl _) fun v10 h10=>?_
 refine (zdQ h10 (Ext.refl _) hc hp).mono ?_
 rintro v12 w2 ⟨hx2,ho2⟩
 refine zaa za1 ?_
 refine zab zbN (zap hA) hx2 fun v14 h14=>?_
 refine zaf u22 h14 ?_
 have hs1:=hx1.size
 have hs2:=hx2.size
 refine zc2 h8.2 (by omega) fun w3 hx3 hM3=>?_
 have hs3:=hx3.size
 have ho3:=ho2.toI.ext hx3
 have hm3:=hM3.lt _ (List.mem_singleton.2 rfl)
 have hx13:=hx2.trans hx3
 generalize hm:w2.heap.size=m at *
 rw [zcC c.procs.length (p:=fun q=>∃ i,i<0∧zay c p i∧(zaj c i).op=op∧(zaj c i).arg=(q:Int)) (fun i ⟨j,h,_⟩=>by omega)] at hM3
 refine zas c.ins.length (fun k us w'=>us=[.int .i64 (k:Int)]∧k≤c.ins.length∧ChgI m (m+1) w3 w'∧Mine [m] w' (.slice (some ⟨m,0,none⟩) c.procs.length c.procs.length) (zbE c.procs.length fun q=>∃ i,i<k∧zay c p i∧(zaj c i).op=op∧(zaj c i).arg=(q:Int))) 0 (Nat.zero_le _) ⟨rfl,Nat.zero_le _,ChgI.refl _,hM3⟩ ?_
 rintro k mk u w4 hkm ⟨hu,hkl,hc4,hM4⟩
 simp only [List.map_cons,List.map_nil,List.cons.injEq,and_true] at hu
 rw [hu]
 have hx4:Ext w1 w4:=hx13.chgI hc4 (by omega)
 have ho4:=ho3.chg hc4 (by omega)
 refine zaa zaD ?_
 refine zab zco (zai hA) hx4 fun v19 h19=>?_
 refine zaf u30 h19 ?_
 refine zah ?_
 refine br (fun hlt=>?_) (fun hge=>?_)
 case refine_2=>
   have hke:k=c.ins.length:=by omega
   rw [hke] at hM4
   refine (zdt hM4.is (Ext.refl _) (by rw [zak];omega)).mono ?_
   rintro r w5 ⟨hx5,ho5⟩
   rw [zak,zeK] at ho5
   have hsz:=hx4.size
   exact ⟨(hx1.trans hx4).trans hx5,ho5.mono (by omega)⟩
 have hk:k<c.ins.length:=by omega
 have hno:¬(zay c p k∧(zaj c k).op=op)→(zbE c.procs.length fun q=>∃ i,i<k∧zay c p i∧(zaj c i).op=op∧(zaj c i).arg=(q:Int))=zbE c.procs.length fun q=>∃ i,i<k+1∧zay c p i∧(zaj c i).op=op∧(zaj c i).arg=(q:Int):=fun hn=>zbo fun q _=>by
   constructor
   · rintro ⟨i,h1,h2⟩
     exact ⟨i,by omega,h2⟩
   rintro ⟨i,h1,h2,h3,h4⟩
   by_cases h:i=k
   · subst h;exact absurd ⟨h2,h3⟩ hn
   exact ⟨i,by omega,h2,h3,h4⟩
 refine zad zcm ty4 (i:=k) ho4.is (by rw [zak];exact hk) fun b2 o2 hA2=>?_
 refine zax ty4 hA2 (Ext.refl _) ?_
 have hmk:=zaI (n:=c.ins.length) (p:=zay c p) (i:=k)
 rw [zaL (by rw [zak];exact hk)] at hmk
 refine zbI (fun hf=>?_) (fun hf=>?_)
 case refine_2=>
   refine zag (by omega) ?_
   refine ⟨mk-1,by omega,k+1,by omega,rfl,by omega,hc4,?_⟩
   rw [←hno fun h=>by rw [hmk.2 ⟨hk,h.1⟩] at hf;cases hf]
   exact hM4
 have hlive:=(hmk.1 hf).2
 refine zaa zaD ?_
 refine zab zco (zai hA) hx4 fun v30 h30=>?_
 refine zad u30 zaS h30 hk fun b3 o3 hA3=>?_
 rw [zaG] at hA3
 refine zaa zaH ?_
 refine zac ty3 (zat hA3) hx4 fun _=>?_
 refine zaq ?_
 refine br (fun ho=>?_) (fun ho=>?_)
 case refine_2=>
   refine zag (by omega) ?_
   refine ⟨mk-1,by omega,k+1,by omega,rfl,by omega,hc4,?_⟩
   rw [←hno fun h=>ho h.2]
   exact hM4
 have harg:=(zfO hc hk).2.1
 unfold zbR at harg
 rw [if_neg (by omega),if_pos (by omega)] at harg
 obtain ⟨q,hq⟩:∃ q:Nat,(zaj c k).arg=(q:Int):=⟨(zaj c k).arg.toNat,by omega⟩
 have hql:q<c.procs.length:=by omega
 refine zaa zaD ?_
 refine zab zco (zai hA) hx4 fun v40 h40=>?_
 refine zad u30 zaS h40 hk fun b5 o5 hA5=>?_
 rw [zaG] at hA5
 refine zaa zaP ?_
 refine zac ty3 (zaw hA5) hx4 fun _=>?_
 rw [hq]
 refine zbk (α:=Bool) rfl zcm ty4 hql ?_
 refine zaW (α:=Bool) rfl ty4 hM4 zak hql zbb fun w5 hc5 hm5=>?_
 have hc5':ChgI m (m+1) w4 w5:=hc5.toI fun b hb=>by simp only [List.mem_cons,List.not_mem_nil,or_false] at hb;omega
 refine zag (by omega) ?_
 refine ⟨mk-1,by omega,k+1,by omega,rfl,by omega,hc4.trans hc5',?_⟩
 rw [←zlz (p:=fun q=>∃ i,i<k∧zay c p i∧(zaj c i).op=op∧(zaj c i).arg=(q:Int)) hql fun r=>?_]
 · exact hm5
 constructor
 · rintro ⟨i,h1,h2,h3,h4⟩
   by_cases h:i=k
   · subst h;right;omega
   exact .inl ⟨i,by omega,h2,h3,h4⟩
 rintro (⟨i,h1,h2⟩ | rfl)
 · exact ⟨i,by omega,h2⟩
 exact ⟨k,by omega,hlive,ho,hq⟩
end Go.Proofs.YtifonhplnmpgaaaGreat
namespace Go.Sh
def zkD (m n:Nat):Nat:=Nat.bitwise (fun a b=>a&&!b) m n
theorem zed (m n i:Nat):(zkD m n).testBit i=(m.testBit i&&!n.testBit i):=Nat.testBit_bitwise rfl m n i
theorem ziM (m n:Nat):zkD m n≤m:=Nat.le_of_testBit fun i h=>by rw [zed] at h;simp at h;exact h.1
section
variable {P:Program} {w:World} {K:Value→Prop} {t:TypeId} {x y:Operand}
theorem zdl {m n:Nat} (hm:m<4611686018427387904) (hn:n<4611686018427387904) (k:K (.int .i64 ((m &&& n:Nat):Int))):RD P (bin .and t x y (.int .i64 (m:Int)) (.int .i64 (n:Int))) w K:=by
 have hlt:m &&& n≤m:=Nat.and_le_left
 refine za4 (fun w' _=>?_) k
 have e1:IntKind.i64.wrap ((m &&& n:Nat):Int)=((m &&& n:Nat):Int):=IntWalk.i64_in _ (by omega)
 have e2:((BitVec.ofInt 64 (m:Int)) &&& (BitVec.ofInt 64 (n:Int))).toNat=m &&& n:=by
   simp only [BitVec.toNat_and,BitVec.ofInt_natCast,BitVec.toNat_ofNat]
   rw [Nat.mod_eq_of_lt (by omega),Nat.mod_eq_of_lt (by omega)]
 show (do eqGuard .and t x y (.int .i64 (m:Int)) (.int .i64 (n:Int));binOp .and t (.int .i64 (m:Int)) (.int .i64 (n:Int)):Sem Value).run P w'=_
 simp only [eqGuard,binOp,Op.intBits]
 show Result.ok (Value.int .i64 (IntKind.i64.wrap (((BitVec.ofInt 64 (m:Int)) &&& (BitVec.ofInt 64 (n:Int))).toNat:Nat))) w'=_
 rw [e2,e1]
theorem zhr {m n:Nat} (hm:m<4611686018427387904) (hn:n<4611686018427387904) (k:K (.int .i64 ((zkD m n:Nat):Int))):RD P (bin .andNot t x y (.int .i64 (m:Int)) (.int .i64 (n:Int))) w K:=by
 have hlt:zkD m n≤m:=ziM m n
 refine za4 (fun w' _=>?_) k
 have e1:IntKind.i64.wrap ((zkD m n:Nat):Int)=((zkD m n:Nat):Int):=IntWalk.i64_in _ (by omega)
 have e2:((BitVec.ofInt 64 (m:Int)) &&& ~~~(BitVec.ofInt 64 (n:Int))).toNat=zkD m n:=by
   apply Nat.eq_of_testBit_eq
   intro i
   have hm64:m<2^64:=by omega
   have hn64:n<2^64:=by omega
   simp only [BitVec.testBit_toNat,BitVec.getLsbD_and,BitVec.getLsbD_not,BitVec.ofInt_natCast,BitVec.getLsbD_ofNat,zed]
   by_cases hi:i<64
   · simp [hi]
   have:m.testBit i=false:=Nat.testBit_lt_two_pow (Nat.lt_of_lt_of_le hm64 (Nat.pow_le_pow_right (by omega) (by omega)))
   simp [hi,this]
 show (do eqGuard .andNot t x y (.int .i64 (m:Int)) (.int .i64 (n:Int));binOp .andNot t (.int .i64 (m:Int)) (.int .i64 (n:Int)):Sem Value).run P w'=_
 simp only [eqGuard,binOp,Op.intBits]
 show Result.ok (Value.int .i64 (IntKind.i64.wrap (((BitVec.ofInt 64 (m:Int)) &&& ~~~(BitVec.ofInt 64 (n:Int))).toNat:Nat))) w'=_
 rw [e2,e1]
theorem zpA {m n:Nat} {ku:IntKind} (hm:m<4611686018427387904) (k:K (.int .i64 ((m >>> n:Nat):Int))):RD P (bin .shr t x y (.int .i64 (m:Int)) (.int ku (n:Int))) w K:=by
 refine za4 (fun w' _=>?_) k
 have e0:¬((n:Int)<0):=by omega
 have e1:(m:Int).fdiv (2^(min n 64))=((m >>> n:Nat):Int):=by
   rw [Nat.shiftRight_eq_div_pow]
   have h2:((2:Int)^(min n 64))=((2^(min n 64):Nat):Int):=by simp
   rw [h2,Int.fdiv_eq_ediv_of_nonneg _ (Int.natCast_nonneg _),←Int.natCast_ediv]
   by_cases h:n≤64
   · rw [Nat.min_eq_left h]
   rw [Nat.min_eq_right (by omega),Nat.div_eq_of_lt (by omega),Nat.div_eq_of_lt (Nat.lt_of_lt_of_le (by omega:m<2^64) (Nat.pow_le_pow_right (by omega) (by omega)))]
 show (do eqGuard .shr t x y (.int .i64 (m:Int)) (.int ku (n:Int));binOp .shr t (.int .i64 (m:Int)) (.int ku (n:Int)):Sem Value).run P w'=_
 simp only [eqGuard,binOp,Op.shift,e0,if_false,Int.toNat_natCast]
 show Result.ok (Value.int .i64 ((m:Int).fdiv (2^(min n 64)))) w'=_
 rw [e1]
end
def zcJ (m:Nat):Nat→List Int
 | 0=>[]
 | k+1=>if m.testBit k then zcJ m k++[(k:Int)] else zcJ m k
theorem zge (m:Nat):∀ k,(zcJ m k).length≤k
 | 0=>Nat.le_refl _
 | k+1=>by
   have:=zge m k
   rw [zcJ]
   split
   · simp;omega
   omega
theorem zhs {m k:Nat} (h:m<2^k):∀ {j:Nat},k≤j→zcJ m j=zcJ m k
 | 0,hj=>by rw [Nat.le_zero.1 hj]
 | j+1,hj=>by
   by_cases e:k=j+1
   · rw [e]
   rw [zcJ,if_neg,zhs h (by omega)]
   rw [Nat.testBit_lt_two_pow (Nat.lt_of_lt_of_le h (Nat.pow_le_pow_right (by omega) (by omega)))]
   simp
def zbS (m:Nat):List Int:=zcJ m 64
theorem ziN {m k:Nat} (h:m<2^k) (hk:k≤64):zbS m=zcJ m k:=zhs h hk
theorem zdb {m:Nat} {x:Int}:∀ {k:Nat},x∈zcJ m k↔∃ i,i<k∧x=(i:Int)∧m.testBit i=true
 | 0=>by simp [zcJ]
 | k+1=>by
   rw [zcJ]
   constructor
   · intro h
     split at h
     · rename_i hb
       rcases List.mem_append.1 h with h | h
       · obtain ⟨i,h1,h2,h3⟩:=zdb.1 h;exact ⟨i,by omega,h2,h3⟩
       simp at h;exact ⟨k,by omega,h,hb⟩
     obtain ⟨i,h1,h2,h3⟩:=zdb.1 h;exact ⟨i,by omega,h2,h3⟩
   rintro ⟨i,h1,h2,h3⟩
   by_cases e:i=k
   · subst e;rw [if_pos h3];simp [h2]
   have:=(zdb (m:=m) (x:=x) (k:=k)).2 ⟨i,by omega,h2,h3⟩
   split
   · simp [this]
   exact this
theorem zp8 (m i:Nat):decide (((m >>> i &&& 1:Nat):Int)=1)=m.testBit i:=by
 have h:m >>> i &&& 1=(m.testBit i).toNat:=by
   rw [Nat.and_one_is_mod,Nat.testBit_eq_decide_div_mod_eq,Nat.shiftRight_eq_div_pow]
   rcases Nat.mod_two_eq_zero_or_one (m / 2^i) with h | h<;>simp [h]
 rw [h]
 cases m.testBit i<;>rfl
theorem zlA {m i:Nat}:m >>> i=0↔m<2^i:=by
 rw [Nat.shiftRight_eq_div_pow,Nat.div_eq_zero_iff]
 have:¬(2^i=0):=by have:0<2^i:=Nat.pow_pos (by omega);omega
 simp [this]
end Go.Sh
namespace Go.Proofs.YtifonhplnmpgaaaGreat
open Go Go.Sh Go.Proofs
open Rep (rep)
def F116 (a0 a1:Value) (w:World) (R:VW):Prop:=
 rD (convert 3 121 a1) w fun x7=>
 rB .shr 3 T0 T0 a0 x7 w fun x8=>
 rB .and 3 T0 U0 x8 (iV 1) w fun x9=>
 rB .eql 3 T0 U0 x9 (iV 1) w fun x10=>
 R x10 w
def cfg116:Cfg:=⟨extL,[],[],[],[],[],[]⟩
theorem F116_call {a0 a1:Value} {w:World} {R:VW} (h:F116 a0 a1 w R):cL 116 [a0,a1] w R:=co (g:=cfg116) Tryz.func116 (by kernel_rfl) (by kernel_rfl) (by kernel_rfl) h
theorem zdR {w:World} {m:Nat} {i:Nat}   (hm:m<4611686018427387904) (hi:i<4611686018427387904) :
   CALL Tryz.prog 116 [.int .i64 (m:Int),.int .i64 (i:Int)] w fun r w'=>Ext w w'∧(r=.bool (m.testBit i)):=by
 refine F116_call ?_
 unfold F116
 refine zcP (by kernel_rfl) zmD (by omega) ?_
 refine zpA (by omega) ?_
 refine zdl (n:=1) (Nat.lt_of_le_of_lt (Nat.shiftRight_le m i) hm) (by omega) ?_
 refine zaq ?_
 refine ⟨Ext.refl w,?_⟩
 rw [zp8]
def F66 (a0:Value) (w:World) (R:VW):Prop:=
 LOOPI [3,4] [(Value.slice none 0 0),(iV 0)] w fun u3 w next3=>
 rD (convert 3 121 (u3 4)) w fun x7=>
 rB .shr 3 T0 T0 a0 x7 w fun x8=>
 rB .neq 3 T0 U0 x8 (iV 0) w fun x9=>
 BR x9
 (cL 116 [a0,(u3 4)] w fun x14 w=>
 BR x14
 (oP (Instr.buildSlice 23 1 #[(0,(u3 4))]) w fun x17 w=>
 oP (Builtin.append_ #[23,23] 23 [(u3 3),x17].toArray) w fun x18 w=>
 rA (u3 4) (iV 1) w fun x11=>
 next3 [x18,x11] w)
 (rA (u3 4) (iV 1) w fun x11=>
 next3 [(u3 3),x11] w))
 (R (u3 3) w)
def cfg66:Cfg:=⟨extL,[],[(3,524280,[3,4])],[],[],[],[]⟩
theorem F66_call {a0:Value} {w:World} {R:VW} (h:F66 a0 w R):cL 66 [a0] w R:=co (g:=cfg66) Tryz.func66 (by kernel_rfl) (by kernel_rfl) (by kernel_rfl) h
theorem zcK {w:World} {m:Nat}   (hm:m<4611686018427387904) :
   CALL Tryz.prog 66 [.int .i64 (m:Int)] w fun r w'=>Ext w w'∧(Own w.heap.size w' r (zbS m)):=by
 refine F66_call ?_
 unfold F66
 refine zas (62) (fun k us w'=>∃ v:Value,us=[v,.int .i64 (k:Int)]∧Ext w w'∧(RowI w.heap.size w'.heap.size 3 w' v (zcJ m k))) (0) (by omega) ⟨_,rfl,Ext.refl w,zc0 _ _ _ _⟩ ?_
 rintro k m3 uu3 w1_ hk3 ⟨v3,hu,hx1_,hrow⟩
 have hs_hx1_:=hx1_.size
 obtain ⟨hu0,hu1⟩:=zb9 hu
 try rw [hu0]
 try rw [hu1]
 try clear hu0 hu1
 have hrl:=zge m k
 refine zcP (by kernel_rfl) zmD (by omega) ?_
 refine zpA (by omega) ?_
 refine zaz ?_
 refine br (fun c1=>?_) (fun c1=>?_)
 · have hk62:k<62:=by
     rcases Nat.lt_or_ge k 62 with h | h
     · exact h
     have h1:m<2^k:=Nat.lt_of_lt_of_le (show m<2^62 by omega) (Nat.pow_le_pow_right (by omega) h)
     exact absurd (by rw [zlA.2 h1];rfl) c1
   refine (zdR (by omega) (by omega)).mono ?_
   rintro _ w2_ ⟨hx2_,rfl⟩
   have hs_hx2_:=hx2_.size
   refine zbI (fun c2=>?_) (fun c2=>?_)
   · refine zcb (α:=Int) u23 ty3 z3 zc3 (by decide) (hrow.ext hx2_) (by omega) (ownI_int (lo:=w2_.heap.size) (hi:=w2_.heap.size) (by first | assumption | (unfold I64 at *;omega))) (by omega) (by omega) (by rw [zao];omega) (by omega) fun v18 w3_ hc3_ o18=>?_
     have hs_hc3_:=hc3_.size
     refine zag (by omega) ?_
     refine ⟨m3-1,by omega,k+1,by omega,_,rfl,(Ext.chgI (hx1_.trans hx2_) hc3_ (by omega)),?_⟩
     rw [zcJ,if_pos c2];exact o18
   refine zag (by omega) ?_
   refine ⟨m3-1,by omega,k+1,by omega,_,rfl,(hx1_.trans hx2_),?_⟩
   rw [zcJ,if_neg (by simp [c2])];exact (hrow.ext hx2_).mono (by omega) (by omega)
 refine ⟨hx1_,?_⟩
 have h1:m >>> k=0:=by have:=Decidable.not_not.1 c1;omega
 rw [ziN (zlA.1 h1) (by omega)]
 exact hrow.own.own
def F102 (a0:Value) (w:World) (R:VW):Prop:=
 rD (convert 3 121 a0) w fun x4=>
 rB .shl 3 U0 T0 (iV 1) x4 w fun x5=>
 R x5 w
def cfg102:Cfg:=⟨extL,[],[],[],[],[],[]⟩
theorem F102_call {a0:Value} {w:World} {R:VW} (h:F102 a0 w R):cL 102 [a0] w R:=co (g:=cfg102) Tryz.func102 (by kernel_rfl) (by kernel_rfl) (by kernel_rfl) h
theorem zeL {w:World} {i:Nat}   (hi:i<62) :
   CALL Tryz.prog 102 [.int .i64 (i:Int)] w fun r w'=>Ext w w'∧(r=.int .i64 ((2^i:Nat):Int)):=by
 refine F102_call ?_
 unfold F102
 refine zcP (by kernel_rfl) zmD (by omega) ?_
 refine zdA (by omega) ?_
 refine ⟨Ext.refl w,?_⟩
 rfl
def F156 (a0:Value) (w:World) (R:VW):Prop:=
 cL 125 [a0,(iV 0),(iV 63)] w fun x4 w=>
 R x4 w
def cfg156:Cfg:=⟨extL,[],[],[],[],[],[]⟩
theorem F156_call {a0:Value} {w:World} {R:VW} (h:F156 a0 w R):cL 156 [a0] w R:=co (g:=cfg156) Tryz.func156 (by kernel_rfl) (by kernel_rfl) (by kernel_rfl) h
theorem zlB {w:World} {a:Int}    :
   CALL Tryz.prog 156 [.int .i64 a] w fun r w'=>Ext w w'∧(r=.bool (decide (0≤a∧a≤63))):=by
 refine F156_call ?_
 unfold F156
 refine (zeT ).mono ?_
 rintro _ w1_ ⟨hx1_,rfl⟩
 refine ⟨hx1_,?_⟩
 rfl
def zq0 (c:DCode) (s:DState) (t:Int):Nat→Nat→Int→Nat
 | 0,_,_=>0
 | n+1,m,u=>if zgc c s u<0 then 0 else if ow s (zgc c s u)=t then m ||| 2^(zgc c s u).toNat else zq0 c s t n (m ||| 2^(zgc c s u).toNat) (ow s (zgc c s u))
def zq1 (c:DCode) (s:DState) (t:Int):Nat:=zq0 c s t s.stacks.length 0 t
theorem zpB {m i:Nat} (hm:m<64) (hi:i<6):m ||| 2^i<64:=Nat.or_lt_two_pow (n:=6) hm (Nat.pow_lt_pow_right (by omega) hi)
def zkE (c:DCode) (s:DState):Nat→Nat
 | 0=>0
 | k+1=>if zq1 c s k≠0 then zkE c s k ||| 2^(zgc c s k).toNat else zkE c s k
def F138 (a0 a1:Value) (w:World) (R:VW):Prop:=
 cL 66 [a1] w fun x9 w=>
 rN 23 3 x9 w fun x10=>
 LOOPI [5,11] [(iV 0),(iV 0)] w fun u3 w next3=>
 rC (u3 11) x10 w fun x12=>
 BR x12
 (rX 23 x9 (u3 11) w fun x13=>
 rL 3 x13 w fun x14=>
 rX 23 a0 x14 w fun x18=>
 rL 3 x18 w fun x19=>
 rB .or 3 T0 T0 (u3 5) x19 w fun x20=>
 rA (u3 11) (iV 1) w fun x21=>
 next3 [x20,x21] w)
 (R (u3 5) w)
def cfg138:Cfg:=⟨extL,[],[(3,4192416,[5,11])],[],[],[],[]⟩
theorem F138_call {a0 a1:Value} {w:World} {R:VW} (h:F138 a0 a1 w R):cL 138 [a0,a1] w R:=co (g:=cfg138) Tryz.func138 (by kernel_rfl) (by kernel_rfl) (by kernel_rfl) h
def orL (sets:List Nat) (l:List Int):Nat:=l.foldl (fun a i=>a ||| sets.getD i.toNat 0) 0
theorem zoR (sets:List Nat) (l:List Int) (i:Int):orL sets (l++[i])=orL sets l ||| sets.getD i.toNat 0:=by simp [orL]
theorem zlC {sets:List Nat} (hs:∀ x∈sets,x<256) (l:List Int):orL sets l<256:=by
 have key:∀ (l:List Int) (a:Nat),a<256→l.foldl (fun a i=>a ||| sets.getD i.toNat 0) a<256:=fun l=>by
   induction l with
   | nil=>exact fun a h=>h
   | cons i l ih=>
     intro a ha
     rw [List.foldl_cons]
     refine ih _ (Nat.or_lt_two_pow (n:=8) ha ?_)
     rw [List.getD_eq_getElem?_getD]
     cases h:sets[i.toNat]? with
     | none=>simp
     | some x=>exact hs x (List.mem_of_getElem? h)
 exact key l 0 (by omega)
theorem zeZ {w W0:World} {v0:Value} {sets:List Nat} {m:Nat} (h0:Is W0 v0 (zaM sets)) (e0:Ext W0 w) (hs:∀ x∈sets,x<256) (hl:sets.length≤8) (hm:m<2^sets.length) :
   CALL Tryz.prog 138 [v0,.int .i64 (m:Int)] w fun r w'=>Ext w w'∧r=.int .i64 (orL sets (zbS m):Nat):=by
 refine F138_call ?_
 unfold F138
 have h256:2^sets.length≤2^8:=Nat.pow_le_pow_right (by omega) hl
 refine (zcK (m:=m) (by omega)).mono ?_
 rintro v9 w1 ⟨hx1,ho1⟩
 have hbl:(zbS m).length≤64:=zge m 64
 refine zaf u23 ho1.is ?_
 refine zas (zbS m).length (fun k us w'=>us=[.int .i64 ((orL sets ((zbS m).take k):Nat):Int),.int .i64 (k:Int)]∧k≤(zbS m).length∧Ext w1 w') 0 (Nat.zero_le _) ⟨rfl,Nat.zero_le _,Ext.refl _⟩ ?_
 rintro k mk u w2 hkm ⟨hu,hkl,hx2⟩
 obtain ⟨hu1,hu2⟩:=zb9 hu
 rw [hu1,hu2]
 refine zah ?_
 refine br (fun hlt=>?_) (fun hge=>?_)
 case refine_2=>
   have:k=(zbS m).length:=by omega
   rw [this,List.take_length]
   exact ⟨hx1.trans hx2,rfl⟩
 have hk:k<(zbS m).length:=by omega
 have hmem:(zbS m)[k]∈zbS m:=List.getElem_mem hk
 obtain ⟨i,hi1,hi2,hi3⟩:=zdb.1 hmem
 have hil:i<sets.length:=Decidable.byContradiction fun hc=>by
   have:=Nat.testBit_lt_two_pow (Nat.lt_of_lt_of_le hm (Nat.pow_le_pow_right (by omega) (by omega:sets.length≤i)))
   rw [this] at hi3;cases hi3
 refine zad u23 ty3 (i:=k) ho1.is hk fun b1 o1 hA1=>?_
 refine zac ty3 hA1 hx2 fun _=>?_
 rw [hi2]
 refine zad u23 ty3 (i:=i) h0 (by rw [zae];exact hil) fun b2 o2 hA2=>?_
 rw [zaK] at hA2
 refine zac ty3 hA2 ((e0.trans hx1).trans hx2) fun _=>?_
 have h1:=zlC hs ((zbS m).take k)
 have h2:=hs sets[i] (List.getElem_mem hil)
 refine zfd (by omega) (by omega) ?_
 refine zag (by omega) ?_
 refine ⟨mk-1,by omega,k+1,by omega,?_,by omega,hx2⟩
 rw [List.take_succ_eq_append_getElem hk,zoR,hi2,Int.toNat_natCast,List.getD_eq_getElem?_getD,List.getElem?_eq_getElem hil]
 rfl
def F152 (a0 a1:Value) (w:World) (R:VW):Prop:=
 oP (Instr.box 32 a0) w fun x2 w=>
 rF 32 x2 2 w fun x10=>
 rL 22 x10 w fun x11=>
 rN 22 3 x11 w fun x12=>
 oP (Instr.makeSlice 101 x12 x12) w fun x13 w=>
 rX 101 x13 a1 w fun x16=>
 oS 4 x16 (Value.bool true) w fun w=>
 oP (Instr.buildSlice 23 1 #[(0,a1)]) w fun x18 w=>
 LOOPI [6,7] [x18,(iV 0)] w fun u5 w next5=>
 rN 23 3 (u5 6) w fun x21=>
 rC (u5 7) x21 w fun x22=>
 BR x22
 ((fun w=>rL 32 x2 w fun x25=>
 rX 23 (u5 6) (u5 7) w fun x28=>
 rL 3 x28 w fun x29=>
 cL 212 [x25,x29,(iV 4)] w fun x30 w=>
 LOOPI [6,9] [(u5 6),(iV 0)] w fun u9 w next9=>
 rN 23 3 x30 w fun x33=>
 rC (u9 9) x33 w fun x34=>
 BR x34
 (rX 23 x30 (u9 9) w fun x40=>
 rL 3 x40 w fun x41=>
 rX 101 x13 x41 w fun x42=>
 rL 4 x42 w fun x43=>
 rD (Op.unary .not x43) w fun x44=>
 BR x44
 (rX 23 x30 (u9 9) w fun x48=>
 rL 3 x48 w fun x49=>
 rX 101 x13 x49 w fun x50=>
 oS 4 x50 (Value.bool true) w fun w=>
 rX 23 x30 (u9 9) w fun x54=>
 rL 3 x54 w fun x55=>
 oP (Instr.buildSlice 23 1 #[(0,x55)]) w fun x56 w=>
 oP (Builtin.append_ #[23,23] 23 [(u9 6),x56].toArray) w fun x57 w=>
 rA (u9 9) (iV 1) w fun x36=>
 next9 [x57,x36] w)
 (rA (u9 9) (iV 1) w fun x36=>
 next9 [(u9 6),x36] w))
 (rA (u5 7) (iV 1) w fun x24=>
 next5 [(u9 6),x24] w)) (World.drew1 w))
 (R x13 w)
def cfg152:Cfg:=⟨extL,[],[(5,288230376151188416,[6,7]),(9,288230374004228672,[6,9])],[(7,[0,1,2,3,4,5,6],0)],[],[],[]⟩
theorem F152_call {a0 a1:Value} {w:World} {R:VW} (h:F152 a0 a1 w R):cL 152 [a0,a1] w R:=co (g:=cfg152) Tryz.func152 (by kernel_rfl) (by kernel_rfl) (by kernel_rfl) h
noncomputable def zht (c:DCode) (p:Nat):List Nat:=zbd c.procs.length (zgM c p 4)
theorem zee {w W0:World} {v0:Value} {c:DCode} {a:Nat} (h0:Is W0 v0 c) (e0:Ext W0 w) (hc:CodeR c) (ha:a<c.procs.length) :
   CALL Tryz.prog 152 [v0,.int .i64 (a:Int)] w fun r w'=>Ext w w'∧∃ m,r=.slice (some ⟨m,0,none⟩) c.procs.length c.procs.length∧w.heap.size≤m∧Mine [m] w' (.slice (some ⟨m,0,none⟩) c.procs.length c.procs.length) (zbE c.procs.length fun i=>i=a∨RP (zht c) a i):=by
 refine F152_call ?_
 unfold F152
 have h8:=hc.1.procs8
 have hep:=hc.2.1.1
 have hcn:∀ x,zht c x=zbd c.procs.length (zgM c x 4):=fun _=>rfl
 refine zbq h0 e0 fun w1 hx1 hA=>?_
 refine zaa za1 ?_
 refine zab zbN (zap hA) (Ext.refl _) fun v11 h11=>?_
 refine zaf u22 h11 ?_
 generalize hn:c.procs.length=n at *
 have hnl:∀ {i j:Nat},i<n→j∈zht c i→j<n∧True:=fun {i j} _ hj=>by rw [hcn] at hj;exact ⟨(zaQ.1 hj).1,trivial⟩
 have hnxl:∀ x,(zht c x).length≤n:=fun x=>by rw [hcn];exact zaZ
 refine zc2 h8.2 (by omega) fun w2 hx2 hM2=>?_
 have hs1:=hx1.size
 have hs2:=hx2.size
 refine zbk (α:=Bool) rfl zcm ty4 ha ?_
 refine zaW (α:=Bool) rfl ty4 hM2 (by simp) ha zbb fun w2b hc2 hM2b=>?_
 have hc2':ChgI w1.heap.size (w1.heap.size+1) w2 w2b:=hc2.toI fun b hb=>by simp only [List.mem_cons,List.not_mem_nil,or_false] at hb;omega
 have hs2b:=hc2'.size
 have hM0l:((List.replicate n false).set a true).length=n:=by simp
 have hM0:∀ i,mkd ((List.replicate n false).set a true) i↔i=a:=fun i=>by
   rw [zbY (by simp;exact ha)]
   exact ⟨fun h=>h.resolve_left zbl,.inr⟩
 generalize (List.replicate n false).set a true=M0 at *
 refine zbP (x:=(a:Int)) u23 ty3 z3 (by decide) (za7 (by unfold I64;omega)) fun v15 w3 hx3 hr3=>?_
 have hs3:=hx3.size
 generalize hm:w1.heap.size=m at *
 have hW3:WI w1 w3 m n w2b.heap.size w3.heap.size v15 [a] M0:=⟨(hx2.toI.trans hc2').trans hx3.toI,hr3,hM2b.ext hx3,by omega,by have:=hM2b.lt m (by simp);omega,hs3,Nat.le_refl _⟩
 generalize zht c=nx at *
 refine zas (1+n) (fun h us w'=>∃ (tv:Value) (lo hi:Nat) (L:List Nat) (ms:List Bool),us=[tv,.int .i64 (h:Int)]∧h≤L.length∧WI w1 w' m n lo hi tv L ms∧SInv nx n a M0 ms (L.drop h) h) 0 (Nat.zero_le _) ⟨v15,_,_,[a],_,rfl,by simp,hW3,SInv.start hM0l ha⟩ ?_
 rintro h mk u w4 hkm ⟨tv,lo,hi,L,ms,hu,hhL,hW4,hS4⟩
 obtain ⟨hu1,hu2⟩:=zb9 hu
 rw [hu1,hu2]
 have hb4:=hS4.bound
 rw [List.length_drop] at hb4
 refine zaf u23 hW4.row.is ?_
 rw [zae]
 refine zah ?_
 refine br (fun hlt=>?_) (fun hge=>?_)
 case refine_2=>
   have hhe:h=L.length:=by omega
   rw [hhe,List.drop_length] at hS4
   have hfin:=hS4.fin fun i hi hne=>absurd ((hM0 i).1 hi) hne
   have hms:ms=zbE n (fun i=>i=a∨RP nx a i):=zbQ hS4.len fun i hi=>by rw [hfin i,hM0]
   rw [←hms]
   have hx4:Ext w1 w4:=(Ext.refl w1).chgI hW4.chg (by omega)
   exact ⟨hx1.trans hx4,m,rfl,by omega,hW4.mks⟩
 have hh:h<L.length:=by omega
 have hx5:=zan w4
 have hW5:=hW4.step hx5
 generalize World.drew1 w4=w5 at *
 have hxa:∀ {w:World} {lo hi tv L ms},WI w1 w m n lo hi tv L ms→Ext w1 w:=fun h=>(Ext.refl w1).chgI h.chg (by omega)
 refine zab zbu hA (hxa hW5) fun v22 h22=>?_
 refine zad u23 ty3 (i:=h) hW5.row.is (by rw [zae];exact hh) fun b1 o1 hA1=>?_
 rw [zaK] at hA1
 refine zac ty3 hA1 (Ext.refl _) fun _=>?_
 generalize hx:L[h]=x at *
 have hdr:L.drop h=x :: L.drop (h+1):=by rw [List.drop_eq_getElem_cons hh,hx]
 have hxn:x<n:=(hS4.tdo x (by rw [hdr];simp)).2
 refine (zhq h22 (hxa hW5) hc (by omega) (.inl rfl)).mono ?_
 rintro v27 w6 ⟨hx6,ho6⟩
 rw [hn,←hcn] at ho6
 have hW6:=hW5.step hx6
 have hI6:=hW5.h3
 have hm6:=hW5.mks.lt m (by simp)
 have hS6:SIn2 nx n a M0 ms (L.drop (h+1)) h x 0:=hS4.pop (fun i=>by rw [hdr];simp [or_comm]) (by rw [hdr];simp)
 have hl2:=hnxl x
 refine zas (nx x).length (fun q us w'=>∃ (tv:Value) (lo hi:Nat) (L:List Nat) (ms:List Bool),us=[tv,.int .i64 (q:Int)]∧q≤(nx x).length∧h<L.length∧WI w1 w' m n lo hi tv L ms∧SIn2 nx n a M0 ms (L.drop (h+1)) h x q∧OwnI w5.heap.size w6.heap.size w' v27 (zaM (nx x))∧(hi≤w5.heap.size∨w6.heap.size≤lo)∧w6.heap.size≤w'.heap.size) 0 (Nat.zero_le _) ⟨tv,lo,hi,L,ms,rfl,Nat.zero_le _,hh,hW6,hS6,ho6.toI,.inl hI6,Nat.le_refl _⟩ ?_
 rintro q mk8 u8 w7 hkm8 ⟨tv7,lo7,hi7,L7,ms7,hu8,hql,hh7,hW7,hS7,ho7,hd7,hz7⟩
 obtain ⟨hu81,hu82⟩:=zb9 hu8
 rw [hu81,hu82]
 refine zaf u23 ho7.is ?_
 rw [zae]
 refine zah ?_
 refine br (fun hlt8=>?_) (fun hge8=>?_)
 case refine_2=>
   refine zag (by omega) ?_
   exact ⟨mk-1,by omega,h+1,by omega,tv7,lo7,hi7,L7,ms7,rfl,by omega,hW7,hS7.done (by omega)⟩
 have hq:q<(nx x).length:=by omega
 have hrd:∀ {w:World} {K:Value→Prop} (ho:OwnI w5.heap.size w6.heap.size w v27 (zaM (nx x))) (k:K (.int .i64 (((nx x)[q]:Nat):Int))),RD Tryz.prog (Instr.indexAt 23 v27 (.int .i64 (q:Int))) w fun x37=>RD Tryz.prog (Instr.loadAt 3 x37) w K:=fun ho k=>by
   refine zad u23 ty3 (i:=q) ho.is (by rw [zae];exact hq) fun b1 o1 hA1=>?_
   rw [zaK] at hA1
   exact zac ty3 hA1 (Ext.refl _) fun _=>k
 have hy:=hnl hxn (List.getElem_mem hq)
 refine hrd ho7 ?_
 have hlen7:=hS7.len
 refine zad zcm ty4 hW7.mks.is (by rw [hlen7];exact hy.1) fun b2 o2 hA2=>?_
 refine zax ty4 hA2 (Ext.refl _) ?_
 refine za0 ?_
 have hmk7:=zaL (ms:=ms7) (i:=(nx x)[q]) (by rw [hlen7];exact hy.1)
 refine zbI (fun hf=>?_) (fun hf=>?_)
 · have hnm:¬mkd ms7 (nx x)[q]:=by rw [hmk7];simpa using hf
   refine hrd ho7 ?_
   refine zbk (α:=Bool) rfl zcm ty4 hy.1 ?_
   refine zaW (α:=Bool) rfl ty4 hW7.mks hlen7 hy.1 zbb fun w8 hc8 hm8=>?_
   have hW8:=hW7.mark hc8 hm8
   have hc8':ChgI m (m+1) w7 w8:=hc8.toI fun b hb=>by simp only [List.mem_cons,List.not_mem_nil,or_false] at hb;omega
   have ho8:=ho7.chg hc8' (by omega)
   refine hrd ho8 ?_
   have hS8:=hS7.push hq hy.1 hnm
   generalize (nx x)[q]=y at *
   have hLb:L7.length≤2+n:=by
     have h1:=hS7.cnt
     have h2:=zeJ ms7
     rw [List.length_drop] at h1
     omega
   refine zdk (x:=(y:Int)) u23 ty3 z3 zc3 (by decide) hW8.row (ownI_int 0 0 (by unfold I64;omega)) (by rw [zao,zae];omega) (by rw [zae];omega) fun v54 w9 lo9 hi9 hc9 hr9 hd9=>?_
   have hW9:=hW8.push hc9 hr9 hd9
   have hsz8:=hc8'.size
   have hsz7:=ho7.is
   refine zag (by omega) ?_
   refine ⟨mk8-1,by omega,q+1,by omega,v54,lo9,hi9,L7++[y],_,rfl,by omega,by simp;omega,hW9,?_,ho8.chg hc9 (by omega),by omega,by have:=hc9.size;omega⟩
   rw [List.drop_append_of_le_length (by omega)]
   exact hS8
 have hnm:mkd ms7 (nx x)[q]:=by rw [hmk7];simpa using hf
 refine zag (by omega) ?_
 exact ⟨mk8-1,by omega,q+1,by omega,tv7,lo7,hi7,L7,ms7,rfl,by omega,hh7,hW7,hS7.skip hq hnm,ho7,hd7,hz7⟩
noncomputable def m6 (p:Nat→Prop):Nat:=zf1 p 6
theorem zlD {p:Nat→Prop} {l:Nat}:(m6 p).testBit l=true↔l<6∧p l:=zbU
theorem ziO {p:Nat→Prop}:m6 p<64:=zho (n:=6)
theorem zgf {m l:Nat} (h:m<64) (hb:m.testBit l=true):l<6:=Decidable.byContradiction fun hc=>by
 have:=Nat.testBit_lt_two_pow (Nat.lt_of_lt_of_le (show m<2^6 from h) (Nat.pow_le_pow_right (by omega) (by omega:6≤l)))
 rw [this] at hb;cases hb
theorem znu {m:Nat} {p:Nat→Prop} (h:m<64) (hb:∀ l,l<6→(m.testBit l=true↔p l)):m=m6 p:=
 zec fun l=>⟨fun e=>⟨zgf h e,(hb l (zgf h e)).1 e⟩,fun e=>(hb l e.1).2 e.2⟩
theorem zlE {p q:Nat→Prop} (h:∀ l,l<6→(p l↔q l)):m6 p=m6 q:=zcw h
theorem zdS {m l:Nat} (h:¬m.testBit l=false):m.testBit l=true:=by simpa using h
def zau (l:List Nat) (i:Nat):Nat:=l.getD i 0
theorem zaR {l:List Nat} {i:Nat} (h:i<l.length):l[i]=zau l i:=by unfold zau;rw [List.getD_eq_getElem?_getD,List.getElem?_eq_getElem h];rfl
theorem zbt {l:List Nat} {i j v:Nat} (hi:i<l.length):zau (l.set i v) j=if i=j then v else zau l j:=by
 unfold zau
 rw [List.getD_eq_getElem?_getD,List.getD_eq_getElem?_getD,List.getElem?_set]
 by_cases h:i=j
 · subst h;simp [hi]
 simp [h]
theorem zgg:∀ {l:List Nat} {i v:Nat},i<l.length→(l.set i v).sum+zau l i=l.sum+v
 | x :: l,0,v,_=>by simp [zau];omega
 | x :: l,i+1,v,h=>by
   have:=zgg (l:=l) (i:=i) (v:=v) (by simpa using h)
   simp only [zau,List.set_cons_succ,List.sum_cons,List.getD_cons_succ] at this ⊢
   omega
theorem zef (l:List Nat) (i v:Nat):zaM (l.set i v)=(zaM l).set i (v:Int):=by simp [zaM,List.map_set]
theorem zq2 {l:List Nat} {b:Nat} (h:∀ x∈l,x≤b):l.sum≤l.length*b:=by
 induction l with
 | nil=>simp
 | cons x l ih=>
   have h1:=ih fun y hy=>h y (by simp [hy])
   have h2:=h x (by simp)
   rw [List.sum_cons,List.length_cons,Nat.add_mul];omega
theorem ziP {l:List Nat} {i:Nat} (h:i<l.length):zau l i∈l:=by rw [←zaR h];exact List.getElem_mem h
theorem zaJ {l:List Nat} {i:Nat} (h:i<(zaM l).length):(zaM l)[i]=(zau l i:Int):=by rw [zaK,zaR]
def eN (c:DCode) (p:Nat):Nat:=(en c p).toNat
def zN (c:DCode) (p:Nat):Nat:=(zcX c p-1).toNat
def agN (c:DCode) (i:Nat):Nat:=(zaj c i).arg.toNat
theorem zep {c:DCode} (hc:CodeR c) {p:Nat} (hp:p<c.entry.length):en c p=(eN c p:Int)∧eN c p<c.ins.length∧zar c (eN c p)=p:=by
 have h:=znr hc hp
 unfold eN
 rw [Int.toNat_of_nonneg h.1]
 exact ⟨rfl,by omega,h.2.2⟩
theorem zhN {c:DCode} (hc:CodeR c) {p:Nat} (hp:p<c.entry.length):zcX c p=(zN c p:Int)+1∧eN c p≤zN c p∧zN c p<c.ins.length:=by
 have h1:=hc.f.lt p hp
 have h2:=hc.f.nonneg hp
 have h4:=hc.f.lt p hp
 have h5:zcX c p≤c.ins.length:=h4.2
 unfold zN eN
 omega
theorem zbe {c:DCode} (hc:CodeR c) {p i:Nat} (hp:p<c.entry.length) (h:zay c p i):i<c.ins.length∧zar c i=p:=by
 have he:=zep hc hp
 rcases h with rfl | h
 · exact ⟨he.2.1,he.2.2⟩
 refine h.keeps (p:=fun i=>i<c.ins.length∧zar c i=p) ⟨he.2.1,he.2.2⟩ fun i j hi hj=>?_
 have:=zb2 hc hi.1 hj
 exact ⟨this.1,this.2.trans hi.2⟩
theorem znv {c:DCode} {p i j:Nat} (h:zay c p i) (hj:j∈zav c i):zay c p j:=by
 rcases h with rfl | h
 · exact .inr (.one hj)
 exact .inr (.more h hj)
theorem zkF {c:DCode} (hc:CodeR c) {p i:Nat} (hi:i<c.ins.length) (hp:p<c.entry.length) (h:zar c i=p):eN c p≤i∧i≤zN c p:=by
 obtain ⟨q,hq,h1,h2,h3⟩:=hc.f.find hc.1.procs8.2 (a:=(i:Int)) (by omega) (by omega)
 have:q=p:=by omega
 subst this
 have h4:=zhN hc hp
 have h5:=zep hc hp
 omega
theorem ziQ {c:DCode} (hc:CodeR c) {p i:Nat} (hp:p<c.entry.length) (h1:eN c p≤i) (h2:i≤zN c p):zar c i=p:=by
 have h4:=zhN hc hp
 have h5:=zep hc hp
 exact hc.f.proc hp (by omega) (by omega)
theorem zbB {c:DCode} (hc:CodeR c) {i:Nat} (hi:i<c.ins.length) (ho:(zaj c i).op=4∨(zaj c i).op=5):(zaj c i).arg=(agN c i:Int)∧agN c i<c.procs.length:=by
 have harg:=(zfO hc hi).2.1
 unfold zbR at harg
 rw [if_neg (by omega),if_pos (by omega)] at harg
 unfold agN
 omega
theorem zeg {c:DCode} (hc:CodeR c) {i:Nat} (hi:i<c.ins.length) (ho:(zaj c i).op=6∨(zaj c i).op=7):(zaj c i).arg=(agN c i:Int)∧agN c i<c.locks.length∧agN c i<6:=by
 have h:=zoN hc hi ho
 have h6:=hc.1.locks6
 unfold agN
 omega
def zq3 (c:DCode) (K G:Nat→Nat→Prop) (i l:Nat):Prop:=((zaj c i).op=7∧agN c i=l)∨((zaj c i).op=4∧¬K (agN c i) l∧¬G (agN c i) l)
def znw (c:DCode) (G:Nat→Nat→Prop) (i l:Nat):Prop:=¬((zaj c i).op=6∧agN c i=l)∧¬((zaj c i).op=4∧G (agN c i) l)
inductive LostP (c:DCode) (K G:Nat→Nat→Prop) (p:Nat) (h:Nat→Prop):Nat→Nat→Prop
 | ent {l:Nat} (h0:¬h l):LostP c K G p h (eN c p) l
 | gen {i j l:Nat} (h0:zay c p i) (hj:j∈zav c i) (h1:zq3 c K G i l):LostP c K G p h j l
 | pass {i j l:Nat} (h0:zay c p i) (hj:j∈zav c i) (h1:LostP c K G p h i l) (h2:znw c G i l):LostP c K G p h j l
theorem LostP.mono {c:DCode} {K K' G G':Nat→Nat→Prop} {p:Nat} {h h':Nat→Prop} (hK:∀ q l,K' q l→K q l) (hG:∀ q l,G' q l→G q l) (hh:∀ l,h' l→h l) {i l:Nat} (hl:LostP c K G p h i l):LostP c K' G' p h' i l:=by
 induction hl with
 | ent h0=>exact .ent fun e=>h0 (hh _ e)
 | gen h0 hj h1=>exact .gen h0 hj (h1.imp id fun ⟨a,b,d⟩=>⟨a,fun e=>b (hK _ _ e),fun e=>d (hG _ _ e)⟩)
 | pass h0 hj _ h2 ih=>exact .pass h0 hj ih ⟨h2.1,fun ⟨a,b⟩=>h2.2 ⟨a,hG _ _ b⟩⟩
abbrev Tab:=List (Nat×Nat)
def tbl (T:Tab) (q:Nat):Nat×Nat:=T.getD q (0,0)
def tK (T:Tab) (q l:Nat):Prop:=(tbl T q).1.testBit l=true
def tG (T:Tab) (q l:Nat):Prop:=(tbl T q).2.testBit l=true
theorem zgh {T:Tab} {q:Nat} (h:q<T.length):T[q]=tbl T q:=by unfold tbl;rw [List.getD_eq_getElem?_getD,List.getElem?_eq_getElem h];rfl
theorem zp9 {T:Tab} {q r:Nat} {v:Nat×Nat} (h:q<T.length):tbl (T.set q v) r=if q=r then v else tbl T r:=by
 unfold tbl
 rw [List.getD_eq_getElem?_getD,List.getD_eq_getElem?_getD,List.getElem?_set]
 by_cases e:q=r
 · subst e;simp [h]
 simp [e]
def znx (c:DCode) (T:Tab):Prop:=T.length=c.procs.length∧∀ q,(tbl T q).1<64∧(tbl T q).2<64
def aft (c:DCode) (T:Tab) (i m:Nat):Nat:=
 if (zaj c i).op=6 then m ||| 2^agN c i else if (zaj c i).op=7 then zkD m (2^agN c i) else if (zaj c i).op=4 then (m &&& (tbl T (agN c i)).1) ||| (tbl T (agN c i)).2 else m
theorem zpC {c:DCode} {T:Tab} (hc:CodeR c) (hT:znx c T) {i m:Nat} (hi:i<c.ins.length) (hm:m<64):aft c T i m<64:=by
 unfold aft
 split
 · rename_i h
   exact zpB hm (zeg hc hi (.inl h)).2.2
 split
 · exact Nat.lt_of_le_of_lt (ziM _ _) hm
 split
 · exact Nat.or_lt_two_pow (n:=6) (Nat.lt_of_le_of_lt Nat.and_le_left hm) (hT.2 _).2
 exact hm
theorem zhu {c:DCode} {T:Tab} {i m l:Nat}:(aft c T i m).testBit l=false↔zq3 c (tK T) (tG T) i l∨(znw c (tG T) i l∧m.testBit l=false):=by
 unfold aft zq3 znw tK tG
 split
 · rename_i h
   rw [Nat.testBit_or,Nat.testBit_two_pow]
   have e6:((zaj c i).op=6)=True:=eq_true h
   have e4:((zaj c i).op=4)=False:=eq_false (by omega)
   have e7:((zaj c i).op=7)=False:=eq_false (by omega)
   simp only [e6,e4,e7,true_and,false_and,false_or,or_false,not_false_eq_true,and_true,Bool.or_eq_false_iff,decide_eq_false_iff_not]
   exact ⟨fun ⟨a,b⟩=>⟨b,a⟩,fun ⟨a,b⟩=>⟨b,a⟩⟩
 rename_i h6
 have e6:((zaj c i).op=6)=False:=eq_false h6
 split
 · rename_i h
   have e7:((zaj c i).op=7)=True:=eq_true h
   have e4:((zaj c i).op=4)=False:=eq_false (by omega)
   rw [zed,Nat.testBit_two_pow]
   simp only [e6,e4,e7,true_and,false_and,false_or,or_false,not_false_eq_true,and_true,Bool.and_eq_false_iff,Bool.not_eq_false',decide_eq_true_eq]
   exact ⟨fun h=>h.elim .inr .inl,fun h=>h.elim .inr .inl⟩
 rename_i h7
 have e7:((zaj c i).op=7)=False:=eq_false h7
 split
 · rename_i h
   have e4:((zaj c i).op=4)=True:=eq_true h
   rw [Nat.testBit_or,Nat.testBit_and]
   simp only [e6,e4,e7,true_and,false_and,false_or,not_false_eq_true]
   cases (tbl T (agN c i)).1.testBit l<;>cases (tbl T (agN c i)).2.testBit l<;>cases m.testBit l<;>simp
 rename_i h4
 simp [h6,h7,h4]
noncomputable def zbF (c:DCode) (T:Tab) (p h:Nat):List Nat:=(List.range c.ins.length).map fun i=>m6 fun l=>¬LostP c (tK T) (tG T) p (fun l=>h.testBit l=true) i l
theorem zcL (c:DCode) (T:Tab) (p h:Nat):(zbF c T p h).length=c.ins.length:=by simp [zbF]
theorem zgN {c:DCode} {T:Tab} {p h i:Nat} (hi:i<c.ins.length):zau (zbF c T p h) i=m6 fun l=>¬LostP c (tK T) (tG T) p (fun l=>h.testBit l=true) i l:=by
 rw [←zaR (by rw [zcL];exact hi)];simp [zbF]
theorem zfR {c:DCode} {T:Tab} {p h:Nat}:∀ x∈zbF c T p h,x<64:=fun x hx=>by
 unfold zbF at hx
 obtain ⟨i,_,rfl⟩:=List.mem_map.1 hx
 exact ziO
structure FL (c:DCode) (T:Tab) (p h:Nat) (out:List Nat):Prop where
 len:out.length=c.ins.length
 lt:∀ x∈out,x<64
 snd:∀ i l,i<c.ins.length→l<6→(zau out i).testBit l=false→LostP c (tK T) (tG T) p (fun l=>h.testBit l=true) i l
 ent:∀ l,l<6→h.testBit l=false→(zau out (eN c p)).testBit l=false
theorem FL.lt0 {c:DCode} {T:Tab} {p h:Nat} {out:List Nat} (h:FL c T p h out) (i:Nat):zau out i<64:=by
 rcases Nat.lt_or_ge i out.length with hi | hi
 · exact h.lt _ (ziP hi)
 unfold zau;rw [List.getD_eq_getElem?_getD,List.getElem?_eq_none hi];simp
theorem zfS {l:Nat} (h:l<6):(63:Nat).testBit l=true:=by
 have:l=0∨l=1∨l=2∨l=3∨l=4∨l=5:=by omega
 rcases this with rfl | rfl | rfl | rfl | rfl | rfl<;>rfl
theorem FL.start {c:DCode} {T:Tab} {p h:Nat} (hc:CodeR c) (hp:p<c.entry.length) (hh:h<64):FL c T p h ((List.replicate c.ins.length 63).set (eN c p) h):=by
 have he:=(zep hc hp).2.1
 have hr:(List.replicate c.ins.length 63).length=c.ins.length:=by simp
 have hg:∀ i,i<c.ins.length→zau (List.replicate c.ins.length 63) i=63:=fun i hi=>by rw [←zaR (by rw [hr];exact hi)];simp
 refine ⟨by simp,fun x hx=>?_,fun i l hi hl hb=>?_,fun l hl hb=>?_⟩
 · rcases zfp hx with rfl | hx
   · exact hh
   rw [(List.mem_replicate.1 hx).2];omega
 · rw [zbt (by rw [hr];exact he)] at hb
   split at hb
   · rename_i e
     subst e
     exact .ent (by rw [hb];simp)
   rw [hg i hi,zfS hl] at hb;cases hb
 rw [zbt (by rw [hr];exact he),if_pos rfl];exact hb
theorem FL.upd {c:DCode} {T:Tab} {p h:Nat} {out:List Nat} (hF:FL c T p h out) (hc:CodeR c) (hp:p<c.entry.length) (hT:znx c T) {i j:Nat} (hi:zay c p i) (hj:j∈zav c i) :
   FL c T p h (out.set j (zau out j &&& aft c T i (zau out i))):=by
 have hil:=(zbe hc hp hi).1
 have hjl:=(zb2 hc hil hj).1
 refine ⟨by simp [hF.len],fun x hx=>?_,fun k l hk hl hb=>?_,fun l hl hb=>?_⟩
 · rcases zfp hx with rfl | hx
   · exact Nat.lt_of_le_of_lt Nat.and_le_left (hF.lt0 j)
   exact hF.lt x hx
 · rw [zbt (by rw [hF.len];exact hjl)] at hb
   split at hb
   · rename_i e
     subst e
     rw [Nat.testBit_and,Bool.and_eq_false_iff] at hb
     rcases hb with hb | hb
     · exact hF.snd j l hk hl hb
     rcases zhu.1 hb with h1 | ⟨h1,h2⟩
     · exact .gen hi hj h1
     exact .pass hi hj (hF.snd i l hil hl h2) h1
   exact hF.snd k l hk hl hb
 rw [zbt (by rw [hF.len];exact hjl)]
 split
 · rename_i e
   rw [Nat.testBit_and,e,hF.ent l hl hb];rfl
 exact hF.ent l hl hb
theorem zpD {a b:Nat} (h:a &&& b≠a):a &&& b<a:=by
 have:a &&& b≤a:=Nat.and_le_left
 omega
def zq4 (c:DCode) (T:Tab) (out:List Nat) (i:Nat):Prop:=∀ j∈zav c i,zau out j &&& aft c T i (zau out i)=zau out j
theorem FL.fin {c:DCode} {T:Tab} {p h:Nat} {out:List Nat} (hF:FL c T p h out) (hc:CodeR c) (hp:p<c.entry.length) (hs:∀ i,zay c p i→zq4 c T out i):out=zbF c T p h:=by
 refine List.ext_getElem (by rw [hF.len,zcL]) fun i h1 h2=>?_
 rw [zaR h1,zaR h2,zgN (by rw [←hF.len];exact h1)]
 refine znu (hF.lt0 i) fun l hl=>⟨fun hb hn=>?_,fun hn=>zdS fun hb=>hn (hF.snd i l (by rw [←hF.len];exact h1) hl hb)⟩
 have key:∀ {i l:Nat},LostP c (tK T) (tG T) p (fun l=>h.testBit l=true) i l→l<6→(zau out i).testBit l=false:=fun {i l} hn=>by
   induction hn with
   | ent h0=>exact fun hl=>hF.ent _ hl (by simpa using h0)
   | gen h0 hj h1=>
     intro hl
     rw [←hs _ h0 _ hj,Nat.testBit_and,zhu.2 (.inl h1),Bool.and_false]
   | pass h0 hj _ h2 ih=>
     intro hl
     rw [←hs _ h0 _ hj,Nat.testBit_and,zhu.2 (.inr ⟨h2,ih hl⟩),Bool.and_false]
 rw [key hn hl] at hb;cases hb
def FromP (c:DCode) (p q:Nat):Prop:=q=p∨RP (zht c) p q
theorem FromP.lt {c:DCode} {p q:Nat} (hp:p<c.procs.length) (h:FromP c p q):q<c.procs.length:=by
 rcases h with rfl | h
 · exact hp
 exact h.keeps (p:=fun i=>i<c.procs.length) hp fun i j _ hj=>(zaQ.1 hj).1
theorem FromP.trans {c:DCode} {p q r:Nat} (h:FromP c p q) (k:FromP c q r):FromP c p r:=by
 rcases h with rfl | h
 · exact k
 rcases k with rfl | k
 · exact .inr h
 exact .inr (h.trans k)
theorem FromP.call {c:DCode} {p q r:Nat} (h:FromP c p q) (hr:r<c.procs.length) (k:zgM c q 4 r):FromP c p r:=h.trans (.inr (.one (zaQ.2 ⟨hr,k⟩)))
noncomputable def zdT (c:DCode) (p:Nat):Nat:=m6 fun l=>¬ ∃ q i,q<c.procs.length∧FromP c p q∧zay c q i∧(zaj c i).op=7∧agN c i=l
inductive LostE (c:DCode):Nat→Nat→Nat→Prop
 | ent {p l:Nat}:LostE c p (eN c p) l
 | unl {p i j l:Nat} (h0:zay c p i) (hj:j∈zav c i) (ho:(zaj c i).op=7) (ha:agN c i=l):LostE c p j l
 | cal {p i j l:Nat} (h0:zay c p i) (hj:j∈zav c i) (ho:(zaj c i).op=4) (hk:(zdT c (agN c i)).testBit l=false) (h1:LostE c (agN c i) (zN c (agN c i)) l):LostE c p j l
 | bck {p i j l:Nat} (h0:zay c p i) (hj:j∈zav c i) (ho:(zaj c i).op=4) (h2:LostE c p i l) (h1:LostE c (agN c i) (zN c (agN c i)) l):LostE c p j l
 | pass {p i j l:Nat} (h0:zay c p i) (hj:j∈zav c i) (h6:¬((zaj c i).op=6∧agN c i=l)) (h4:¬(zaj c i).op=4) (h1:LostE c p i l):LostE c p j l
noncomputable def zb3 (c:DCode):Tab:=(List.range c.procs.length).map fun p=>(zdT c p,m6 fun l=>¬LostE c p (zN c p) l)
theorem ziR (c:DCode):(zb3 c).length=c.procs.length:=by simp [zb3]
theorem zny {c:DCode} {p:Nat} (hp:p<c.procs.length):tbl (zb3 c) p=(zdT c p,m6 fun l=>¬LostE c p (zN c p) l):=by
 rw [←zgh (by rw [ziR];exact hp)];simp [zb3]
theorem znz {c:DCode} {T:Tab} (hl:T.length=c.procs.length) (h:∀ q,q<c.procs.length→(tbl T q).1<64∧(tbl T q).2<64):znx c T:=⟨hl,fun q=>by
 rcases Nat.lt_or_ge q c.procs.length with hq | hq
 · exact h q hq
 unfold tbl;rw [List.getD_eq_getElem?_getD,List.getElem?_eq_none (by omega)];simp⟩
theorem ze0 (c:DCode):znx c (zb3 c):=znz (ziR c) fun q hq=>by rw [zny hq];exact ⟨ziO,ziO⟩
noncomputable def zcM (c:DCode) (T:Tab) (p:Nat):Nat:=zau (zbF c T p 0) (zN c p)
theorem zfT {c:DCode} (hc:CodeR c) {T:Tab} {p l:Nat} (hp:p<c.procs.length) (hl:l<6):(zcM c T p).testBit l=false↔LostP c (tK T) (tG T) p (fun l=>(0:Nat).testBit l=true) (zN c p) l:=by
 have hz:=(zhN hc (p:=p) (by rw [hc.2.1.1];exact hp)).2.2
 unfold zcM
 rw [zgN hz]
 constructor
 · intro h
   refine Classical.byContradiction fun hn=>?_
   rw [zlD.2 ⟨hl,hn⟩] at h;cases h
 intro h
 cases e:(m6 fun l=>¬LostP c (tK T) (tG T) p (fun l=>(0:Nat).testBit l=true) (zN c p) l).testBit l
 · rfl
 exact absurd h (zlD.1 e).2
theorem zgO {c:DCode} (hc:CodeR c) {T:Tab} {p:Nat} (hp:p<c.procs.length):zcM c T p<64:=by
 have hz:=(zhN hc (p:=p) (by rw [hc.2.1.1];exact hp)).2.2
 unfold zcM
 rw [zgN hz];exact ziO
structure EI (c:DCode) (T:Tab):Prop where
 tab:znx c T
 keep:∀ p,p<c.procs.length→(tbl T p).1=zdT c p
 snd:∀ p l,p<c.procs.length→l<6→(tbl T p).2.testBit l=false→LostE c p (zN c p) l
 desc:∀ p l,p<c.procs.length→l<6→(tbl T p).2.testBit l=false→(zcM c T p).testBit l=false
theorem EI.lost {c:DCode} (hc:CodeR c) {T:Tab} (h:EI c T) {p i l:Nat} (hp:p<c.procs.length) (hl:l<6) (k:LostP c (tK T) (tG T) p (fun l=>(0:Nat).testBit l=true) i l):LostE c p i l:=by
 have he:=hc.2.1.1
 induction k with
 | ent _=>exact .ent
 | gen h0 hj h1=>
   have hi:=(zbe hc (by rw [he];exact hp) h0).1
   rcases h1 with ⟨h1,h2⟩ | ⟨h1,h2,h3⟩
   · exact .unl h0 hj h1 h2
   have hq:=(zbB hc hi (.inl h1)).2
   refine .cal h0 hj h1 ?_ (h.snd _ _ hq hl (by unfold tG at h3;simpa using h3))
   unfold tK at h2
   rw [h.keep _ hq] at h2
   simpa using h2
 | @pass i j l h0 hj _ h2 ih=>
   have hi:=(zbe hc (by rw [he];exact hp) h0).1
   by_cases h4:(zaj c i).op=4
   · have hq:=(zbB hc hi (.inl h4)).2
     refine .bck h0 hj h4 (ih hl) (h.snd _ _ hq hl ?_)
     have:=h2.2
     unfold tG at this
     simpa [h4] using this
   exact .pass h0 hj h2.1 h4 (ih hl)
theorem EI.start (c:DCode) (hc:CodeR c):EI c ((List.range c.procs.length).map fun p=>(zdT c p,63)):=by
 have hl:((List.range c.procs.length).map fun p=>(zdT c p,63)).length=c.procs.length:=by simp
 have hat:∀ p,p<c.procs.length→tbl ((List.range c.procs.length).map fun p=>(zdT c p,63)) p=(zdT c p,63):=fun p hp=>by
   rw [←zgh (by rw [hl];exact hp)];simp
 refine ⟨znz hl fun q hq=>by rw [hat q hq];exact ⟨ziO,by omega⟩,fun p hp=>by rw [hat p hp],fun p l hp h6 hb=>?_,fun p l hp h6 hb=>?_⟩
 · rw [hat p hp,zfS h6] at hb;cases hb
 rw [hat p hp,zfS h6] at hb;cases hb
theorem EI.upd {c:DCode} (hc:CodeR c) {T:Tab} (h:EI c T) {p:Nat} (hp:p<c.procs.length):EI c (T.set p ((tbl T p).1,zcM c T p)):=by
 have hpl:p<T.length:=by rw [h.tab.1];exact hp
 have hat:=fun r=>zp9 (T:=T) (q:=p) (r:=r) (v:=((tbl T p).1,zcM c T p)) hpl
 have hle:∀ q l,l<6→(tbl T q).2.testBit l=false→(tbl (T.set p ((tbl T p).1,zcM c T p)) q).2.testBit l=false:=fun q l hl hb=>by
   rw [hat]
   split
   · rename_i e;subst e;exact h.desc p l hp hl hb
   exact hb
 have hmono:∀ {q l:Nat},q<c.procs.length→l<6→(zcM c T q).testBit l=false→(zcM c (T.set p ((tbl T p).1,zcM c T p)) q).testBit l=false:=fun {q l} hq hl hb=>by
   rw [zfT hc hq hl] at hb ⊢
   have key:∀ {i l:Nat},l<6→LostP c (tK T) (tG T) q (fun l=>(0:Nat).testBit l=true) i l→LostP c (tK (T.set p ((tbl T p).1,zcM c T p))) (tG (T.set p ((tbl T p).1,zcM c T p))) q (fun l=>(0:Nat).testBit l=true) i l:=fun {i l} hl k=>by
     have hK:∀ r l,tK (T.set p ((tbl T p).1,zcM c T p)) r l↔tK T r l:=fun r l=>by
       unfold tK
       rw [hat]
       split
       · rename_i e;rw [←e]
       exact Iff.rfl
     have hG:∀ r,tG (T.set p ((tbl T p).1,zcM c T p)) r l→tG T r l:=fun r e=>by
       unfold tG at e ⊢
       refine zdS fun hf=>?_
       rw [hle r l hl hf] at e;cases e
     clear hb
     induction k with
     | ent h0=>exact .ent h0
     | gen h0 hj h1=>exact .gen h0 hj (h1.imp id fun ⟨a,b,d⟩=>⟨a,fun e=>b ((hK _ _).1 e),fun e=>d (hG _ e)⟩)
     | pass h0 hj _ h2 ih=>exact .pass h0 hj (ih hl hG) ⟨h2.1,fun ⟨a,b⟩=>h2.2 ⟨a,hG _ b⟩⟩
   exact key hl hb
 refine ⟨⟨by simp [h.tab.1],fun q=>?_⟩,fun q hq=>?_,fun q l hq hl hb=>?_,fun q l hq hl hb=>?_⟩
 · rw [hat]
   split
   · exact ⟨(h.tab.2 p).1,zgO hc hp⟩
   exact h.tab.2 q
 · rw [hat]
   split
   · rename_i e;subst e;exact h.keep p hp
   exact h.keep q hq
 · rw [hat] at hb
   split at hb
   · rename_i e;subst e
     exact h.lost hc hp hl ((zfT hc hp hl).1 hb)
   exact h.snd q l hq hl hb
 rw [hat] at hb
 split at hb
 · rename_i e;subst e
   exact hmono hp hl hb
 exact hmono hq hl (h.desc q l hq hl hb)
theorem EI.le {c:DCode} (hc:CodeR c) {T:Tab} (h:EI c T) {p:Nat} (hp:p<c.procs.length):zcM c T p≤(tbl T p).2:=by
 refine Nat.le_of_testBit fun l hb=>?_
 have hl:=zgf (zgO hc hp) hb
 refine zdS fun hf=>?_
 rw [h.desc p l hp hl hf] at hb;cases hb
theorem EI.fin {c:DCode} (hc:CodeR c) {T:Tab} (h:EI c T) (hs:∀ p,p<c.procs.length→zcM c T p=(tbl T p).2):T=zb3 c:=by
 refine List.ext_getElem (by rw [h.tab.1,ziR]) fun p h1 h2=>?_
 have hp:p<c.procs.length:=by rw [←h.tab.1];exact h1
 rw [zgh h1,zgh h2,zny hp]
 have key:∀ {p i l:Nat},LostE c p i l→p<c.procs.length→l<6→LostP c (tK T) (tG T) p (fun l=>(0:Nat).testBit l=true) i l:=fun {p i l} k=>by
   have hz:∀ {i l:Nat},(zaj c i).op=4→i<c.ins.length→l<6→(agN c i<c.procs.length→l<6→LostP c (tK T) (tG T) (agN c i) (fun l=>(0:Nat).testBit l=true) (zN c (agN c i)) l)→¬tG T (agN c i) l:=fun {i l} ho hi hl k1=>by
     have hq:=(zbB hc hi (.inl ho)).2
     have:=(zfT hc hq hl).2 (k1 hq hl)
     rw [hs _ hq] at this
     unfold tG
     rw [this];simp
   induction k with
   | ent=>exact fun _ _=>.ent (by simp)
   | unl h0 hj ho ha=>exact fun _ _=>.gen h0 hj (.inl ⟨ho,ha⟩)
   | cal h0 hj ho hk _ ih=>
     intro hp hl
     have hi:=(zbe hc (by rw [hc.2.1.1];exact hp) h0).1
     have hq:=(zbB hc hi (.inl ho)).2
     refine .gen h0 hj (.inr ⟨ho,?_,hz ho hi hl ih⟩)
     unfold tK
     rw [h.keep _ hq,hk];simp
   | bck h0 hj ho _ _ ih2 ih1=>
     intro hp hl
     have hi:=(zbe hc (by rw [hc.2.1.1];exact hp) h0).1
     exact .pass h0 hj (ih2 hp hl) ⟨fun h=>by omega,fun h=>hz ho hi hl ih1 h.2⟩
   | pass h0 hj h6 h4 _ ih=>exact fun hp hl=>.pass h0 hj (ih hp hl) ⟨h6,fun h=>h4 h.1⟩
 refine Prod.ext (h.keep p hp) (znu (h.tab.2 p).2 fun l hl=>⟨fun hb hn=>?_,fun hn=>zdS fun hb=>hn (h.snd p l hp hl hb)⟩)
 have:=(zfT hc hp hl).2 (key hn hp hl)
 rw [hs p hp] at this
 rw [this] at hb;cases hb
def znA (T:Tab):Nat:=(T.map (·.2)).sum
theorem zoS {T:Tab} {p:Nat} {v:Nat×Nat} (hp:p<T.length):znA (T.set p v)+(tbl T p).2=znA T+v.2:=by
 unfold znA
 rw [List.map_set]
 have:=zgg (l:=T.map (·.2)) (i:=p) (v:=v.2) (by simpa using hp)
 rw [←zaR (by simpa using hp)] at this
 rw [←zgh hp]
 simpa using this
def zbL (c:DCode):Nat:=(plc zhM c.procs).toNat
inductive RootP (c:DCode):Nat→Prop
 | main:RootP c (zbL c)
 | spawn {r p q:Nat} (h0:RootP c r) (h1:FromP c r p) (h2:zgM c p 5 q) (hq:q<c.procs.length):RootP c q
def UsedP (c:DCode) (p:Nat):Prop:=∃ r,RootP c r∧FromP c r p
theorem zc5 {c:DCode} (hc:CodeR c):plc zhM c.procs=(zbL c:Int)∧zbL c<c.procs.length:=by
 have h:=zp5 hc
 have h2:=hc.2.1.1
 unfold zbL
 omega
theorem RootP.lt {c:DCode} (hc:CodeR c) {r:Nat} (h:RootP c r):r<c.procs.length:=by
 cases h with
 | main=>exact (zc5 hc).2
 | spawn _ _ _ hq=>exact hq
theorem UsedP.lt {c:DCode} (hc:CodeR c) {p:Nat} (h:UsedP c p):p<c.procs.length:=by
 obtain ⟨r,h1,h2⟩:=h
 exact h2.lt (h1.lt hc)
theorem UsedP.call {c:DCode} {p q:Nat} (h:UsedP c p) (hq:q<c.procs.length) (k:zgM c p 4 q):UsedP c q:=by
 obtain ⟨r,h1,h2⟩:=h
 exact ⟨r,h1,h2.call hq k⟩
inductive LostM (c:DCode) (K G:Nat→Nat→Prop):Nat→Option Nat→Nat→Prop
 | root {p l:Nat} (h:RootP c p):LostM c K G p none l
 | call {p i l:Nat} (hu:UsedP c p) (h0:zay c p i) (ho:(zaj c i).op=4) (h:LostM c K G p (some i) l):LostM c K G (agN c i) none l
 | ent {p l:Nat} (h:LostM c K G p none l):LostM c K G p (some (eN c p)) l
 | gen {p i j l:Nat} (h0:zay c p i) (hj:j∈zav c i) (h1:zq3 c K G i l):LostM c K G p (some j) l
 | pass {p i j l:Nat} (h0:zay c p i) (hj:j∈zav c i) (h1:LostM c K G p (some i) l) (h2:znw c G i l):LostM c K G p (some j) l
noncomputable def zlF (c:DCode) (p:Nat):Nat:=m6 fun l=>¬LostM c (tK (zb3 c)) (tG (zb3 c)) p none l
noncomputable def zqa (c:DCode):List Nat:=(List.range c.procs.length).map (zlF c)
theorem zgP (c:DCode):(zqa c).length=c.procs.length:=by simp [zqa]
theorem zkG {c:DCode} {p:Nat} (hp:p<c.procs.length):zau (zqa c) p=zlF c p:=by rw [←zaR (by rw [zgP];exact hp)];simp [zqa]
structure BI (c:DCode) (out:List Nat):Prop where
 len:out.length=c.procs.length
 lt:∀ x∈out,x<64
 snd:∀ p l,p<c.procs.length→l<6→(zau out p).testBit l=false→LostM c (tK (zb3 c)) (tG (zb3 c)) p none l
 root:∀ p l,RootP c p→l<6→(zau out p).testBit l=false
theorem BI.lt0 {c:DCode} {out:List Nat} (h:BI c out) (i:Nat):zau out i<64:=by
 rcases Nat.lt_or_ge i out.length with hi | hi
 · exact h.lt _ (ziP hi)
 unfold zau;rw [List.getD_eq_getElem?_getD,List.getElem?_eq_none hi];simp
theorem ziS {c:DCode} {T:Tab} {p h i l:Nat} (hi:i<c.ins.length) (hl:l<6):(zau (zbF c T p h) i).testBit l=false↔LostP c (tK T) (tG T) p (fun l=>h.testBit l=true) i l:=by
 rw [zgN hi]
 constructor
 · intro h
   refine Classical.byContradiction fun hn=>?_
   rw [zlD.2 ⟨hl,hn⟩] at h;cases h
 intro k
 cases e:(m6 fun l=>¬LostP c (tK T) (tG T) p (fun l=>h.testBit l=true) i l).testBit l
 · rfl
 exact absurd k (zlD.1 e).2
theorem BI.start {c:DCode} (hc:CodeR c) (out:List Nat) (hl:out.length=c.procs.length) (h:∀ p,p<c.procs.length→(RootP c p→zau out p=0)∧(¬RootP c p→zau out p=63)):BI c out:=by
 refine ⟨hl,fun x hx=>?_,fun p l hp h6 hb=>?_,fun p l hr h6=>?_⟩
 · obtain ⟨i,hi,rfl⟩:=List.getElem_of_mem hx
   rw [zaR hi]
   have:=h i (by omega)
   by_cases hr:RootP c i
   · rw [this.1 hr];omega
   rw [this.2 hr];omega
 · by_cases hr:RootP c p
   · exact .root hr
   rw [(h p hp).2 hr,zfS h6] at hb;cases hb
 rw [(h p (hr.lt hc)).1 hr];simp
theorem BI.lost {c:DCode} {out:List Nat} (h:BI c out) {p i l:Nat} (hp:p<c.procs.length) (hl:l<6) (k:LostP c (tK (zb3 c)) (tG (zb3 c)) p (fun l=>(zau out p).testBit l=true) i l):LostM c (tK (zb3 c)) (tG (zb3 c)) p (some i) l:=by
 induction k with
 | ent h0=>exact .ent (h.snd p _ hp hl (by simpa using h0))
 | gen h0 hj h1=>exact .gen h0 hj h1
 | pass h0 hj _ h2 ih=>exact .pass h0 hj (ih hl) h2
theorem BI.upd {c:DCode} (hc:CodeR c) {out:List Nat} (h:BI c out) {p i:Nat} (hu:UsedP c p) (hi:zay c p i) (ho:(zaj c i).op=4) :
   BI c (out.set (agN c i) (zau out (agN c i) &&& zau (zbF c (zb3 c) p (zau out p)) i)):=by
 have hp:=hu.lt hc
 have hil:=(zbe hc (by rw [hc.2.1.1];exact hp) hi).1
 have hq:=(zbB hc hil (.inl ho)).2
 refine ⟨by simp [h.len],fun x hx=>?_,fun r l hr hl hb=>?_,fun r l hr hl=>?_⟩
 · rcases zfp hx with rfl | hx
   · exact Nat.lt_of_le_of_lt Nat.and_le_left (h.lt0 _)
   exact h.lt x hx
 · rw [zbt (by rw [h.len];exact hq)] at hb
   split at hb
   · rename_i e
     subst e
     rw [Nat.testBit_and,Bool.and_eq_false_iff] at hb
     rcases hb with hb | hb
     · exact h.snd _ l hr hl hb
     refine .call hu hi ho ?_
     exact h.lost hp hl ((ziS hil hl).1 hb)
   exact h.snd r l hr hl hb
 rw [zbt (by rw [h.len];exact hq)]
 split
 · rename_i e
   rw [Nat.testBit_and,e,h.root r l hr hl];rfl
 exact h.root r l hr hl
theorem BI.fin {c:DCode} (hc:CodeR c) {out:List Nat} (h:BI c out) (hs:∀ p i,UsedP c p→zay c p i→(zaj c i).op=4→zau out (agN c i) &&& zau (zbF c (zb3 c) p (zau out p)) i=zau out (agN c i)):out=zqa c:=by
 refine List.ext_getElem (by rw [h.len,zgP]) fun p h1 h2=>?_
 have hp:p<c.procs.length:=by rw [←h.len];exact h1
 rw [zaR h1,zaR h2,zkG hp]
 have key:∀ {p:Nat} {o:Option Nat} {l:Nat},LostM c (tK (zb3 c)) (tG (zb3 c)) p o l→l<6→match o with
     | none=>(zau out p).testBit l=false
     | some i=>LostP c (tK (zb3 c)) (tG (zb3 c)) p (fun l=>(zau out p).testBit l=true) i l:=fun {p o l} k=>by
   induction k with
   | root hr=>exact fun hl=>h.root _ _ hr hl
   | @call p i l hu h0 ho _ ih=>
     intro hl
     have hil:=(zbe hc (by rw [hc.2.1.1];exact hu.lt hc) h0).1
     simp only
     rw [←hs p i hu h0 ho,Nat.testBit_and,(ziS hil hl).2 (ih hl),Bool.and_false]
   | ent _ ih=>exact fun hl=>.ent (by have:=ih hl;simp only at this;rw [this];simp)
   | gen h0 hj h1=>exact fun hl=>.gen h0 hj h1
   | pass h0 hj _ h2 ih=>exact fun hl=>.pass h0 hj (ih hl) h2
 refine znu (h.lt0 p) fun l hl=>⟨fun hb hn=>?_,fun hn=>zdS fun hb=>hn (h.snd p l hp hl hb)⟩
 have:=key hn hl
 simp only at this
 rw [this] at hb;cases hb
noncomputable def zdU (c:DCode) (i:Nat):Nat:=@ite _ (UsedP c (zar c i).toNat) (Classical.propDecidable _) (zau (zbF c (zb3 c) (zar c i).toNat (zlF c (zar c i).toNat)) i) 63
noncomputable def zgi (c:DCode):List Nat:=(List.range c.ins.length).map (zdU c)
theorem zfU (c:DCode):(zgi c).length=c.ins.length:=by simp [zgi]
theorem zoT {c:DCode} {i:Nat} (hi:i<c.ins.length):zau (zgi c) i=zdU c i:=by rw [←zaR (by rw [zfU];exact hi)];simp [zgi]
theorem zcR {l:List Nat} (h:∀ x∈l,x<64) (i:Nat):zau l i<64:=by
 rcases Nat.lt_or_ge i l.length with hi | hi
 · exact h _ (ziP hi)
 unfold zau;rw [List.getD_eq_getElem?_getD,List.getElem?_eq_none hi];simp
theorem znB (c:DCode) (i:Nat):zdU c i<64:=by
 unfold zdU
 split
 · exact zcR zfR i
 omega
theorem ziT (c:DCode):∀ x∈zgi c,x<64:=fun x hx=>by
 obtain ⟨i,_,rfl⟩:=List.mem_map.1 hx
 exact znB c i
theorem zhv {c:DCode} {i p:Nat} (hp:zar c i=p) (hu:UsedP c p):zdU c i=zau (zbF c (zb3 c) p (zlF c p)) i:=by
 unfold zdU
 rw [hp,Int.toNat_natCast,if_pos hu]
theorem zh3 {c:DCode} {i p:Nat} (hp:zar c i=p) (hu:¬UsedP c p):zdU c i=63:=by
 unfold zdU
 rw [hp,Int.toNat_natCast,if_neg hu]
inductive MetP (c:DCode):Nat→Prop
 | root {p:Nat} (h:RootP c p):MetP c (eN c p)
 | call {i:Nat} (h:MetP c i) (ho:(zaj c i).op=4):MetP c (eN c (agN c i))
 | next {i j:Nat} (h:MetP c i) (ho:¬(zaj c i).op=4) (hj:j∈zav c i):MetP c j
 | back {i j:Nat} (h:MetP c i) (ho:(zaj c i).op=4) (hz:MetP c (zN c (agN c i))) (hj:j∈zav c i):MetP c j
theorem MetP.lt {c:DCode} (hc:CodeR c) {i:Nat} (h:MetP c i):i<c.ins.length:=by
 induction h with
 | root h=>exact (zep hc (by rw [hc.2.1.1];exact h.lt hc)).2.1
 | call _ ho ih=>exact (zep hc (by rw [hc.2.1.1];exact (zbB hc ih (.inl ho)).2)).2.1
 | next _ _ hj ih=>exact (zb2 hc ih hj).1
 | back _ _ _ hj ih _=>exact (zb2 hc ih hj).1
inductive MayP (c:DCode):Nat→Nat→Prop
 | lock {i j l:Nat} (h:MetP c i) (ho:(zaj c i).op=6) (ha:agN c i=l) (hj:j∈zav c i):MayP c j l
 | pass {i j l:Nat} (h:MetP c i) (ho:¬(zaj c i).op=4) (ha:¬((zaj c i).op=7∧agN c i=l)) (hm:MayP c i l) (hj:j∈zav c i):MayP c j l
 | call {i l:Nat} (h:MetP c i) (ho:(zaj c i).op=4) (hm:MayP c i l):MayP c (eN c (agN c i)) l
 | back {i j l:Nat} (h:MetP c i) (ho:(zaj c i).op=4) (hz:MetP c (zN c (agN c i))) (hm:MayP c (zN c (agN c i)) l) (hj:j∈zav c i):MayP c j l
noncomputable def zlG (c:DCode):List Bool:=zbE c.ins.length (MetP c)
noncomputable def zpE (c:DCode):List Nat:=(List.range c.ins.length).map fun i=>m6 (MayP c i)
theorem zlH (c:DCode):(zpE c).length=c.ins.length:=by simp [zpE]
theorem zqb {c:DCode} {i:Nat} (hi:i<c.ins.length):zau (zpE c) i=m6 (MayP c i):=by rw [←zaR (by rw [zlH];exact hi)];simp [zpE]
structure MetC (c:DCode) (M:Nat→Prop):Prop where
 root:∀ p,RootP c p→M (eN c p)
 call:∀ i,M i→(zaj c i).op=4→M (eN c (agN c i))
 next:∀ i j,M i→¬(zaj c i).op=4→j∈zav c i→M j
 back:∀ i j,M i→(zaj c i).op=4→M (zN c (agN c i))→j∈zav c i→M j
theorem MetC.all {c:DCode} {M:Nat→Prop} (h:MetC c M) {i:Nat} (k:MetP c i):M i:=by
 induction k with
 | root h1=>exact h.root _ h1
 | call _ ho ih=>exact h.call _ ih ho
 | next _ ho hj ih=>exact h.next _ _ ih ho hj
 | back _ ho _ hj ih1 ih2=>exact h.back _ _ ih1 ho ih2 hj
structure MayC (c:DCode) (H:Nat→Nat→Prop):Prop where
 lock:∀ i j,MetP c i→(zaj c i).op=6→j∈zav c i→H j (agN c i)
 pass:∀ i j l,MetP c i→l<6→¬(zaj c i).op=4→¬((zaj c i).op=7∧agN c i=l)→H i l→j∈zav c i→H j l
 call:∀ i l,MetP c i→l<6→(zaj c i).op=4→H i l→H (eN c (agN c i)) l
 back:∀ i j l,MetP c i→l<6→(zaj c i).op=4→MetP c (zN c (agN c i))→H (zN c (agN c i)) l→j∈zav c i→H j l
theorem MayC.all {c:DCode} {H:Nat→Nat→Prop} (h:MayC c H) {i l:Nat} (hl:l<6) (k:MayP c i l):H i l:=by
 induction k with
 | lock hm ho ha hj=>exact ha▸h.lock _ _ hm ho hj
 | pass hm ho ha _ hj ih=>exact h.pass _ _ _ hm hl ho ha (ih hl) hj
 | call hm ho _ ih=>exact h.call _ _ hm hl ho (ih hl)
 | back hm ho hz _ hj ih=>exact h.back _ _ _ hm hl ho hz (ih hl) hj
def F238 (a0 a1 a2:Value) (w:World) (R:VW):Prop:=
 oP (Instr.box 111 a0) w fun x3 w=>
 rF 111 x3 0 w fun x7=>
 rL 3 x7 w fun x8=>
 rB .eql 3 T0 U0 x8 (iV 6) w fun x10=>
 BR x10
 (rF 111 x3 1 w fun x12=>
 rL 3 x12 w fun x13=>
 rD (convert 3 121 x13) w fun x14=>
 rB .shl 3 U0 T0 (iV 1) x14 w fun x15=>
 rB .or 3 T0 T0 a2 x15 w fun x16=>
 R x16 w)
 (rB .eql 3 T0 U0 x8 (iV 7) w fun x18=>
 BR x18
 (rF 111 x3 1 w fun x20=>
 rL 3 x20 w fun x21=>
 rD (convert 3 121 x21) w fun x22=>
 rB .shl 3 U0 T0 (iV 1) x22 w fun x23=>
 rB .andNot 3 T0 T0 a2 x23 w fun x24=>
 R x24 w)
 (rB .eql 3 T0 U0 x8 (iV 4) w fun x26=>
 BR x26
 ((fun w=>rF 111 x3 1 w fun x29=>
 rL 3 x29 w fun x30=>
 rX 204 a1 x30 w fun x31=>
 rF 225 x31 0 w fun x32=>
 rL 3 x32 w fun x33=>
 rB .and 3 T0 T0 a2 x33 w fun x34=>
 rF 111 x3 1 w fun x36=>
 rL 3 x36 w fun x37=>
 rX 204 a1 x37 w fun x38=>
 rF 225 x38 1 w fun x39=>
 rL 3 x39 w fun x40=>
 rB .or 3 T0 T0 x34 x40 w fun x41=>
 R x41 w) (World.drew1 w))
 (R a2 w)))
def cfg238:Cfg:=⟨extL,[],[],[(7,[0,1,2,3,4,5,6,7,8,9,10,11,12,13,14,15],0)],[],[],[]⟩
theorem F238_call {a0 a1 a2:Value} {w:World} {R:VW} (h:F238 a0 a1 a2 w R):cL 238 [a0,a1,a2] w R:=co (g:=cfg238) Tryz.func238 (by kernel_rfl) (by kernel_rfl) (by kernel_rfl) h
def F235 (a0 a1 a2:Value) (w:World) (R:VW):Prop:=
 oP (Instr.box 111 a0) w fun x3 w=>
 rF 111 x3 0 w fun x7=>
 rL 3 x7 w fun x8=>
 rB .eql 3 T0 U0 x8 (iV 6) w fun x10=>
 BR x10
 (rF 111 x3 1 w fun x12=>
 rL 3 x12 w fun x13=>
 cL 102 [x13] w fun x14 w=>
 rB .or 3 T0 T0 a2 x14 w fun x15=>
 R x15 w)
 (rB .eql 3 T0 U0 x8 (iV 7) w fun x17=>
 BR x17
 (rF 111 x3 1 w fun x19=>
 rL 3 x19 w fun x20=>
 cL 102 [x20] w fun x21 w=>
 cL 178 [a2,x21] w fun x22 w=>
 R x22 w)
 (rB .eql 3 T0 U0 x8 (iV 4) w fun x24=>
 BR x24
 ((fun w=>rF 111 x3 1 w fun x27=>
 rL 3 x27 w fun x28=>
 rX 204 a1 x28 w fun x29=>
 rF 225 x29 0 w fun x30=>
 rL 3 x30 w fun x31=>
 rB .and 3 T0 T0 a2 x31 w fun x32=>
 rF 111 x3 1 w fun x34=>
 rL 3 x34 w fun x35=>
 rX 204 a1 x35 w fun x36=>
 rF 225 x36 1 w fun x37=>
 rL 3 x37 w fun x38=>
 rB .or 3 T0 T0 x32 x38 w fun x39=>
 R x39 w) (World.drew1 w))
 (R a2 w)))
def cfg235:Cfg:=⟨extL,[],[],[(7,[0,1,2,3,4,5,6,7,8,9,10,11,12,13,14,15],0)],[],[],[]⟩
theorem F235_call {a0 a1 a2:Value} {w:World} {R:VW} (h:F235 a0 a1 a2 w R):cL 235 [a0,a1,a2] w R:=co (g:=cfg235) Tryz.func235 (by kernel_rfl) (by kernel_rfl) (by kernel_rfl) h
open Rep (rep)
structure DEffect where
 keep:Int
 gen:Int
theorem DEffect.ext_iff {x y:DEffect}:x=y↔(x.keep=y.keep∧x.gen=y.gen):=⟨fun h=>by rw [h];exact ⟨rfl,rfl⟩,fun h=>by obtain ⟨h0,h1⟩:=h;cases x;cases y;simp only at h0 h1;simp only [h0,h1]⟩
instance:DecidableEq DEffect:=fun x y=>decidable_of_iff (x.keep=y.keep∧x.gen=y.gen) DEffect.ext_iff.symm
instance:Rep DEffect:=Rep.via fun x=>(x.keep,x.gen)
theorem zgw {w:World} {b o:Nat} {x:DEffect} (h:At w b o x):At w b (o+0) x.keep:=zcW (α:=Int) (β:=Int) (p:=(x.keep,x.gen)) h
theorem zdu {w:World} {b o:Nat} {x:DEffect} (h:At w b o x):At w b (o+1) x.gen:=zbm (α:=Int) (β:=Int) (p:=(x.keep,x.gen)) h
instance:RepZ DEffect:=⟨⟨(RepZ.zv:Int),(RepZ.zv:Int)⟩,RepZ.zc (Int×Int),fun w=>RepZ.zr (α:=Int×Int) w⟩
theorem zhO {γ:Type} {H:List Nat→World→γ→Prop} {F:List Nat} {w:World} {b o:Nat} {G:List Nat} {x:DEffect} {upd:DEffect→γ} (h:Lens H F w b o G x upd) :
   ∃ G1,Lens H F w b (o+1) G1 x.gen (fun y=>upd ⟨x.keep,y⟩):=by
 have h':Lens H F w b o G (x.keep,x.gen) (fun p:Int×Int=>upd ⟨p.1,p.2⟩):=⟨h.here,h.sub,fun w' G' y' hc hO hs=>h.back w' G' _ hc hO hs⟩
 obtain ⟨G0,h'⟩:=h'.snd
 exact ⟨_,h'⟩
theorem zmi {w:World} {x:DEffect} (h_keep:I64 x.keep) (h_gen:I64 x.gen):Mine [] w (.agg #[.int .i64 x.keep,.int .i64 x.gen]) x:=⟨⟨[.int .i64 x.keep,.int .i64 x.gen],⟨[],[],[.int .i64 x.keep],[.int .i64 x.gen],rfl,rfl,⟨rfl,rfl,h_keep⟩,⟨rfl,rfl,h_gen⟩⟩,rfl⟩,List.nodup_nil,Wr.nil w⟩
instance:Flat DEffect:=⟨fun h=>Flat.flat (α:=Int×Int) h⟩
def zop (x:Nat×Nat):DEffect:=⟨(x.1:Int),(x.2:Int)⟩
def zfa (T:Tab):List DEffect:=T.map zop
theorem zdv (T:Tab):(zfa T).length=T.length:=by simp [zfa]
theorem zeh {T:Tab} {q:Nat} (h:q<(zfa T).length):(zfa T)[q]=zop (tbl T q):=by
 have h':q<T.length:=by rw [←zdv];exact h
 rw [←zgh h'];simp [zfa]
theorem zoU (T:Tab) (q:Nat) (v:Nat×Nat):zfa (T.set q v)=(zfa T).set q (zop v):=by simp [zfa,List.map_set]
theorem zeM {n:Nat} (h:n<6):2^n<64:=Nat.pow_lt_pow_right (n:=6) (by omega) h
theorem FL.updM {c:DCode} {T:Tab} {p h m:Nat} {out:List Nat} (hF:FL c T p h out) (hc:CodeR c) (hp:p<c.entry.length) {i j:Nat} (hi:zay c p i) (hj:j∈zav c i)
   (hm:∀ l,l<6→m.testBit l=false→LostP c (tK T) (tG T) p (fun l=>h.testBit l=true) i l):FL c T p h (out.set j (zau out j &&& aft c T i m)):=by
 have hil:=(zbe hc hp hi).1
 have hjl:=(zb2 hc hil hj).1
 refine ⟨by simp [hF.len],fun x hx=>?_,fun k l hk hl hb=>?_,fun l hl hb=>?_⟩
 · rcases zfp hx with rfl | hx
   · exact Nat.lt_of_le_of_lt Nat.and_le_left (hF.lt0 j)
   exact hF.lt x hx
 · rw [zbt (by rw [hF.len];exact hjl)] at hb
   split at hb
   · rename_i e
     subst e
     rw [Nat.testBit_and,Bool.and_eq_false_iff] at hb
     rcases hb with hb | hb
     · exact hF.snd j l hk hl hb
     rcases zhu.1 hb with h1 | ⟨h1,h2⟩
     · exact .gen hi hj h1
     exact .pass hi hj (hm l hl h2) h1
   exact hF.snd k l hk hl hb
 rw [zbt (by rw [hF.len];exact hjl)]
 split
 · rename_i e
   rw [Nat.testBit_and,e,hF.ent l hl hb];rfl
 exact hF.ent l hl hb
theorem znC {w W0 W1:World} {v0 v1:Value} {c:DCode} {T:Tab} {i m:Nat} (h0:Is W0 v0 (zaj c i)) (e0:Ext W0 w) (h1:Is W1 v1 (zfa T)) (e1:Ext W1 w) (hc:CodeR c) (hT:znx c T) (hi:i<c.ins.length) (hm:m<64) :
   CALL Tryz.prog 238 [v0,v1,.int .i64 (m:Int)] w fun r w'=>Ext w w'∧r=.int .i64 (aft c T i m:Nat):=by
 refine F238_call ?_
 unfold F238
 refine zbq h0 e0 fun w1 hx1 hA=>?_
 have hag4:=fun h=>zbB hc hi (.inl h)
 have hag6:=fun h=>zeg hc hi h
 have h8:=hc.1.procs8
 have haft:aft c T i m=if (zaj c i).op=6 then m ||| 2^agN c i else if (zaj c i).op=7 then zkD m (2^agN c i) else if (zaj c i).op=4 then (m &&& (tbl T (agN c i)).1) ||| (tbl T (agN c i)).2 else m:=rfl
 rw [haft]
 clear haft
 generalize agN c i=q at *
 generalize zaj c i=I at *
 refine zaa zaH ?_
 refine zac ty3 (zat hA) (Ext.refl _) fun _=>?_
 refine zaq ?_
 refine br (fun c6=>?_) (fun c6=>?_)
 · obtain ⟨ha,_,hq⟩:=hag6 (.inl c6)
   have hp:=zeM hq
   rw [if_pos c6]
   refine zaa zaP ?_
   refine zac ty3 (zaw hA) (Ext.refl _) fun _=>?_
   rw [ha]
   refine zcP (by kernel_rfl) zmD (by omega) ?_
   refine zdA (by omega) ?_
   refine zfd (by omega) (by omega) ?_
   exact ⟨hx1,rfl⟩
 rw [if_neg c6]
 refine zaq ?_
 refine br (fun c7=>?_) (fun c7=>?_)
 · obtain ⟨ha,_,hq⟩:=hag6 (.inr c7)
   have hp:=zeM hq
   rw [if_pos c7]
   refine zaa zaP ?_
   refine zac ty3 (zaw hA) (Ext.refl _) fun _=>?_
   rw [ha]
   refine zcP (by kernel_rfl) zmD (by omega) ?_
   refine zdA (by omega) ?_
   refine zhr (by omega) (by omega) ?_
   exact ⟨hx1,rfl⟩
 rw [if_neg c7]
 refine zaq ?_
 refine br (fun c4=>?_) (fun c4=>?_)
 · obtain ⟨ha,hq⟩:=hag4 c4
   rw [if_pos c4]
   have hx2:=zan w1
   generalize World.drew1 w1=w2 at *
   have hql:q<(zfa T).length:=by rw [zdv,hT.1];exact hq
   have hr:=hT.2 q
   have hx12:=hx1.trans hx2
   refine zaa zaP ?_
   refine zac ty3 (zaw hA) hx2 fun _=>?_
   rw [ha]
   refine zad zmV zhL h1 hql fun b1 o1 hE=>?_
   rw [zeh] at hE
   refine zaa zmW ?_
   refine zac ty3 (zgw hE) (e1.trans hx12) fun _=>?_
   refine zdl (n:=(tbl T q).1) (by omega) (by omega) ?_
   refine zaa zaP ?_
   refine zac ty3 (zaw hA) hx2 fun _=>?_
   rw [ha]
   refine zad zmV zhL h1 hql fun b2 o2 hE2=>?_
   rw [zeh] at hE2
   refine zaa zg2 ?_
   refine zac ty3 (zdu hE2) (e1.trans hx12) fun _=>?_
   have:=Nat.and_le_left (n:=m) (m:=(tbl T q).1)
   refine zfd (n:=(tbl T q).2) (by omega) (by omega) ?_
   exact ⟨hx12,rfl⟩
 rw [if_neg c4]
 exact ⟨hx1,rfl⟩
def F178 (a0 a1:Value) (w:World) (R:VW):Prop:=
 cL 156 [a0] w fun x6 w=>
 rD (Op.unary .not x6) w fun x7=>
 BR x7
 (R (iV 0) w)
 (cL 156 [a1] w fun x10 w=>
 rD (Op.unary .not x10) w fun x11=>
 BR x11
 (R (iV 0) w)
 (rB .sub 3 U0 T0 (iV 63) a1 w fun x15=>
 rB .and 3 T0 T0 a0 x15 w fun x16=>
 R x16 w))
def cfg178:Cfg:=⟨extL,[],[],[],[],[],[]⟩
theorem F178_call {a0 a1:Value} {w:World} {R:VW} (h:F178 a0 a1 w R):cL 178 [a0,a1] w R:=co (g:=cfg178) Tryz.func178 (by kernel_rfl) (by kernel_rfl) (by kernel_rfl) h
theorem zgj {w:World} {a:Nat} {b:Nat}   (ha:a<64) (hb:b<64) :
   CALL Tryz.prog 178 [.int .i64 (a:Int),.int .i64 (b:Int)] w fun r w'=>Ext w w'∧(r=.int .i64 ((a &&& (63-b):Nat):Int)):=by
 refine F178_call ?_
 unfold F178
 refine (zlB ).mono ?_
 rintro _ w1_ ⟨hx1_,rfl⟩
 refine zaA ?_
 refine br (fun c1=>?_) (fun c1=>?_)
 · refine ⟨hx1_,?_⟩
   first | rfl | (exfalso;omega)
 refine (zlB ).mono ?_
 rintro _ w2_ ⟨hx2_,rfl⟩
 refine zaA ?_
 refine br (fun c2=>?_) (fun c2=>?_)
 · refine ⟨(hx1_.trans hx2_),?_⟩
   first | rfl | (exfalso;omega)
 have e63:(63:Int)-(b:Int)=((63-b:Nat):Int):=by omega
 refine zbC (by unfold I64;omega) ?_
 rw [e63]
 refine zdl (by omega) (by omega) ?_
 refine ⟨(hx1_.trans hx2_),?_⟩
 first | rfl | (exfalso;omega)
theorem zfq {a b:Nat} (ha:a<64) (hb:b<64):a &&& (63-b)=zkD a b:=by
 refine Nat.eq_of_testBit_eq fun l=>?_
 rw [Nat.testBit_and,zed]
 cases h:a.testBit l
 · rfl
 have hl:=zgf ha h
 have:=Nat.testBit_two_pow_sub_succ (n:=6) (x:=b) hb l
 rw [show 2^6-(b+1)=63-b by omega] at this
 rw [this,decide_eq_true hl,Bool.true_and]
theorem zkH {w W0 W1:World} {v0 v1:Value} {c:DCode} {T:Tab} {i m:Nat} (h0:Is W0 v0 (zaj c i)) (e0:Ext W0 w) (h1:Is W1 v1 (zfa T)) (e1:Ext W1 w) (hc:CodeR c) (hT:znx c T) (hi:i<c.ins.length) (hm:m<64) :
   CALL Tryz.prog 235 [v0,v1,.int .i64 (m:Int)] w fun r w'=>Ext w w'∧r=.int .i64 (aft c T i m:Nat):=by
 refine F235_call ?_
 unfold F235
 refine zbq h0 e0 fun w1 hx1 hA=>?_
 have hag4:=fun h=>zbB hc hi (.inl h)
 have hag6:=fun h=>zeg hc hi h
 have h8:=hc.1.procs8
 have haft:aft c T i m=if (zaj c i).op=6 then m ||| 2^agN c i else if (zaj c i).op=7 then zkD m (2^agN c i) else if (zaj c i).op=4 then (m &&& (tbl T (agN c i)).1) ||| (tbl T (agN c i)).2 else m:=rfl
 rw [haft]
 clear haft
 generalize agN c i=q at *
 generalize zaj c i=I at *
 refine zaa zaH ?_
 refine zac ty3 (zat hA) (Ext.refl _) fun _=>?_
 refine zaq ?_
 refine br (fun c6=>?_) (fun c6=>?_)
 · obtain ⟨ha,_,hq⟩:=hag6 (.inl c6)
   have hp:=zeM hq
   rw [if_pos c6]
   refine zaa zaP ?_
   refine zac ty3 (zaw hA) (Ext.refl _) fun _=>?_
   rw [ha]
   refine (zeL (by omega)).mono ?_
   rintro _ w2 ⟨hx2,rfl⟩
   refine zfd (by omega) (by omega) ?_
   exact ⟨hx1.trans hx2,rfl⟩
 rw [if_neg c6]
 refine zaq ?_
 refine br (fun c7=>?_) (fun c7=>?_)
 · obtain ⟨ha,_,hq⟩:=hag6 (.inr c7)
   have hp:=zeM hq
   rw [if_pos c7]
   refine zaa zaP ?_
   refine zac ty3 (zaw hA) (Ext.refl _) fun _=>?_
   rw [ha]
   refine (zeL (by omega)).mono ?_
   rintro _ w2 ⟨hx2,rfl⟩
   refine (zgj hm hp).mono ?_
   rintro _ w3 ⟨hx3,rfl⟩
   exact ⟨(hx1.trans hx2).trans hx3,by rw [zfq hm hp]⟩
 rw [if_neg c7]
 refine zaq ?_
 refine br (fun c4=>?_) (fun c4=>?_)
 · obtain ⟨ha,hq⟩:=hag4 c4
   rw [if_pos c4]
   have hx2:=zan w1
   generalize World.drew1 w1=w2 at *
   have hql:q<(zfa T).length:=by rw [zdv,hT.1];exact hq
   have hr:=hT.2 q
   have hx12:=hx1.trans hx2
   refine zaa zaP ?_
   refine zac ty3 (zaw hA) hx2 fun _=>?_
   rw [ha]
   refine zad zmV zhL h1 hql fun b1 o1 hE=>?_
   rw [zeh] at hE
   refine zaa zmW ?_
   refine zac ty3 (zgw hE) (e1.trans hx12) fun _=>?_
   refine zdl (n:=(tbl T q).1) (by omega) (by omega) ?_
   refine zaa zaP ?_
   refine zac ty3 (zaw hA) hx2 fun _=>?_
   rw [ha]
   refine zad zmV zhL h1 hql fun b2 o2 hE2=>?_
   rw [zeh] at hE2
   refine zaa zg2 ?_
   refine zac ty3 (zdu hE2) (e1.trans hx12) fun _=>?_
   have:=Nat.and_le_left (n:=m) (m:=(tbl T q).1)
   refine zfd (n:=(tbl T q).2) (by omega) (by omega) ?_
   exact ⟨hx12,rfl⟩
 rw [if_neg c4]
 exact ⟨hx1,rfl⟩
def F137 (a0 a1:Value) (w:World) (R:VW):Prop:=
 NIL a0 <|
 rF 114 a0 0 w fun x9=>
 rF 32 x9 3 w fun x10=>
 rL 23 x10 w fun x11=>
 rX 23 x11 a1 w fun x13=>
 rL 3 x13 w fun x14=>
 LOOPI [5,6] [(Value.slice none 0 0),x14] w fun u3 w next3=>
 NIL a0 <|
 rF 114 a0 0 w fun x18=>
 rL 32 x18 w fun x19=>
 cL 134 [x19,a1] w fun x21 w=>
 rC (u3 6) x21 w fun x22=>
 BR x22
 (NIL a0 <|
 rF 114 a0 1 w fun x27=>
 rL 101 x27 w fun x28=>
 rX 101 x28 (u3 6) w fun x30=>
 rL 4 x30 w fun x31=>
 BR x31
 (oP (Instr.buildSlice 23 1 #[(0,(u3 6))]) w fun x34 w=>
 oP (Builtin.append_ #[23,23] 23 [(u3 5),x34].toArray) w fun x35 w=>
 rA (u3 6) (iV 1) w fun x24=>
 next3 [x35,x24] w)
 (rA (u3 6) (iV 1) w fun x24=>
 next3 [(u3 5),x24] w))
 (R (u3 5) w)
def cfg137:Cfg:=⟨extL,[],[(3,68719444064,[5,6])],[],[],[],[]⟩
theorem F137_call {a0 a1:Value} {w:World} {R:VW} (h:F137 a0 a1 w R):cL 137 [a0,a1] w R:=co (g:=cfg137) Tryz.func137 (by kernel_rfl) (by kernel_rfl) (by kernel_rfl) h
def F217 (a0 a1 a2 a3:Value) (w:World) (R:VW):Prop:=
 NIL a0 <|
 rF 114 a0 0 w fun x20=>
 rF 32 x20 4 w fun x21=>
 rL 30 x21 w fun x22=>
 rN 30 3 x22 w fun x23=>
 oP (Instr.makeSlice 23 x23 x23) w fun x24 w=>
 rN 23 3 x24 w fun x26=>
 LOOPI [27] [(iV 0)] w fun u3 w next3=>
 rC (u3 27) x26 w fun x28=>
 BR x28
 (rX 23 x24 (u3 27) w fun x32=>
 oS 3 x32 (iV 63) w fun w=>
 rA (u3 27) (iV 1) w fun x33=>
 next3 [x33] w)
 (NIL a0 <|
 rF 114 a0 0 w fun x37=>
 rF 32 x37 3 w fun x38=>
 rL 23 x38 w fun x39=>
 rX 23 x39 a2 w fun x41=>
 rL 3 x41 w fun x42=>
 rX 23 x24 x42 w fun x44=>
 oS 3 x44 a3 w fun w=>
 cL 137 [a0,a2] w fun x47 w=>
 LOOPI [12] [(Value.bool true)] w fun u10 w next10=>
 BR (u10 12)
 (rN 23 3 x47 w fun x50=>
 LOOPI [12,51] [(Value.bool false),(iV 0)] w fun u13 w next13=>
 rC (u13 51) x50 w fun x52=>
 BR x52
 (rX 23 x47 (u13 51) w fun x53=>
 rL 3 x53 w fun x54=>
 (fun w=>NIL a0 <|
 rF 114 a0 0 w fun x57=>
 rF 32 x57 4 w fun x58=>
 rL 30 x58 w fun x59=>
 rX 30 x59 x54 w fun x61=>
 rL 111 x61 w fun x62=>
 rX 23 x24 x54 w fun x66=>
 rL 3 x66 w fun x67=>
 cL 238 [x62,a1,x67] w fun x68 w=>
 cL 136 [a0,x54] w fun x71 w=>
 rN 23 3 x71 w fun x72=>
 LOOPI [12,73] [(u13 12),(iV 0)] w fun u17 w next17=>
 rC (u17 73) x72 w fun x74=>
 BR x74
 (rX 23 x71 (u17 73) w fun x75=>
 rL 3 x75 w fun x76=>
 (fun w=>rX 23 x24 x76 w fun x79=>
 rL 3 x79 w fun x80=>
 rB .and 3 T0 T0 x80 x68 w fun x82=>
 rX 23 x24 x76 w fun x85=>
 rL 3 x85 w fun x86=>
 rB .neq 3 T0 T0 x82 x86 w fun x87=>
 BR x87
 (rX 23 x24 x76 w fun x90=>
 rL 3 x90 w fun x91=>
 rB .and 3 T0 T0 x91 x68 w fun x93=>
 rX 23 x24 x76 w fun x94=>
 oS 3 x94 x93 w fun w=>
 rA (u17 73) (iV 1) w fun x95=>
 next17 [(Value.bool true),x95] w)
 (rA (u17 73) (iV 1) w fun x95=>
 next17 [(u17 12),x95] w)) (World.drew1 w))
 (rA (u13 51) (iV 1) w fun x96=>
 next13 [(u17 12),x96] w)) (World.drew1 w))
 (next10 [(u13 12)] w))
 (R x24 w))
def cfg217:Cfg:=⟨extL,[],[(3,17045652480,[27]),(10,158456325028528393712111374336,[12]),(13,158456325028526423387274399744,[12,51]),(17,79228153069531371854253658112,[12,73])],[(15,[0,1,2,3,4,5,6,7,8,9,10,11,12,13,14],0),(19,[0,1,2,3,4,5,6,7,8,9,10],0)],[],[],[]⟩
theorem F217_call {a0 a1 a2 a3:Value} {w:World} {R:VW} (h:F217 a0 a1 a2 a3 w R):cL 217 [a0,a1,a2,a3] w R:=co (g:=cfg217) Tryz.func217 (by kernel_rfl) (by kernel_rfl) (by kernel_rfl) h
open Rep (rep)
def zdE (c:DCode) (i:Nat):Prop:=∃ p,p<c.procs.length∧zay c p i
structure WL (W0:World) (b:Nat) (c:DCode):Prop where
 code:At W0 b 0 c
 live:At W0 b (0+5) (zbE c.ins.length (zdE c))
theorem zfV {n m:Nat} {p:Nat→Prop} (h:n≤m) (hp:∀ i,n≤i→i<m→¬p i):zbd m p=zbd n p:=by
 induction m with
 | zero=>(have:n=0:=by omega);subst this;rfl
 | succ m ih=>
   by_cases e:n=m+1
   · rw [e]
   rw [zeb (hp m (by omega) (by omega)),ih (by omega) fun i h1 h2=>hp i h1 (by omega)]
theorem zeN {w W0:World} {b p:Nat} {c:DCode} (hW:WL W0 b c) (e0:Ext W0 w) (hc:CodeR c) (hp:p<c.procs.length) :
   CALL Tryz.prog 137 [.pointer (some ⟨b,0,none⟩),.int .i64 (p:Int)] w fun r w'=>Ext w w'∧Own w.heap.size w' r (zaM (zbd c.ins.length (zay c p))):=by
 refine F137_call ?_
 unfold F137
 have hpe:p<c.entry.length:=by rw [hc.2.1.1];exact hp
 have hil:=hc.f.ins
 have h8:=hc.1.procs8
 obtain ⟨he1,he2,he3⟩:=zep hc hpe
 obtain ⟨hz1,hz2,hz3⟩:=zhN hc hpe
 have hlv:∀ i,zay c p i→eN c p≤i∧i≤zN c p:=fun i h=>by
   have:=zbe hc hpe h
   exact zkF hc this.1 hpe this.2
 refine NIL.mk rfl ?_
 refine zaa zaY ?_
 refine zaa zaT ?_
 refine zab zb6 (zam hW.code) e0 fun v11 h11=>?_
 refine zad u23 ty3 h11 hpe fun b1 o1 hA1=>?_
 rw [za8 hpe,he1] at hA1
 refine zac ty3 hA1 e0 fun _=>?_
 generalize hE:eN c p=E at *
 generalize hZ:zN c p=Z at *
 have h0:zbd E (zay c p)=[]:=by
   rw [zfV (n:=0) (Nat.zero_le _) fun i _ h2 h3=>by have:=hlv i h3;omega];rfl
 refine zas (Z+1-E) (fun k us w'=>∃ (v:Value),us=[v,.int .i64 ((E+k:Nat):Int)]∧E+k≤Z+1∧Ext w w'∧RowI w.heap.size w'.heap.size 3 w' v (zaM (zbd (E+k) (zay c p)))) 0 (Nat.zero_le _) ⟨_,rfl,by omega,Ext.refl _,by rw [Nat.add_zero,h0];exact zc0 _ _ _ _⟩ ?_
 rintro k mk u w2 hkm ⟨v,hu,hkl,hx2,hr2⟩
 obtain ⟨hu1,hu2⟩:=zb9 hu
 rw [hu1,hu2]
 have hx02:=e0.trans hx2
 have hs2:=hx2.size
 refine NIL.mk rfl ?_
 refine zaa zaY ?_
 refine zab zbu hW.code hx02 fun v19 h19=>?_
 refine (zcH h19 hx02 (by omega)).mono ?_
 rintro _ w3 ⟨hx3,rfl⟩
 rw [hz1]
 have hx03:=hx02.trans hx3
 refine zah ?_
 refine br (fun hlt=>?_) (fun hge=>?_)
 case refine_2=>
   have hk:E+k=Z+1:=by omega
   refine ⟨hx2.trans hx3,?_⟩
   rw [zfV (n:=Z+1) (by omega) fun i h1 _ h3=>by have:=hlv i h3;omega,←hk]
   exact (hr2.ext hx3).own.own
 have hk:E+k<c.ins.length:=by omega
 refine NIL.mk rfl ?_
 refine zaa zir ?_
 refine zab zcq hW.live hx03 fun v28 h28=>?_
 refine zad zcm ty4 (i:=E+k) h28 (by rw [zak];exact hk) fun b2 o2 hA2=>?_
 refine zax ty4 hA2 hx03 ?_
 have hmk:=zaI (n:=c.ins.length) (p:=zdE c) (i:=E+k)
 rw [zaL (by rw [zak];exact hk)] at hmk
 have hiff:zdE c (E+k)↔zay c p (E+k):=by
   constructor
   · rintro ⟨q,hq,hl⟩
     have h1:=zbe hc (by rw [hc.2.1.1];exact hq) hl
     have h2:=ziQ hc (p:=p) (i:=E+k) hpe (by omega) (by omega)
     have:q=p:=by omega
     rwa [this] at hl
   exact fun h=>⟨p,hp,h⟩
 have hsl:=zaZ (n:=E+k) (p:=zay c p)
 refine zbI (fun hf=>?_) (fun hf=>?_)
 · refine zcb (lo2:=w3.heap.size) (hi2:=w3.heap.size) (x:=((E+k:Nat):Int)) u23 ty3 z3 zc3 (by decide) (hr2.ext hx3) (by have:=hx3.size;omega) (ownI_int _ _ (by unfold I64;omega)) (by have:=hx3.size;omega) (by have:=hx3.size;omega) (by rw [zao,zae];omega) (by rw [zae];omega) fun v54 w9 hc9 hr9=>?_
   refine zag (by omega) ?_
   refine ⟨mk-1,by omega,k+1,by omega,v54,rfl,by omega,(hx2.trans hx3).chgI hc9 (by omega),?_⟩
   rw [←Nat.add_assoc,zea (hiff.1 (hmk.1 hf).2),zcc]
   exact hr9
 refine zag (by omega) ?_
 refine ⟨mk-1,by omega,k+1,by omega,v,rfl,by omega,hx2.trans hx3,?_⟩
 rw [←Nat.add_assoc,zeb fun h=>by rw [hmk.2 ⟨hk,hiff.2 h⟩] at hf;cases hf]
 exact (hr2.ext hx3).mono (Nat.le_refl _) hx3.size
theorem zcD {w:World} {n:Nat} {K:Value→World→Prop} (h0:0<n) (hn:n≤1000000)
   (k:∀ w',Ext w w'→Mine [w.heap.size] w' (.slice (some ⟨w.heap.size,0,none⟩) n n) (zaM (List.replicate n 0))→K (.slice (some ⟨w.heap.size,0,none⟩) n n) w'):OP Tryz.prog (Instr.makeSlice 23 (.int .i64 (n:Int)) (.int .i64 (n:Int))) w K:=
 ziL (α:=Int) u23 ty3 rfl rfl zrt (by omega) (by omega) fun w2 hx2 hr2=>by
   refine k w2 hx2 ?_
   obtain ⟨F,hM,hF⟩:=hr2.own
   obtain ⟨b,o,cap,hv,hF2⟩:=zds hM (by intro e;have:=congrArg List.length e;simp at this;omega)
   simp only [Value.slice.injEq,Option.some.injEq,Addr.mk.injEq,List.cons.injEq,and_true] at hv
   obtain ⟨⟨hb,ho⟩,_⟩:=hv
   rw [←hb] at hF2
   rw [hF2] at hM
   have e:zaM (List.replicate n 0)=List.replicate n (RepZ.zv:Int):=by simp only [zaM,List.map_replicate];rfl
   rw [e];exact hM
theorem zgk {P:Program} {w:World} {K:Value→Prop} {t ty e:TypeId} {a:Option Addr} {n c:Nat} (ht:P.underlying t=some (.slice e)) (k:K (.int .i64 (n:Int))) :
   RD P (Builtin.len_ #[t] ty [Value.slice a n c].toArray) w K:=za4 (fun w' _=>by simp [Builtin.len_,run_underlying ht];rfl) k
structure FW (w1 w:World) (g n:Nat) (out:List Nat):Prop where
 ext:Ext w1 w
 mine:Mine [g] w (.slice (some ⟨g,0,none⟩) n n) (zaM out)
 g0:w1.heap.size≤g
section
variable {w1 w w':World} {g n:Nat} {out:List Nat}
theorem FW.step (h:FW w1 w g n out) (hx:Ext w w'):FW w1 w' g n out:=⟨h.ext.trans hx,h.mine.ext hx,h.g0⟩
theorem zdm (hc:Chg [g] w w'):ChgI g (g+1) w w':=hc.toI fun b hb=>by simp only [List.mem_cons,List.not_mem_nil,or_false] at hb;omega
theorem FW.set {i v:Nat} (h:FW w1 w g n out) (hc:Chg [g] w w') (hm:Mine [g] w' (.slice (some ⟨g,0,none⟩) n n) ((zaM out).set i (v:Int))):FW w1 w' g n (out.set i v):=
 ⟨h.ext.chgI (zdm hc) h.g0,by rw [zef];exact hm,h.g0⟩
theorem FW.lt (h:FW w1 w g n out):g<w.heap.size:=h.mine.lt g (by simp)
theorem FW.own (h:FW w1 w g n out):Own w1.heap.size w (.slice (some ⟨g,0,none⟩) n n) (zaM out):=⟨[g],h.mine,fun b hb=>by simp only [List.mem_cons,List.not_mem_nil,or_false] at hb;have:=h.g0;omega⟩
end
theorem zbh {w:World} {v:Nat} (h:v<9223372036854775808):Mine [] w (.int .i64 (v:Int)) (v:Int):=za7 (by unfold I64;omega)
def fil (n k:Nat):List Nat:=List.replicate k 63++List.replicate (n-k) 0
theorem zkI {n k:Nat} (h:k≤n):(fil n k).length=n:=by simp [fil];omega
theorem zkJ {n k:Nat} (h:k<n):(fil n k).set k 63=fil n (k+1):=by
 obtain ⟨m,hm⟩:∃ m,n-k=m+1:=⟨n-k-1,by omega⟩
 unfold fil
 rw [List.set_append_right _ _ (by simp),hm,List.length_replicate,Nat.sub_self,List.replicate_succ,List.set_cons_zero,List.replicate_succ',show n-(k+1)=m by omega]
 simp
theorem ziU (n:Nat):fil n n=List.replicate n 63:=by simp [fil]
structure FP (c:DCode) (T:Tab) (p h:Nat) (out0 L:List Nat) (k:Nat) (ag:Bool) (out:List Nat):Prop where
 fl:FL c T p h out
 yes:ag=true→out.sum<out0.sum
 no:ag=false→out=out0∧∀ i∈L.take k,zq4 c T out0 i
structure FQ (c:DCode) (T:Tab) (p h:Nat) (out0 L:List Nat) (k i q:Nat) (ag:Bool) (out:List Nat):Prop where
 fl:FL c T p h out
 yes:ag=true→out.sum<out0.sum
 no:ag=false→out=out0∧(∀ i∈L.take k,zq4 c T out0 i)∧∀ j∈(zav c i).take q,zau out0 j &&& aft c T i (zau out0 i)=zau out0 j
section
variable {c:DCode} {T:Tab} {p h k i q m:Nat} {out0 L out:List Nat} {ag:Bool}
theorem FP.enter (H:FP c T p h out0 L k ag out) (i:Nat):FQ c T p h out0 L k i 0 ag out:=⟨H.fl,H.yes,fun e=>⟨(H.no e).1,(H.no e).2,by simp⟩⟩
theorem FQ.set (H:FQ c T p h out0 L k i q ag out) (hc:CodeR c) (hp:p<c.entry.length) (hi:zay c p i) (hq:q<(zav c i).length) (hm:∀ l,l<6→m.testBit l=false→LostP c (tK T) (tG T) p (fun l=>h.testBit l=true) i l)
   (hne:zau out (zav c i)[q] &&& aft c T i m≠zau out (zav c i)[q]):FQ c T p h out0 L k i (q+1) true (out.set (zav c i)[q] (zau out (zav c i)[q] &&& aft c T i m)):=by
 have hj:=List.getElem_mem hq
 have hjl:=(zb2 hc (zbe hc hp hi).1 hj).1
 refine ⟨H.fl.updM hc hp hi hj hm,fun _=>?_,fun e=>by cases e⟩
 have h1:=zgg (l:=out) (i:=(zav c i)[q]) (v:=zau out (zav c i)[q] &&& aft c T i m) (by rw [H.fl.len];exact hjl)
 have h2:=zpD hne
 cases ag with
 | true=>have:=H.yes rfl;omega
 | false=>rw [(H.no rfl).1] at h1 h2 ⊢;omega
theorem FQ.skip (H:FQ c T p h out0 L k i q ag out) (hq:q<(zav c i).length) (hz:ag=false→m=zau out0 i) (he:zau out (zav c i)[q] &&& aft c T i m=zau out (zav c i)[q]):FQ c T p h out0 L k i (q+1) ag out:=by
 refine ⟨H.fl,H.yes,fun e=>⟨(H.no e).1,(H.no e).2.1,fun j hj=>?_⟩⟩
 rw [List.take_succ_eq_append_getElem hq] at hj
 rcases List.mem_append.1 hj with hj | hj
 · exact (H.no e).2.2 j hj
 simp only [List.mem_cons,List.not_mem_nil,or_false] at hj
 rw [(H.no e).1,hz e] at he
 rw [hj];exact he
theorem FQ.done (H:FQ c T p h out0 L k i q ag out) (hk:k<L.length) (hi:L[k]=i) (hq:(zav c i).length≤q):FP c T p h out0 L (k+1) ag out:=by
 refine ⟨H.fl,H.yes,fun e=>⟨(H.no e).1,fun i' hi'=>?_⟩⟩
 rw [List.take_succ_eq_append_getElem hk] at hi'
 rcases List.mem_append.1 hi' with h1 | h1
 · exact (H.no e).2.1 i' h1
 simp only [List.mem_cons,List.not_mem_nil,or_false] at h1
 rw [h1,hi]
 have:=(H.no e).2.2
 rw [List.take_of_length_le hq] at this
 exact this
end
theorem zkK {w W0 W1:World} {b p h:Nat} {v1:Value} {c:DCode} {T:Tab} (hW:WL W0 b c) (e0:Ext W0 w) (h1:Is W1 v1 (zfa T)) (e1:Ext W1 w) (hc:CodeR c) (hT:znx c T) (hp:p<c.procs.length) (hh:h<64) :
   CALL Tryz.prog 217 [.pointer (some ⟨b,0,none⟩),v1,.int .i64 (p:Int),.int .i64 (h:Int)] w fun r w'=>Ext w w'∧Own w.heap.size w' r (zaM (zbF c T p h)):=by
 refine F217_call ?_
 unfold F217
 have hpe:p<c.entry.length:=by rw [hc.2.1.1];exact hp
 have hil:=hc.f.ins
 obtain ⟨he1,he2,he3⟩:=zep hc hpe
 have hst:=FL.start (T:=T) hc hpe hh
 have hfin:=fun {out}=>FL.fin (c:=c) (T:=T) (p:=p) (h:=h) (out:=out)
 refine NIL.mk rfl ?_
 refine zaa zaY ?_
 refine zaa zaD ?_
 refine zab zco (zai hW.code) e0 fun v22 h22=>?_
 refine zaf u30 h22 ?_
 have hn:c.ins.length=c.ins.length:=rfl
 generalize hnn:c.ins.length=n at hn
 rw [hnn] at he2 hst hil
 refine zcD (by omega) (by omega) fun w2 hx2 hM2=>?_
 have hs2:=hx2.size
 generalize hg:w.heap.size=g at *
 have hF2:FW w w2 g n (fil n 0):=⟨hx2,by simpa [fil] using hM2,by omega⟩
 refine zgk u23 ?_
 refine zas n (fun k us w'=>us=[.int .i64 (k:Int)]∧k≤n∧FW w w' g n (fil n k)) 0 (Nat.zero_le _) ⟨rfl,Nat.zero_le _,hF2⟩ ?_
 rintro k mk u w3 hkm ⟨hu,hkl,hF3⟩
 simp only [List.map_cons,List.map_nil,List.cons.injEq,and_true] at hu
 rw [hu]
 refine zah ?_
 refine br (fun hlt=>?_) (fun hge=>?_)
 · have hk:k<n:=by omega
   refine zbk (α:=Int) rfl u23 ty3 hk ?_
   refine zaW (α:=Int) rfl ty3 hF3.mine (by rw [zae,zkI hkl]) hk (zbh (v:=63) (by omega)) fun w4 hc4 hm4=>?_
   have hF4:=hF3.set (v:=63) hc4 hm4
   rw [zkJ hk] at hF4
   refine zag (by omega) ?_
   exact ⟨mk-1,by omega,k+1,by omega,rfl,by omega,hF4⟩
 have hk:k=n:=by omega
 rw [hk,ziU] at hF3
 clear hF2 hM2 hu hkm
 refine NIL.mk rfl ?_
 refine zaa zaY ?_
 refine zaa zaT ?_
 refine zab zb6 (zam hW.code) (e0.trans hF3.ext) fun v39 h39=>?_
 refine zad u23 ty3 h39 hpe fun b1 o1 hA1=>?_
 rw [za8 hpe,he1] at hA1
 refine zac ty3 hA1 (e0.trans hF3.ext) fun _=>?_
 refine zbk (α:=Int) rfl u23 ty3 he2 ?_
 refine zaW (α:=Int) rfl ty3 hF3.mine (by rw [zae];simp) he2 (zbh (v:=h) (by omega)) fun w4 hc4 hm4=>?_
 have hF4:=hF3.set (v:=h) hc4 hm4
 refine (zeN hW (e0.trans hF4.ext) hc hp).mono ?_
 rintro v47 w5 ⟨hx5,ho5⟩
 have hF5:=hF4.step hx5
 have hg4:=hF4.lt
 have hL:∀ i∈zbd c.ins.length (zay c p),zay c p i:=fun i hi=>(zaQ.1 hi).2
 have hL2:∀ i,zay c p i→i∈zbd c.ins.length (zay c p):=fun i hi=>zaQ.2 ⟨(zbe hc hpe hi).1,hi⟩
 have hLl:(zbd c.ins.length (zay c p)).length≤1500:=Nat.le_trans zaZ (by rw [hnn];omega)
 generalize zbd c.ins.length (zay c p)=L at *
 generalize (List.replicate n 63).set (eN c p) h=out at hst hF5
 have hO5:=ho5.toI
 generalize hlo:w4.heap.size=lo at *
 generalize hhi:w5.heap.size=hi at *
 refine LOOPI.mk (fun m us w'=>∃ (ag:Bool) (out:List Nat),us=[.bool ag]∧m=out.sum+(if ag then 1 else 0)∧FW w w' g n out∧OwnI lo hi w' v47 (zaM L)∧FL c T p h out∧(ag=false→∀ i,zay c p i→zq4 c T out i)) (out.sum+1) ⟨true,out,rfl,rfl,hF5,hO5,hst,fun e=>by cases e⟩ ?_
 rintro m u w6 ⟨ag,out,hu,hm,hF6,hO6,hfl,hsh⟩
 simp only [List.map_cons,List.map_nil,List.cons.injEq,and_true] at hu
 rw [hu]
 refine zbI (fun hag=>?_) (fun hag=>?_)
 case refine_2=>
   have:=hfin hfl hc hpe (hsh hag)
   rw [←this]
   have hoo:=hF6.own
   rw [hg] at hoo
   exact ⟨hF6.ext,hoo⟩
 rw [hag,if_pos rfl] at hm
 refine zaf u23 hO6.is ?_
 rw [zae]
 refine zas L.length (fun k us w'=>∃ (ag:Bool) (out':List Nat),us=[.bool ag,.int .i64 (k:Int)]∧k≤L.length∧FW w w' g n out'∧OwnI lo hi w' v47 (zaM L)∧FP c T p h out L k ag out') 0 (Nat.zero_le _) ⟨false,out,rfl,Nat.zero_le _,hF6,hO6,hfl,fun e=>(by cases e),fun _=>⟨rfl,by simp⟩⟩ ?_
 rintro k mk u w7 hkm ⟨ag7,out7,hu,hkl,hF7,hO7,hP7⟩
 obtain ⟨hu1,hu2⟩:=zb9 hu;clear hu
 rw [hu1,hu2]
 refine zah ?_
 refine br (fun hlt=>?_) (fun hge=>?_)
 case refine_2=>
   refine ⟨out7.sum+(if ag7 then 1 else 0),?_,ag7,out7,rfl,rfl,hF7,hO7,hP7.fl,fun e i hi=>?_⟩
   · cases ag7 with
     | true=>have:=hP7.yes rfl;simp;omega
     | false=>rw [(hP7.no rfl).1];simp;omega
   have:=hP7.no e
   rw [this.1]
   exact this.2 i (by rw [List.take_of_length_le (by omega)];exact hL2 i hi)
 have hk:k<L.length:=by omega
 refine zad u23 ty3 (i:=k) hO7.is (by rw [zae];exact hk) fun b2 o2 hA2=>?_
 rw [zaK] at hA2
 refine zac ty3 hA2 (Ext.refl _) fun _=>?_
 generalize hix:L[k]=i at *
 have hiv:zay c p i:=hL i (by rw [←hix];exact List.getElem_mem hk)
 have hin:=(zbe hc hpe hiv).1
 have hx8:=zan w7
 have hF8:=hF7.step hx8
 have hO8:=hO7.ext hx8
 generalize World.drew1 w7=w8 at *
 refine NIL.mk rfl ?_
 refine zaa zaY ?_
 refine zaa zaD ?_
 refine zab zco (zai hW.code) (e0.trans hF8.ext) fun v59 h59=>?_
 refine zad u30 zaS h59 hin fun b3 o3 hA3=>?_
 rw [zaG] at hA3
 refine zab zaS hA3 (e0.trans hF8.ext) fun v62 h62=>?_
 have hl7:=hP7.fl.len
 refine zad u23 ty3 (i:=i) hF8.mine.is (by rw [zae,hl7];exact hin) fun b4 o4 hA4=>?_
 rw [zaJ] at hA4
 refine zac ty3 hA4 (Ext.refl _) fun _=>?_
 have hm64:=hP7.fl.lt0 i
 have hmb:∀ l,l<6→(zau out7 i).testBit l=false→LostP c (tK T) (tG T) p (fun l=>h.testBit l=true) i l:=fun l hl hb=>hP7.fl.snd i l hin hl hb
 have hmz:ag7=false→zau out7 i=zau out i:=fun e=>by rw [(hP7.no e).1]
 generalize zau out7 i=mm at *
 refine (znC h62 (e0.trans hF8.ext) h1 (e1.trans hF8.ext) hc hT hin hm64).mono ?_
 rintro _ w9 ⟨hx9,rfl⟩
 have hF9:=hF8.step hx9
 have hO9:=hO8.ext hx9
 have haf:=zpC hc hT hin hm64
 refine (zhp hW.code (e0.trans hF9.ext) hc hin).mono ?_
 rintro v71 w10 ⟨hx10,ho10⟩
 have hF10:=hF9.step hx10
 have hO10:=hO9.ext hx10
 have hg9:=hF9.lt
 have hN10:=ho10.toI
 have hl2:=zdP c i
 refine zaf u23 ho10.is ?_
 rw [zae]
 have hQ10:=hP7.enter i
 refine zas (zav c i).length (fun q us w'=>∃ (ag:Bool) (out':List Nat),us=[.bool ag,.int .i64 (q:Int)]∧q≤(zav c i).length∧FW w w' g n out'∧OwnI lo hi w' v47 (zaM L)∧OwnI w9.heap.size w10.heap.size w' v71 (zaM (zav c i))∧FQ c T p h out L k i q ag out'∧(ag=false→mm=zau out i)) 0 (Nat.zero_le _) ⟨ag7,out7,rfl,Nat.zero_le _,hF10,hO10,hN10,hQ10,hmz⟩ ?_
 rintro q mq u w11 hqm ⟨ag11,out11,hu,hql,hF11,hO11,hN11,hQ11,hz11⟩
 obtain ⟨hu1,hu2⟩:=zb9 hu
 rw [hu1,hu2]
 refine zah ?_
 refine br (fun hlt=>?_) (fun hge=>?_)
 case refine_2=>
   refine zag (by omega) ?_
   exact ⟨mk-1,by omega,k+1,by omega,ag11,out11,rfl,by omega,hF11,hO11,hQ11.done hk hix (by omega)⟩
 have hq:q<(zav c i).length:=by omega
 refine zad u23 ty3 (i:=q) hN11.is (by rw [zae];exact hq) fun b5 o5 hA5=>?_
 rw [zaK] at hA5
 refine zac ty3 hA5 (Ext.refl _) fun _=>?_
 have hx12:=zan w11
 have hF12:=hF11.step hx12
 have hO12:=hO11.ext hx12
 have hN12:=hN11.ext hx12
 generalize World.drew1 w11=w12 at *
 have hj:=zb2 hc hin (List.getElem_mem hq)
 have hl11:=hQ11.fl.len
 have hset:=hQ11.set (m:=mm) hc hpe hiv hq hmb
 have hskip:=hQ11.skip (m:=mm) hq hz11
 have hj64:=hQ11.fl.lt0 (zav c i)[q]
 have hjn:=hj.1
 rw [hnn] at hjn
 generalize (zav c i)[q]=j at *
 have hrd:∀ {w':World} {K:Value→Prop} (hF:FW w w' g n out11) (k:K (.int .i64 (zau out11 j:Int))),RD Tryz.prog (Instr.indexAt 23 (.slice (some ⟨g,0,none⟩) n n) (.int .i64 (j:Int))) w' fun x37=>RD Tryz.prog (Instr.loadAt 3 x37) w' K:=fun hF k=>by
   refine zad u23 ty3 (i:=j) hF.mine.is (by rw [zae,hl11];exact hj.1) fun b1 o1 hA1=>?_
   rw [zaJ] at hA1
   exact zac ty3 hA1 (Ext.refl _) fun _=>k
 refine hrd hF12 ?_
 refine zdl (by omega) (by omega) ?_
 refine hrd hF12 ?_
 refine zaz ?_
 refine br (fun hne=>?_) (fun heq=>?_)
 · have hne':zau out11 j &&& aft c T i mm≠zau out11 j:=fun e=>hne (by rw [e])
   refine hrd hF12 ?_
   refine zdl (by omega) (by omega) ?_
   refine zbk (α:=Int) rfl u23 ty3 hjn ?_
   have hvl:=Nat.and_le_left (n:=zau out11 j) (m:=aft c T i mm)
   refine zaW (α:=Int) rfl ty3 hF12.mine (by rw [zae,hl11,hnn]) hjn (zbh (v:=zau out11 j &&& aft c T i mm) (by omega)) fun w13 hc13 hm13=>?_
   have hF13:=hF12.set (v:=zau out11 j &&& aft c T i mm) hc13 hm13
   have hc13':=zdm hc13
   refine zag (by omega) ?_
   exact ⟨mq-1,by omega,q+1,by omega,true,_,rfl,by omega,hF13,hO12.chg hc13' (by omega),hN12.chg hc13' (by omega),hset hne',fun e=>by cases e⟩
 refine zag (by omega) ?_
 exact ⟨mq-1,by omega,q+1,by omega,ag11,out11,rfl,by omega,hF12,hO12,hN12,hskip (Int.ofNat_inj.1 (Decidable.not_not.1 heq)),hz11⟩
def F210 (a0 a1 a2 a3:Value) (w:World) (R:VW):Prop:=
 oP (Instr.box 32 a0) w fun x4 w=>
 rF 32 x4 4 w fun x18=>
 rL 30 x18 w fun x19=>
 rN 30 3 x19 w fun x20=>
 oP (Instr.makeSlice 23 x20 x20) w fun x21 w=>
 LOOPI [10] [(iV 0)] w fun u3 w next3=>
 rN 23 3 x21 w fun x24=>
 rC (u3 10) x24 w fun x25=>
 BR x25
 (rX 23 x21 (u3 10) w fun x30=>
 oS 3 x30 (iV 63) w fun w=>
 rA (u3 10) (iV 1) w fun x27=>
 next3 [x27] w)
 (rF 32 x4 3 w fun x31=>
 rL 23 x31 w fun x32=>
 rX 23 x32 a2 w fun x34=>
 rL 3 x34 w fun x35=>
 rX 23 x21 x35 w fun x39=>
 oS 3 x39 a3 w fun w=>
 rL 32 x4 w fun x40=>
 cL 234 [x40,a2] w fun x42 w=>
 cL 176 [x42] w fun x43 w=>
 LOOPI [13] [(Value.bool true)] w fun u10 w next10=>
 BR (u10 13)
 (LOOPI [13,14] [(Value.bool false),(iV 0)] w fun u13 w next13=>
 rN 23 3 x43 w fun x47=>
 rC (u13 14) x47 w fun x48=>
 BR x48
 ((fun w=>rL 32 x4 w fun x51=>
 rX 23 x43 (u13 14) w fun x54=>
 rL 3 x54 w fun x55=>
 cL 179 [x51,x55] w fun x56 w=>
 LOOPI [13,16] [(u13 13),(iV 0)] w fun u17 w next17=>
 rN 23 3 x56 w fun x59=>
 rC (u17 16) x59 w fun x60=>
 BR x60
 ((fun w=>rX 23 x56 (u17 16) w fun x66=>
 rL 3 x66 w fun x67=>
 rX 23 x21 x67 w fun x68=>
 rL 3 x68 w fun x69=>
 rF 32 x4 4 w fun x70=>
 rL 30 x70 w fun x71=>
 rX 23 x43 (u13 14) w fun x74=>
 rL 3 x74 w fun x75=>
 rX 30 x71 x75 w fun x76=>
 rL 111 x76 w fun x77=>
 rX 23 x43 (u13 14) w fun x82=>
 rL 3 x82 w fun x83=>
 rX 23 x21 x83 w fun x84=>
 rL 3 x84 w fun x85=>
 (fun w_=>cL 235 [x77,a1,x85] w_ fun x86 w=>
 Ext w_ w ∧
 rB .and 3 T0 T0 x69 x86 w fun x87=>
 rX 23 x56 (u17 16) w fun x92=>
 rL 3 x92 w fun x93=>
 rX 23 x21 x93 w fun x94=>
 rL 3 x94 w fun x95=>
 rB .neq 3 T0 T0 x87 x95 w fun x96=>
 BR x96
 (rX 23 x56 (u17 16) w fun x100=>
 rL 3 x100 w fun x101=>
 rX 23 x21 x101 w fun x103=>
 oS 3 x103 x87 w fun w=>
 rA (u17 16) (iV 1) w fun x62=>
 next17 [(Value.bool true),x62] w)
 (rA (u17 16) (iV 1) w fun x62=>
 next17 [(u17 13),x62] w)) w) (World.drew1 w))
 (rA (u13 14) (iV 1) w fun x50=>
 next13 [(u17 13),x50] w)) (World.drew1 w))
 (next10 [(u13 13)] w))
 (R x21 w))
def cfg210:Cfg:=⟨extL,[],[(3,2143290368,[10]),(10,20282409603651670406355065495552,[13]),(13,20282409603651670388762879451136,[13,14]),(17,20282409603651526308759175634944,[13,16])],[(15,[0,1,2,3,4,5,6],0),(19,[0,1,2,3,4,5,6,7,8,9,10,11,12,13,14,15,16,17,18,19,20,21,22,23,24,25],8388608)],[],[],[]⟩
theorem F210_call {a0 a1 a2 a3:Value} {w:World} {R:VW} (h:F210 a0 a1 a2 a3 w R):cL 210 [a0,a1,a2,a3] w R:=co (g:=cfg210) Tryz.func210 (by kernel_rfl) (by kernel_rfl) (by kernel_rfl) h
open Rep (rep)
theorem zgl {w W0 W1:World} {p h:Nat} {v0 v1:Value} {c:DCode} {T:Tab} (h0:Is W0 v0 c) (e0:Ext W0 w) (h1:Is W1 v1 (zfa T)) (e1:Ext W1 w) (hc:CodeR c) (hT:znx c T) (hp:p<c.procs.length) (hh:h<64) :
   CALL Tryz.prog 210 [v0,v1,.int .i64 (p:Int),.int .i64 (h:Int)] w fun r w'=>Ext w w'∧Own w.heap.size w' r (zaM (zbF c T p h)):=by
 refine F210_call ?_
 unfold F210
 have hpe:p<c.entry.length:=by rw [hc.2.1.1];exact hp
 have hil:=hc.f.ins
 obtain ⟨he1,he2,he3⟩:=zep hc hpe
 have hst:=FL.start (T:=T) hc hpe hh
 have hfin:=fun {out}=>FL.fin (c:=c) (T:=T) (p:=p) (h:=h) (out:=out)
 refine zbq h0 e0 fun w1 hx1 hA=>?_
 have hs1:=hx1.size
 refine zaa zaD ?_
 refine zab zco (zai hA) (Ext.refl _) fun v22 h22=>?_
 refine zaf u30 h22 ?_
 have hn:c.ins.length=c.ins.length:=rfl
 generalize hnn:c.ins.length=n at hn
 rw [hnn] at he2 hst hil
 refine zcD (by omega) (by omega) fun w2 hx2 hM2=>?_
 have hs2:=hx2.size
 generalize hg:w1.heap.size=g at *
 have hF2:FW w1 w2 g n (fil n 0):=⟨hx2,by simpa [fil] using hM2,by omega⟩
 refine zas n (fun k us w'=>us=[.int .i64 (k:Int)]∧k≤n∧FW w1 w' g n (fil n k)) 0 (Nat.zero_le _) ⟨rfl,Nat.zero_le _,hF2⟩ ?_
 rintro k mk u w3 hkm ⟨hu,hkl,hF3⟩
 simp only [List.map_cons,List.map_nil,List.cons.injEq,and_true] at hu
 rw [hu]
 refine zgk u23 ?_
 refine zah ?_
 refine br (fun hlt=>?_) (fun hge=>?_)
 · have hk:k<n:=by omega
   refine zbk (α:=Int) rfl u23 ty3 hk ?_
   refine zaW (α:=Int) rfl ty3 hF3.mine (by rw [zae,zkI hkl]) hk (zbh (v:=63) (by omega)) fun w4 hc4 hm4=>?_
   have hF4:=hF3.set (v:=63) hc4 hm4
   rw [zkJ hk] at hF4
   refine zag (by omega) ?_
   exact ⟨mk-1,by omega,k+1,by omega,rfl,by omega,hF4⟩
 have hk:k=n:=by omega
 rw [hk,ziU] at hF3
 clear hF2 hM2 hu hkm
 refine zaa zaT ?_
 refine zab zb6 (zam hA) hF3.ext fun v39 h39=>?_
 refine zad u23 ty3 h39 hpe fun b1 o1 hA1=>?_
 rw [za8 hpe,he1] at hA1
 refine zac ty3 hA1 hF3.ext fun _=>?_
 refine zbk (α:=Int) rfl u23 ty3 he2 ?_
 refine zaW (α:=Int) rfl ty3 hF3.mine (by rw [zae];simp) he2 (zbh (v:=h) (by omega)) fun w4 hc4 hm4=>?_
 have hF4:=hF3.set (v:=h) hc4 hm4
 refine zab zbu hA hF4.ext fun v40 h40=>?_
 refine (zdQ h40 hF4.ext hc hpe).mono ?_
 rintro v42 w5 ⟨hx5,ho5⟩
 have hF5:=hF4.step hx5
 refine (zdt ho5.is (Ext.refl _) (by rw [zak,hnn];omega)).mono ?_
 rintro v43 w5b ⟨hx5b,ho5b⟩
 rw [zak,zeK] at ho5b
 have hF5:=hF5.step hx5b
 have hg4:=hF4.lt
 have hg5:g<w5.heap.size:=by have:=hx5.size;omega
 have hL:∀ i∈zbd c.ins.length (zay c p),zay c p i:=fun i hi=>(zaQ.1 hi).2
 have hL2:∀ i,zay c p i→i∈zbd c.ins.length (zay c p):=fun i hi=>zaQ.2 ⟨(zbe hc hpe hi).1,hi⟩
 have hLl:(zbd c.ins.length (zay c p)).length≤1500:=Nat.le_trans zaZ (by rw [hnn];omega)
 generalize zbd c.ins.length (zay c p)=L at *
 generalize (List.replicate n 63).set (eN c p) h=out at hst hF5
 have hO5:=ho5b.toI
 generalize hlo:w5.heap.size=lo at *
 generalize hhi:w5b.heap.size=hi at *
 refine LOOPI.mk (fun m us w'=>∃ (ag:Bool) (out:List Nat),us=[.bool ag]∧m=out.sum+(if ag then 1 else 0)∧FW w1 w' g n out∧OwnI lo hi w' v43 (zaM L)∧FL c T p h out∧(ag=false→∀ i,zay c p i→zq4 c T out i)) (out.sum+1) ⟨true,out,rfl,rfl,hF5,hO5,hst,fun e=>by cases e⟩ ?_
 rintro m u w6 ⟨ag,out,hu,hm,hF6,hO6,hfl,hsh⟩
 simp only [List.map_cons,List.map_nil,List.cons.injEq,and_true] at hu
 rw [hu]
 refine zbI (fun hag=>?_) (fun hag=>?_)
 case refine_2=>
   have:=hfin hfl hc hpe (hsh hag)
   rw [←this]
   exact ⟨hx1.trans hF6.ext,hF6.own.mono (by omega)⟩
 rw [hag,if_pos rfl] at hm
 refine zas L.length (fun k us w'=>∃ (ag:Bool) (out':List Nat),us=[.bool ag,.int .i64 (k:Int)]∧k≤L.length∧FW w1 w' g n out'∧OwnI lo hi w' v43 (zaM L)∧FP c T p h out L k ag out') 0 (Nat.zero_le _) ⟨false,out,rfl,Nat.zero_le _,hF6,hO6,hfl,fun e=>(by cases e),fun _=>⟨rfl,by simp⟩⟩ ?_
 rintro k mk u w7 hkm ⟨ag7,out7,hu,hkl,hF7,hO7,hP7⟩
 obtain ⟨hu1,hu2⟩:=zb9 hu;clear hu
 rw [hu1,hu2]
 refine zaf u23 hO7.is ?_
 rw [zae]
 refine zah ?_
 refine br (fun hlt=>?_) (fun hge=>?_)
 case refine_2=>
   refine ⟨out7.sum+(if ag7 then 1 else 0),?_,ag7,out7,rfl,rfl,hF7,hO7,hP7.fl,fun e i hi=>?_⟩
   · cases ag7 with
     | true=>have:=hP7.yes rfl;simp;omega
     | false=>rw [(hP7.no rfl).1];simp;omega
   have:=hP7.no e
   rw [this.1]
   exact this.2 i (by rw [List.take_of_length_le (by omega)];exact hL2 i hi)
 have hk:k<L.length:=by omega
 have hx8:=zan w7
 have hF8:=hF7.step hx8
 have hO8:=hO7.ext hx8
 generalize World.drew1 w7=w8 at *
 refine zab zbu hA hF8.ext fun v51 h51=>?_
 refine zad u23 ty3 (i:=k) hO8.is (by rw [zae];exact hk) fun b2 o2 hA2=>?_
 rw [zaK] at hA2
 refine zac ty3 hA2 (Ext.refl _) fun _=>?_
 have hrL:∀ {w':World} {K:Value→Prop} (hO:OwnI lo hi w' v43 (zaM L)) (kk:K (.int .i64 ((L[k]:Nat):Int))),RD Tryz.prog (Instr.indexAt 23 v43 (.int .i64 (k:Int))) w' fun x37=>RD Tryz.prog (Instr.loadAt 3 x37) w' K:=fun hO kk=>by
   refine zad u23 ty3 (i:=k) hO.is (by rw [zae];exact hk) fun b1 o1 hA1=>?_
   rw [zaK] at hA1
   exact zac ty3 hA1 (Ext.refl _) fun _=>kk
 generalize hix:L[k]=i at *
 have hiv:zay c p i:=hL i (by rw [←hix];exact List.getElem_mem hk)
 have hin:=(zbe hc hpe hiv).1
 refine (zgd h51 hF8.ext hc hin).mono ?_
 rintro v56 w10 ⟨hx10,ho10⟩
 have hF10:=hF8.step hx10
 have hO10:=hO8.ext hx10
 have hg8:=hF8.lt
 have hN10:=ho10.toI
 have hl2:=zdP c i
 have hQ10:=hP7.enter i
 refine zas (zav c i).length (fun q us w'=>∃ (ag:Bool) (out':List Nat),us=[.bool ag,.int .i64 (q:Int)]∧q≤(zav c i).length∧FW w1 w' g n out'∧OwnI lo hi w' v43 (zaM L)∧OwnI w8.heap.size w10.heap.size w' v56 (zaM (zav c i))∧FQ c T p h out L k i q ag out') 0 (Nat.zero_le _) ⟨ag7,out7,rfl,Nat.zero_le _,hF10,hO10,hN10,hQ10⟩ ?_
 rintro q mq u w11 hqm ⟨ag11,out11,hu,hql,hF11,hO11,hN11,hQ11⟩
 obtain ⟨hu1,hu2⟩:=zb9 hu
 rw [hu1,hu2]
 refine zaf u23 hN11.is ?_
 rw [zae]
 refine zah ?_
 refine br (fun hlt=>?_) (fun hge=>?_)
 case refine_2=>
   refine zag (by omega) ?_
   exact ⟨mk-1,by omega,k+1,by omega,ag11,out11,rfl,by omega,hF11,hO11,hQ11.done hk hix (by omega)⟩
 have hq:q<(zav c i).length:=by omega
 have hx12:=zan w11
 have hF12:=hF11.step hx12
 have hO12:=hO11.ext hx12
 have hN12:=hN11.ext hx12
 generalize World.drew1 w11=w12 at *
 have hj:=zb2 hc hin (List.getElem_mem hq)
 have hl11:=hQ11.fl.len
 have hm64:=hQ11.fl.lt0 i
 have hmb:∀ l,l<6→(zau out11 i).testBit l=false→LostP c (tK T) (tG T) p (fun l=>h.testBit l=true) i l:=fun l hl hb=>hQ11.fl.snd i l hin hl hb
 have hset:=hQ11.set (m:=zau out11 i) hc hpe hiv hq hmb
 have hskip:=hQ11.skip (m:=zau out11 i) hq (fun e=>by rw [(hQ11.no e).1])
 have hj64:=hQ11.fl.lt0 (zav c i)[q]
 have hjn:=hj.1
 rw [hnn] at hjn
 have hrN:∀ {w':World} {K:Value→Prop} (hO:OwnI w8.heap.size w10.heap.size w' v56 (zaM (zav c i))) (kk:K (.int .i64 (((zav c i)[q]:Nat):Int))),RD Tryz.prog (Instr.indexAt 23 v56 (.int .i64 (q:Int))) w' fun x37=>RD Tryz.prog (Instr.loadAt 3 x37) w' K:=fun hO kk=>by
   refine zad u23 ty3 (i:=q) hO.is (by rw [zae];exact hq) fun b1 o1 hA1=>?_
   rw [zaK] at hA1
   exact zac ty3 hA1 (Ext.refl _) fun _=>kk
 generalize (zav c i)[q]=j at *
 have hrd:∀ {w':World} {K:Value→Prop} {i:Nat} (hF:FW w1 w' g n out11) (hi:i<c.ins.length) (k:K (.int .i64 (zau out11 i:Int))),RD Tryz.prog (Instr.indexAt 23 (.slice (some ⟨g,0,none⟩) n n) (.int .i64 (i:Int))) w' fun x37=>RD Tryz.prog (Instr.loadAt 3 x37) w' K:=fun {w' K i} hF hi k=>by
   refine zad u23 ty3 (i:=i) hF.mine.is (by rw [zae,hl11];exact hi) fun b1 o1 hA1=>?_
   rw [zaJ] at hA1
   exact zac ty3 hA1 (Ext.refl _) fun _=>k
 refine hrN hN12 ?_
 refine hrd hF12 hj.1 ?_
 refine zaa zaD ?_
 refine zab zco (zai hA) hF12.ext fun v71 h71=>?_
 refine hrL hO12 ?_
 refine zad u30 zaS h71 hin fun b3 o3 hA3=>?_
 rw [zaG] at hA3
 refine zab zaS hA3 hF12.ext fun v77 h77=>?_
 refine hrL hO12 ?_
 refine hrd hF12 hin ?_
 refine (zkH h77 hF12.ext h1 (e1.trans (hx1.trans hF12.ext)) hc hT hin hm64).mono ?_
 rintro _ w13 ⟨hx13,rfl⟩
 refine ⟨hx13,?_⟩
 have hF13:=hF12.step hx13
 have hO13:=hO12.ext hx13
 have hN13:=hN12.ext hx13
 have haf:=zpC hc hT hin hm64
 have hvl:=Nat.and_le_left (n:=zau out11 j) (m:=aft c T i (zau out11 i))
 refine zdl (m:=zau out11 j) (n:=aft c T i (zau out11 i)) (by omega) (by omega) ?_
 refine hrN hN13 ?_
 refine hrd hF13 hj.1 ?_
 refine zaz ?_
 refine br (fun hne=>?_) (fun heq=>?_)
 · have hne':zau out11 j &&& aft c T i (zau out11 i)≠zau out11 j:=fun e=>hne (by rw [e])
   refine hrN hN13 ?_
   refine zbk (α:=Int) rfl u23 ty3 hjn ?_
   refine zaW (α:=Int) rfl ty3 hF13.mine (by rw [zae,hl11,hnn]) hjn (zbh (v:=zau out11 j &&& aft c T i (zau out11 i)) (by omega)) fun w14 hc14 hm14=>?_
   have hF14:=hF13.set (v:=zau out11 j &&& aft c T i (zau out11 i)) hc14 hm14
   have hc14':=zdm hc14
   refine zag (by omega) ?_
   exact ⟨mq-1,by omega,q+1,by omega,true,_,rfl,by omega,hF14,hO13.chg hc14' (by omega),hN13.chg hc14' (by omega),hset hne'⟩
 refine zag (by omega) ?_
 exact ⟨mq-1,by omega,q+1,by omega,ag11,out11,rfl,by omega,hF13,hO13,hN13,hskip (Int.ofNat_inj.1 (Decidable.not_not.1 heq))⟩
def F258 (a0 a1:Value) (w:World) (R:VW):Prop:=
 NIL a0 <|
 rF 114 a0 4 w fun x12=>
 rL 23 x12 w fun x13=>
 rX 23 x13 a1 w fun x15=>
 rL 3 x15 w fun x16=>
 cL 66 [x16] w fun x17 w=>
 rN 23 3 x17 w fun x18=>
 LOOPI [5,19] [(iV 63),(iV 0)] w fun u3 w next3=>
 rC (u3 19) x18 w fun x20=>
 BR x20
 (rX 23 x17 (u3 19) w fun x21=>
 rL 3 x21 w fun x22=>
 cL 137 [a0,x22] w fun x25 w=>
 rN 23 3 x25 w fun x26=>
 LOOPI [5,27] [(u3 5),(iV 0)] w fun u6 w next6=>
 rC (u6 27) x26 w fun x28=>
 BR x28
 (rX 23 x25 (u6 27) w fun x29=>
 rL 3 x29 w fun x30=>
 NIL a0 <|
 rF 114 a0 0 w fun x33=>
 rF 32 x33 4 w fun x34=>
 rL 30 x34 w fun x35=>
 rX 30 x35 x30 w fun x37=>
 rF 111 x37 0 w fun x38=>
 rL 3 x38 w fun x39=>
 rB .eql 3 T0 U0 x39 (iV 7) w fun x40=>
 BR x40
 (NIL a0 <|
 rF 114 a0 0 w fun x44=>
 rF 32 x44 4 w fun x45=>
 rL 30 x45 w fun x46=>
 rX 30 x46 x30 w fun x48=>
 rF 111 x48 1 w fun x49=>
 rL 3 x49 w fun x50=>
 rD (convert 3 121 x50) w fun x51=>
 rB .shl 3 U0 T0 (iV 1) x51 w fun x52=>
 rB .andNot 3 T0 T0 (u6 5) x52 w fun x53=>
 rA (u6 27) (iV 1) w fun x54=>
 next6 [x53,x54] w)
 (rA (u6 27) (iV 1) w fun x54=>
 next6 [(u6 5),x54] w))
 (rA (u3 19) (iV 1) w fun x55=>
 next3 [(u6 5),x55] w))
 (R (u3 5) w)
def cfg258:Cfg:=⟨extL,[],[(3,72057594037404320,[5,19]),(6,36028796884746784,[5,27])],[],[],[],[]⟩
theorem F258_call {a0 a1:Value} {w:World} {R:VW} (h:F258 a0 a1 w R):cL 258 [a0,a1] w R:=co (g:=cfg258) Tryz.func258 (by kernel_rfl) (by kernel_rfl) (by kernel_rfl) h
def F257 (a0 a1:Value) (w:World) (R:VW):Prop:=
 oP (Instr.box 32 a0) w fun x2 w=>
 rL 32 x2 w fun x10=>
 cL 152 [x10,a1] w fun x12 w=>
 LOOPI [6,7] [(iV 63),(iV 0)] w fun u4 w next4=>
 rF 32 x2 2 w fun x14=>
 rL 22 x14 w fun x15=>
 rN 22 3 x15 w fun x16=>
 rC (u4 7) x16 w fun x17=>
 BR x17
 (rX 101 x12 (u4 7) w fun x22=>
 rL 4 x22 w fun x23=>
 rD (Op.unary .not x23) w fun x24=>
 BR x24
 (rA (u4 7) (iV 1) w fun x19=>
 next4 [(u4 6),x19] w)
 (rL 32 x2 w fun x25=>
 cL 234 [x25,(u4 7)] w fun x27 w=>
 LOOPI [6,9] [(u4 6),(iV 0)] w fun u9 w next9=>
 rF 32 x2 4 w fun x29=>
 rL 30 x29 w fun x30=>
 rN 30 3 x30 w fun x31=>
 rC (u9 9) x31 w fun x32=>
 BR x32
 (rX 101 x27 (u9 9) w fun x37=>
 rL 4 x37 w fun x38=>
 BR x38
 (rF 32 x2 4 w fun x40=>
 rL 30 x40 w fun x41=>
 rX 30 x41 (u9 9) w fun x43=>
 rF 111 x43 0 w fun x44=>
 rL 3 x44 w fun x45=>
 rB .eql 3 T0 U0 x45 (iV 7) w fun x46=>
 BR x46
 (rF 32 x2 4 w fun x49=>
 rL 30 x49 w fun x50=>
 rX 30 x50 (u9 9) w fun x52=>
 rF 111 x52 1 w fun x53=>
 rL 3 x53 w fun x54=>
 cL 102 [x54] w fun x55 w=>
 cL 178 [(u9 6),x55] w fun x56 w=>
 rA (u9 9) (iV 1) w fun x34=>
 next9 [x56,x34] w)
 (rA (u9 9) (iV 1) w fun x34=>
 next9 [(u9 6),x34] w))
 (rA (u9 9) (iV 1) w fun x34=>
 next9 [(u9 6),x34] w))
 (rA (u4 7) (iV 1) w fun x19=>
 next4 [(u9 6),x19] w)))
 (R (u4 6) w)
def cfg257:Cfg:=⟨extL,[],[(4,144115188075848640,[6,7]),(9,144115187807420992,[6,9])],[],[],[],[]⟩
theorem F257_call {a0 a1:Value} {w:World} {R:VW} (h:F257 a0 a1 w R):cL 257 [a0,a1] w R:=co (g:=cfg257) Tryz.func257 (by kernel_rfl) (by kernel_rfl) (by kernel_rfl) h
open Rep (rep)
theorem zhw {p:Nat→Prop} {n:Nat}:∀ {k:Nat},k≤n→zcJ (zf1 p n) k=zaM (zbd k p)
 | 0,_=>rfl
 | k+1,h=>by
   rw [zcJ,zhw (k:=k) (by omega)]
   by_cases hp:p k
   · rw [if_pos (zbU.2 ⟨by omega,hp⟩),zea hp,zcc];rfl
   rw [if_neg fun e=>hp (zbU.1 e).2,zeb hp]
theorem zcx {p:Nat→Prop} {n:Nat} (h:n≤62):zbS (zf1 p n)=zaM (zbd n p):=by
 rw [ziN (k:=n) zho (by omega),zhw (Nat.le_refl _)]
theorem zaU {p:Nat→Prop} {n:Nat} (h:n≤8):zf1 p n<256:=Nat.lt_of_lt_of_le zho (Nat.pow_le_pow_right (n:=2) (by omega) h)
noncomputable def cls (c:DCode) (op:Int):List Nat:=(List.range c.procs.length).map fun p=>zf1 (zgM c p op) c.procs.length
noncomputable def frs (c:DCode):List Nat:=(List.range c.procs.length).map fun p=>zf1 (FromP c p) c.procs.length
theorem zeO (c:DCode) (op:Int):(cls c op).length=c.procs.length:=by simp [cls]
theorem zgm (c:DCode):(frs c).length=c.procs.length:=by simp [frs]
theorem zpF {c:DCode} {op:Int} {p:Nat} (hp:p<c.procs.length):zau (cls c op) p=zf1 (zgM c p op) c.procs.length:=by rw [←zaR (by rw [zeO];exact hp)];simp [cls]
theorem zlI {c:DCode} {p:Nat} (hp:p<c.procs.length):zau (frs c) p=zf1 (FromP c p) c.procs.length:=by rw [←zaR (by rw [zgm];exact hp)];simp [frs]
noncomputable def zbV (c:DCode):Nat:=zf1 (RootP c) c.procs.length
noncomputable def zcS (c:DCode):Nat:=zf1 (UsedP c) c.procs.length
structure WAt (W0:World) (b:Nat) (c:DCode):Prop where
 wl:WL W0 b c
 calls:At W0 b (0+6) (zaM (cls c 4))
 spawns:At W0 b (0+7) (zaM (cls c 5))
 frm:At W0 b (0+8) (zaM (frs c))
 roots:At W0 b (0+9) (zbV c:Int)
 used:At W0 b (0+10) (zcS c:Int)
def KI (m:Nat) (P:Nat→Prop):Prop:=m<64∧∀ l,l<6→(m.testBit l=false↔P l)
theorem KI.start {P:Nat→Prop} (h:∀ l,¬P l):KI 63 P:=⟨by omega,fun l hl=>by rw [zfS hl];exact ⟨fun e=>(by cases e),fun e=>absurd e (h l)⟩⟩
theorem KI.drop {m a:Nat} {P P':Nat→Prop} (h:KI m P) (hP:∀ l,P' l↔P l∨a=l):KI (zkD m (2^a)) P':=by
 refine ⟨Nat.lt_of_le_of_lt (ziM _ _) h.1,fun l hl=>?_⟩
 rw [zed,Nat.testBit_two_pow,hP,←h.2 l hl]
 simp only [Bool.and_eq_false_iff,Bool.not_eq_false',decide_eq_true_eq]
theorem KI.congr {m:Nat} {P P':Nat→Prop} (h:KI m P) (hP:∀ l,P' l↔P l):KI m P':=⟨h.1,fun l hl=>by rw [h.2 l hl,hP]⟩
theorem KI.eq {m:Nat} {P:Nat→Prop} (h:KI m P):m=m6 fun l=>¬P l:=znu h.1 fun l hl=>by rw [←h.2 l hl];simp
theorem za6 {α:Type} {l:List α} {k:Nat} (hk:k<l.length) {x:α}:x∈l.take (k+1)↔x∈l.take k∨x=l[k]:=by
 rw [List.take_succ_eq_append_getElem hk,List.mem_append];simp
def zjS (c:DCode) (q l:Nat):Prop:=∃ i,zay c q i∧(zaj c i).op=7∧agN c i=l
theorem znD {w W0:World} {b p:Nat} {c:DCode} (hW:WAt W0 b c) (e0:Ext W0 w) (hc:CodeR c) (hp:p<c.procs.length) :
   CALL Tryz.prog 258 [.pointer (some ⟨b,0,none⟩),.int .i64 (p:Int)] w fun r w'=>Ext w w'∧r=.int .i64 (zdT c p:Nat):=by
 refine F258_call ?_
 unfold F258
 have h8:=hc.1.procs8
 have hil:=hc.f.ins
 refine NIL.mk rfl ?_
 refine zaa zg1 ?_
 refine zab zb6 hW.frm e0 fun v13 h13=>?_
 refine zad u23 ty3 h13 (by rw [zae,zgm];exact hp) fun b1 o1 hA1=>?_
 rw [zaJ,zlI hp] at hA1
 refine zac ty3 hA1 e0 fun _=>?_
 have hsm:=zaU (p:=FromP c p) h8.1
 refine (zcK (m:=zf1 (FromP c p) c.procs.length) (by omega)).mono ?_
 rintro v17 w1 ⟨hx1,ho1⟩
 rw [zcx (by omega)] at ho1
 have hL:∀ q,q∈zbd c.procs.length (FromP c p)↔q<c.procs.length∧FromP c p q:=fun q=>zaQ
 have hLl:=zaZ (n:=c.procs.length) (p:=FromP c p)
 generalize zbd c.procs.length (FromP c p)=L at *
 refine zaf u23 ho1.is ?_
 rw [zae]
 refine zas L.length (fun k us w'=>∃ m:Nat,us=[.int .i64 (m:Int),.int .i64 (k:Int)]∧k≤L.length∧Ext w1 w'∧KI m (fun l=>∃ q∈L.take k,zjS c q l)) 0 (Nat.zero_le _) ⟨63,rfl,Nat.zero_le _,Ext.refl _,KI.start (by simp)⟩ ?_
 rintro k mk u w2 hkm ⟨m,hu,hkl,hx2,hK⟩
 obtain ⟨hu1,hu2⟩:=zb9 hu;clear hu
 rw [hu1,hu2]
 refine zah ?_
 refine br (fun hlt=>?_) (fun hge=>?_)
 case refine_2=>
   rw [show L.take k=L from List.take_of_length_le (by omega)] at hK
   refine ⟨hx1.trans hx2,?_⟩
   have:m=zdT c p:=by
     rw [hK.eq]
     refine zlE fun l hl=>not_congr ?_
     constructor
     · rintro ⟨q,hq,i,h1,h2,h3⟩
       exact ⟨q,i,((hL q).1 hq).1,((hL q).1 hq).2,h1,h2,h3⟩
     rintro ⟨q,i,h0,hf,h1,h2,h3⟩
     exact ⟨q,(hL q).2 ⟨h0,hf⟩,i,h1,h2,h3⟩
   rw [this]
 have hk:k<L.length:=by omega
 refine zad u23 ty3 (i:=k) (ho1.is) (by rw [zae];exact hk) fun b2 o2 hA2=>?_
 rw [zaK] at hA2
 refine zac ty3 hA2 hx2 fun _=>?_
 have hq:=(hL L[k]).1 (List.getElem_mem hk)
 have htk:=fun x=>za6 hk (x:=x)
 generalize L[k]=q at *
 have hx02:=(e0.trans hx1).trans hx2
 refine (zeN hW.wl hx02 hc hq.1).mono ?_
 rintro v25 w3 ⟨hx3,ho3⟩
 have hM:∀ i,i∈zbd c.ins.length (zay c q)↔i<c.ins.length∧zay c q i:=fun i=>zaQ
 have hMl:=zaZ (n:=c.ins.length) (p:=zay c q)
 generalize zbd c.ins.length (zay c q)=M at *
 refine zaf u23 ho3.is ?_
 rw [zae]
 refine zas M.length (fun j us w'=>∃ m:Nat,us=[.int .i64 (m:Int),.int .i64 (j:Int)]∧j≤M.length∧Ext w3 w'∧KI m (fun l=>(∃ q∈L.take k,zjS c q l)∨∃ i∈M.take j,(zaj c i).op=7∧agN c i=l)) 0 (Nat.zero_le _) ⟨m,rfl,Nat.zero_le _,Ext.refl _,hK.congr fun l=>by simp⟩ ?_
 rintro j mj u w4 hjm ⟨m4,hu,hjl,hx4,hK4⟩
 obtain ⟨hu1,hu2⟩:=zb9 hu
 rw [hu1,hu2]
 refine zah ?_
 refine br (fun hlt=>?_) (fun hge=>?_)
 case refine_2=>
   rw [show M.take j=M from List.take_of_length_le (by omega)] at hK4
   refine zag (by omega) ?_
   refine ⟨mk-1,by omega,k+1,by omega,m4,rfl,by omega,hx2.trans (hx3.trans hx4),hK4.congr fun l=>?_⟩
   constructor
   · rintro ⟨r,hr,h1⟩
     rcases (htk r).1 hr with hr | rfl
     · exact .inl ⟨r,hr,h1⟩
     obtain ⟨i,h1,h2,h3⟩:=h1
     exact .inr ⟨i,(hM i).2 ⟨(zbe hc (by rw [hc.2.1.1];exact hq.1) h1).1,h1⟩,h2,h3⟩
   rintro (⟨r,hr,h1⟩ | ⟨i,hi,h2,h3⟩)
   · exact ⟨r,(htk r).2 (.inl hr),h1⟩
   exact ⟨q,(htk q).2 (.inr rfl),i,((hM i).1 hi).2,h2,h3⟩
 have hj:j<M.length:=by omega
 refine zad u23 ty3 (i:=j) (ho3.is) (by rw [zae];exact hj) fun b3 o3 hA3=>?_
 rw [zaK] at hA3
 refine zac ty3 hA3 hx4 fun _=>?_
 have hi:=(hM M[j]).1 (List.getElem_mem hj)
 have htj:=fun x=>za6 hj (x:=x)
 generalize M[j]=i at *
 have hx04:=hx02.trans (hx3.trans hx4)
 refine NIL.mk rfl ?_
 refine zaa zaY ?_
 refine zaa zaD ?_
 refine zab zco (zai hW.wl.code) hx04 fun v35 h35=>?_
 refine zad u30 zaS h35 hi.1 fun b4 o4 hA4=>?_
 rw [zaG] at hA4
 refine zaa zaH ?_
 refine zac ty3 (zat hA4) hx04 fun _=>?_
 refine zaq ?_
 refine br (fun c7=>?_) (fun c7=>?_)
 · obtain ⟨ha,_,hq6⟩:=zeg hc hi.1 (.inr c7)
   have hpw:=zeM hq6
   refine NIL.mk rfl ?_
   refine zaa zaY ?_
   refine zaa zaD ?_
   refine zab zco (zai hW.wl.code) hx04 fun v46 h46=>?_
   refine zad u30 zaS h46 hi.1 fun b5 o5 hA5=>?_
   rw [zaG] at hA5
   refine zaa zaP ?_
   refine zac ty3 (zaw hA5) hx04 fun _=>?_
   rw [ha]
   refine zcP (by kernel_rfl) zmD (by omega) ?_
   refine zdA (by omega) ?_
   have h64:=hK4.1
   refine zhr (m:=m4) (n:=2^agN c i) (by omega) (by omega) ?_
   refine zag (by omega) ?_
   refine ⟨mj-1,by omega,j+1,by omega,_,rfl,by omega,hx4,hK4.drop fun l=>?_⟩
   constructor
   · rintro (h | ⟨r,hr,h1,h2⟩)
     · exact .inl (.inl h)
     rcases (htj r).1 hr with hr | rfl
     · exact .inl (.inr ⟨r,hr,h1,h2⟩)
     exact .inr h2
   rintro ((h | ⟨r,hr,h1⟩) | h)
   · exact .inl h
   · exact .inr ⟨r,(htj r).2 (.inl hr),h1⟩
   exact .inr ⟨i,(htj i).2 (.inr rfl),c7,h⟩
 refine zag (by omega) ?_
 refine ⟨mj-1,by omega,j+1,by omega,_,rfl,by omega,hx4,hK4.congr fun l=>?_⟩
 constructor
 · rintro (h | ⟨r,hr,h1,h2⟩)
   · exact .inl h
   rcases (htj r).1 hr with hr | rfl
   · exact .inr ⟨r,hr,h1,h2⟩
   exact absurd h1 c7
 rintro (h | ⟨r,hr,h1⟩)
 · exact .inl h
 exact .inr ⟨r,(htj r).2 (.inl hr),h1⟩
theorem zmj {w W0:World} {v0:Value} {p:Nat} {c:DCode} (h0:Is W0 v0 c) (e0:Ext W0 w) (hc:CodeR c) (hp:p<c.procs.length) :
   CALL Tryz.prog 257 [v0,.int .i64 (p:Int)] w fun r w'=>Ext w w'∧r=.int .i64 (zdT c p:Nat):=by
 refine F257_call ?_
 unfold F257
 have h8:=hc.1.procs8
 have hil:=hc.f.ins
 refine zbq h0 e0 fun w0 hx0 hA=>?_
 refine zab zbu hA (Ext.refl _) fun v10 h10=>?_
 refine (zee h10 (Ext.refl _) hc hp).mono ?_
 rintro _ w1 ⟨hx1,g,rfl,hg,hM1⟩
 have hFr:(fun i=>i=p∨RP (zht c) p i)=FromP c p:=rfl
 rw [hFr] at hM1
 refine zas c.procs.length (fun k us w'=>∃ m:Nat,us=[.int .i64 (m:Int),.int .i64 (k:Int)]∧k≤c.procs.length∧Ext w1 w'∧KI m (fun l=>∃ q,q<k∧FromP c p q∧zjS c q l)) 0 (Nat.zero_le _) ⟨63,rfl,Nat.zero_le _,Ext.refl _,KI.start (by simp)⟩ ?_
 rintro k mk u w2 hkm ⟨m,hu,hkl,hx2,hK⟩
 obtain ⟨hu1,hu2⟩:=zb9 hu;clear hu
 rw [hu1,hu2]
 have hx02:=hx1.trans hx2
 refine zaa za1 ?_
 refine zab zbN (zap hA) hx02 fun v15 h15=>?_
 refine zaf u22 h15 ?_
 refine zah ?_
 refine br (fun hlt=>?_) (fun hge=>?_)
 case refine_2=>
   have hke:k=c.procs.length:=by omega
   rw [hke] at hK
   refine ⟨hx0.trans hx02,?_⟩
   have:m=zdT c p:=by
     rw [hK.eq]
     refine zlE fun l hl=>not_congr ?_
     constructor
     · rintro ⟨q,hq,hf,i,h1,h2,h3⟩
       exact ⟨q,i,hq,hf,h1,h2,h3⟩
     rintro ⟨q,i,h0,hf,h1,h2,h3⟩
     exact ⟨q,h0,hf,i,h1,h2,h3⟩
   rw [this]
 have hk:k<c.procs.length:=by omega
 refine zad zcm ty4 (i:=k) hM1.is (by rw [zak];exact hk) fun b2 o2 hA2=>?_
 refine zax ty4 hA2 hx2 ?_
 have hmk:=zaI (n:=c.procs.length) (p:=FromP c p) (i:=k)
 rw [zaL (by rw [zak];exact hk)] at hmk
 refine za0 ?_
 refine zbI (fun hf=>?_) (fun hf=>?_)
 · have hnf:¬FromP c p k:=fun h=>by rw [hmk.2 ⟨hk,h⟩] at hf;cases hf
   refine zag (by omega) ?_
   refine ⟨mk-1,by omega,k+1,by omega,m,rfl,by omega,hx2,hK.congr fun l=>?_⟩
   constructor
   · rintro ⟨q,hq,h1,h2⟩
     by_cases e:q=k
     · subst e;exact absurd h1 hnf
     exact ⟨q,by omega,h1,h2⟩
   rintro ⟨q,hq,h1⟩;exact ⟨q,by omega,h1⟩
 have hfr:FromP c p k:=(hmk.1 (by simpa using hf)).2
 refine zab zbu hA hx02 fun v25 h25=>?_
 refine (zdQ h25 hx02 hc (by rw [hc.2.1.1];exact hk)).mono ?_
 rintro v27 w3 ⟨hx3,ho3⟩
 refine zas c.ins.length (fun j us w'=>∃ m:Nat,us=[.int .i64 (m:Int),.int .i64 (j:Int)]∧j≤c.ins.length∧Ext w3 w'∧KI m (fun l=>(∃ q,q<k∧FromP c p q∧zjS c q l)∨∃ i,i<j∧zay c k i∧(zaj c i).op=7∧agN c i=l)) 0 (Nat.zero_le _) ⟨m,rfl,Nat.zero_le _,Ext.refl _,hK.congr fun l=>by simp⟩ ?_
 rintro j mj u w4 hjm ⟨m4,hu,hjl,hx4,hK4⟩
 obtain ⟨hu1,hu2⟩:=zb9 hu
 rw [hu1,hu2]
 have hx04:=hx02.trans (hx3.trans hx4)
 refine zaa zaD ?_
 refine zab zco (zai hA) hx04 fun v30 h30=>?_
 refine zaf u30 h30 ?_
 refine zah ?_
 refine br (fun hlt=>?_) (fun hge=>?_)
 case refine_2=>
   have hje:j=c.ins.length:=by omega
   rw [hje] at hK4
   refine zag (by omega) ?_
   refine ⟨mk-1,by omega,k+1,by omega,m4,rfl,by omega,hx2.trans (hx3.trans hx4),hK4.congr fun l=>?_⟩
   constructor
   · rintro ⟨q,hq,h1,h2⟩
     by_cases e:q=k
     · subst e
       obtain ⟨i,h3,h4⟩:=h2
       exact .inr ⟨i,(zbe hc (by rw [hc.2.1.1];exact hk) h3).1,h3,h4⟩
     exact .inl ⟨q,by omega,h1,h2⟩
   rintro (⟨q,hq,h1⟩ | ⟨i,hi,h2⟩)
   · exact ⟨q,by omega,h1⟩
   exact ⟨k,by omega,hfr,i,h2⟩
 have hj:j<c.ins.length:=by omega
 refine zad zcm ty4 (i:=j) ho3.is (by rw [zak];exact hj) fun b3 o3 hA3=>?_
 refine zax ty4 hA3 hx4 ?_
 have hmj:=zaI (n:=c.ins.length) (p:=zay c k) (i:=j)
 rw [zaL (by rw [zak];exact hj)] at hmj
 have hno:∀ w',Ext w3 w'→¬(zay c k j∧(zaj c j).op=7)→∃ m:Nat,[Value.int .i64 (m4:Int),Value.int .i64 ((j+1:Nat):Int)]=[.int .i64 (m:Int),.int .i64 ((j+1:Nat):Int)]∧j+1≤c.ins.length∧Ext w3 w'∧KI m (fun l=>(∃ q,q<k∧FromP c p q∧zjS c q l)∨∃ i,i<j+1∧zay c k i∧(zaj c i).op=7∧agN c i=l):=fun w' hx hn=>by
   refine ⟨m4,rfl,by omega,hx,hK4.congr fun l=>or_congr Iff.rfl ?_⟩
   constructor
   · rintro ⟨i,h1,h2,h3,h4⟩
     by_cases e:i=j
     · subst e;exact absurd ⟨h2,h3⟩ hn
     exact ⟨i,by omega,h2,h3,h4⟩
   rintro ⟨i,h1,h2⟩;exact ⟨i,by omega,h2⟩
 refine zbI (fun hf4=>?_) (fun hf4=>?_)
 · refine zaa zaD ?_
   refine zab zco (zai hA) hx04 fun v41 h41=>?_
   refine zad u30 zaS h41 hj fun b4 o4 hA4=>?_
   rw [zaG] at hA4
   refine zaa zaH ?_
   refine zac ty3 (zat hA4) hx04 fun _=>?_
   refine zaq ?_
   refine br (fun c7=>?_) (fun c7=>?_)
   · obtain ⟨ha,_,hq6⟩:=zeg hc hj (.inr c7)
     have hpw:=zeM hq6
     refine zaa zaD ?_
     refine zab zco (zai hA) hx04 fun v50 h50=>?_
     refine zad u30 zaS h50 hj fun b5 o5 hA5=>?_
     rw [zaG] at hA5
     refine zaa zaP ?_
     refine zac ty3 (zaw hA5) hx04 fun _=>?_
     rw [ha]
     refine (zeL (by omega)).mono ?_
     rintro _ w5 ⟨hx5,rfl⟩
     refine (zgj hK4.1 hpw).mono ?_
     rintro _ w6 ⟨hx6,rfl⟩
     rw [zfq hK4.1 hpw]
     refine zag (by omega) ?_
     refine ⟨mj-1,by omega,j+1,by omega,_,rfl,by omega,hx4.trans (hx5.trans hx6),hK4.drop fun l=>?_⟩
     constructor
     · rintro (h | ⟨i,h1,h2,h3,h4⟩)
       · exact .inl (.inl h)
       by_cases e:i=j
       · subst e;exact .inr h4
       exact .inl (.inr ⟨i,by omega,h2,h3,h4⟩)
     rintro ((h | ⟨i,h1,h2⟩) | h)
     · exact .inl h
     · exact .inr ⟨i,by omega,h2⟩
     exact .inr ⟨j,by omega,(hmj.1 hf4).2,c7,h⟩
   refine zag (by omega) ?_
   exact ⟨mj-1,by omega,j+1,by omega,hno w4 hx4 fun h=>c7 h.2⟩
 refine zag (by omega) ?_
 exact ⟨mj-1,by omega,j+1,by omega,hno w4 hx4 fun h=>by rw [hmj.2 ⟨hj,h.1⟩] at hf4;cases hf4⟩
def F237 (a0 a1 a2:Value) (w:World) (R:VW):Prop:=
 (fun w=>NIL a0 <|
 rF 114 a0 0 w fun x13=>
 rL 32 x13 w fun x14=>
 (fun w_=>cL 217 [a0,a1,a2,(iV 0)] w_ fun x10 w=>
 Ext w_ w ∧
 cL 134 [x14,a2] w fun x16 w=>
 rB .sub 3 T0 U0 x16 (iV 1) w fun x17=>
 rX 23 x10 x17 w fun x18=>
 rL 3 x18 w fun x19=>
 R x19 w) w) (World.drew1 w)
def cfg237:Cfg:=⟨extL,[],[],[(1,[0,1,2,4,5,6,7,8,3,9,10,11,12,13],8)],[],[],[]⟩
theorem F237_call {a0 a1 a2:Value} {w:World} {R:VW} (h:F237 a0 a1 a2 w R):cL 237 [a0,a1,a2] w R:=co (g:=cfg237) Tryz.func237 (by kernel_rfl) (by kernel_rfl) (by kernel_rfl) h
def F233 (a0 a1 a2:Value) (w:World) (R:VW):Prop:=
 oP (Instr.box 32 a0) w fun x3 w=>
 (fun w=>rL 32 x3 w fun x7=>
 rL 32 x3 w fun x11=>
 (fun w_=>cL 210 [x7,a1,a2,(iV 0)] w_ fun x10 w=>
 Ext w_ w ∧
 cL 124 [x11,a2] w fun x13 w=>
 rX 23 x10 x13 w fun x14=>
 rL 3 x14 w fun x15=>
 R x15 w) w) (World.drew1 w)
def cfg233:Cfg:=⟨extL,[],[],[(1,[0,1,2,4,5,3,6,7,8,9],8)],[],[],[]⟩
theorem F233_call {a0 a1 a2:Value} {w:World} {R:VW} (h:F233 a0 a1 a2 w R):cL 233 [a0,a1,a2] w R:=co (g:=cfg233) Tryz.func233 (by kernel_rfl) (by kernel_rfl) (by kernel_rfl) h
def F236 (a0:Value) (w:World) (R:VW):Prop:=
 NIL a0 <|
 rF 114 a0 0 w fun x7=>
 rF 32 x7 2 w fun x8=>
 rL 22 x8 w fun x9=>
 rN 22 3 x9 w fun x10=>
 LOOPI [3,11] [(Value.slice none 0 0),(iV 0)] w fun u3 w next3=>
 rC (u3 11) x10 w fun x12=>
 BR x12
 (cL 258 [a0,(u3 11)] w fun x17 w=>
 rD (Instr.build 225 #[(0,x17),(1,(iV 63))]) w fun x18=>
 oP (Instr.buildSlice 204 1 #[(0,x18)]) w fun x19 w=>
 oP (Builtin.append_ #[204,204] 204 [(u3 3),x19].toArray) w fun x20 w=>
 rA (u3 11) (iV 1) w fun x21=>
 next3 [x20,x21] w)
 (R (u3 3) w)
def cfg236:Cfg:=⟨extL,[],[(3,4192280,[3,11])],[],[],[],[]⟩
theorem F236_call {a0:Value} {w:World} {R:VW} (h:F236 a0 w R):cL 236 [a0] w R:=co (g:=cfg236) Tryz.func236 (by kernel_rfl) (by kernel_rfl) (by kernel_rfl) h
def F232 (a0:Value) (w:World) (R:VW):Prop:=
 oP (Instr.box 32 a0) w fun x1 w=>
 oP (Instr.buildSlice 204 0 #[]) w fun x5 w=>
 LOOPI [3,4] [x5,(iV 0)] w fun u3 w next3=>
 rF 32 x1 2 w fun x7=>
 rL 22 x7 w fun x8=>
 rN 22 3 x8 w fun x9=>
 rC (u3 4) x9 w fun x10=>
 BR x10
 (rL 32 x1 w fun x14=>
 cL 257 [x14,(u3 4)] w fun x16 w=>
 rD (Instr.build 225 #[(0,x16),(1,(iV 63))]) w fun x17=>
 oP (Instr.buildSlice 204 1 #[(0,x17)]) w fun x18 w=>
 oP (Builtin.append_ #[204,204] 204 [(u3 3),x18].toArray) w fun x19 w=>
 rA (u3 4) (iV 1) w fun x12=>
 next3 [x19,x12] w)
 (R (u3 3) w)
def cfg232:Cfg:=⟨extL,[],[(3,1048536,[3,4])],[],[],[],[]⟩
theorem F232_call {a0:Value} {w:World} {R:VW} (h:F232 a0 w R):cL 232 [a0] w R:=co (g:=cfg232) Tryz.func232 (by kernel_rfl) (by kernel_rfl) (by kernel_rfl) h
def F215 (a0:Value) (w:World) (R:VW):Prop:=
 cL 236 [a0] w fun x8 w=>
 LOOPI [4] [(Value.bool true)] w fun u3 w next3=>
 BR (u3 4)
 (rN 204 3 x8 w fun x11=>
 LOOPI [4,12] [(Value.bool false),(iV 0)] w fun u6 w next6=>
 rC (u6 12) x11 w fun x13=>
 BR x13
 (cL 237 [a0,x8,(u6 12)] w fun x18 w=>
 rX 204 x8 (u6 12) w fun x22=>
 rF 225 x22 1 w fun x23=>
 rL 3 x23 w fun x24=>
 rB .neq 3 T0 T0 x18 x24 w fun x25=>
 BR x25
 (rX 204 x8 (u6 12) w fun x29=>
 rF 225 x29 1 w fun x30=>
 oS 3 x30 x18 w fun w=>
 rA (u6 12) (iV 1) w fun x31=>
 next6 [(Value.bool true),x31] w)
 (rA (u6 12) (iV 1) w fun x31=>
 next6 [(u6 4),x31] w))
 (next3 [(u6 4)] w))
 (R x8 w)
def cfg215:Cfg:=⟨extL,[],[(3,4294966896,[4]),(6,4294963312,[4,12])],[],[],[],[]⟩
theorem F215_call {a0:Value} {w:World} {R:VW} (h:F215 a0 w R):cL 215 [a0] w R:=co (g:=cfg215) Tryz.func215 (by kernel_rfl) (by kernel_rfl) (by kernel_rfl) h
def F207 (a0:Value) (w:World) (R:VW):Prop:=
 oP (Instr.box 32 a0) w fun x1 w=>
 rL 32 x1 w fun x7=>
 cL 232 [x7] w fun x8 w=>
 LOOPI [4] [(Value.bool true)] w fun u3 w next3=>
 BR (u3 4)
 (LOOPI [4,5] [(Value.bool false),(iV 0)] w fun u6 w next6=>
 rF 32 x1 2 w fun x11=>
 rL 22 x11 w fun x12=>
 rN 22 3 x12 w fun x13=>
 rC (u6 5) x13 w fun x14=>
 BR x14
 (rL 32 x1 w fun x17=>
 cL 233 [x17,x8,(u6 5)] w fun x20 w=>
 rX 204 x8 (u6 5) w fun x24=>
 rF 225 x24 1 w fun x25=>
 rL 3 x25 w fun x26=>
 rB .neq 3 T0 T0 x20 x26 w fun x27=>
 BR x27
 (rX 204 x8 (u6 5) w fun x31=>
 rF 225 x31 1 w fun x32=>
 oS 3 x32 x20 w fun w=>
 rA (u6 5) (iV 1) w fun x16=>
 next6 [(Value.bool true),x16] w)
 (rA (u6 5) (iV 1) w fun x16=>
 next6 [(u6 4),x16] w))
 (next3 [(u6 4)] w))
 (R x8 w)
def cfg207:Cfg:=⟨extL,[],[(3,8589934192,[4]),(6,8589933680,[4,5])],[],[],[],[]⟩
theorem F207_call {a0:Value} {w:World} {R:VW} (h:F207 a0 w R):cL 207 [a0] w R:=co (g:=cfg207) Tryz.func207 (by kernel_rfl) (by kernel_rfl) (by kernel_rfl) h
open Rep (rep)
theorem zdw {c:DCode} (hc:CodeR c) {p:Nat} (hp:p<c.procs.length):zcX c p=((zN c p+1:Nat):Int)∧zd9 c p=(zN c p:Int)∧zN c p<c.ins.length:=by
 have h:=zhN hc (p:=p) (by rw [hc.2.1.1];exact hp)
 refine ⟨by omega,?_,h.2.2⟩
 rw [zdr];omega
theorem zoV {w W0 W1:World} {b p:Nat} {v1:Value} {c:DCode} {T:Tab} (hW:WL W0 b c) (e0:Ext W0 w) (h1:Is W1 v1 (zfa T)) (e1:Ext W1 w) (hc:CodeR c) (hT:znx c T) (hp:p<c.procs.length) :
   CALL Tryz.prog 237 [.pointer (some ⟨b,0,none⟩),v1,.int .i64 (p:Int)] w fun r w'=>Ext w w'∧r=.int .i64 (zcM c T p:Nat):=by
 refine F237_call ?_
 unfold F237
 obtain ⟨hz1,hz2,hz3⟩:=zdw hc hp
 have hil:=hc.f.ins
 have h8:=hc.1.procs8
 have hxd:=zan w
 generalize World.drew1 w=w1 at *
 refine NIL.mk rfl ?_
 refine zaa zaY ?_
 refine zab zbu hW.code (e0.trans hxd) fun v14 h14=>?_
 refine (zkK hW (e0.trans hxd) h1 (e1.trans hxd) hc hT hp (h:=0) (by omega)).mono ?_
 rintro v10 w2 ⟨hx2,ho2⟩
 refine ⟨hx2,?_⟩
 refine (zcH h14 ((e0.trans hxd).trans hx2) (by omega)).mono ?_
 rintro _ w3 ⟨hx3,rfl⟩
 rw [hz1]
 refine zbC (by unfold I64;omega) ?_
 rw [show ((zN c p+1:Nat):Int)-1=(zN c p:Int) by omega]
 refine zad u23 ty3 ho2.is (by rw [zae,zcL];exact hz3) fun b1 o1 hA1=>?_
 rw [zaJ] at hA1
 refine zac ty3 hA1 hx3 fun _=>?_
 exact ⟨hxd.trans (hx2.trans hx3),rfl⟩
theorem znE {w W0 W1:World} {p:Nat} {v0 v1:Value} {c:DCode} {T:Tab} (h0:Is W0 v0 c) (e0:Ext W0 w) (h1:Is W1 v1 (zfa T)) (e1:Ext W1 w) (hc:CodeR c) (hT:znx c T) (hp:p<c.procs.length) :
   CALL Tryz.prog 233 [v0,v1,.int .i64 (p:Int)] w fun r w'=>Ext w w'∧r=.int .i64 (zcM c T p:Nat):=by
 refine F233_call ?_
 unfold F233
 obtain ⟨hz1,hz2,hz3⟩:=zdw hc hp
 have hil:=hc.f.ins
 have h8:=hc.1.procs8
 refine zbq h0 e0 fun w0 hx0 hA=>?_
 have hxd:=zan w0
 generalize World.drew1 w0=w1 at *
 refine zab zbu hA hxd fun v7 h7=>?_
 refine zab zbu hA hxd fun v11 h11=>?_
 refine (zgl h7 hxd h1 (e1.trans (hx0.trans hxd)) hc hT hp (h:=0) (by omega)).mono ?_
 rintro v10 w2 ⟨hx2,ho2⟩
 refine ⟨hx2,?_⟩
 refine (zdi h11 (hxd.trans hx2) (p:=(p:Int)) (by omega) (by omega) hc.2.1.nonneg).mono ?_
 rintro _ w3 ⟨hx3,rfl⟩
 rw [hz2]
 refine zad u23 ty3 ho2.is (by rw [zae,zcL];exact hz3) fun b1 o1 hA1=>?_
 rw [zaJ] at hA1
 refine zac ty3 hA1 hx3 fun _=>?_
 exact ⟨(hx0.trans hxd).trans (hx2.trans hx3),rfl⟩
noncomputable def zmE (c:DCode) (k:Nat):Tab:=(List.range k).map fun p=>(zdT c p,63)
theorem zjT (c:DCode) (k:Nat):zfa (zmE c (k+1))=zfa (zmE c k)++[zop (zdT c k,63)]:=by simp [zmE,zfa,List.range_succ]
theorem zgQ (c:DCode) (k:Nat):(zfa (zmE c k)).length=k:=by simp [zmE,zfa]
theorem zlJ {w:World} (lo hi:Nat) {x:Nat×Nat} (h1:x.1<64) (h2:x.2<64):OwnI lo hi w (.agg #[.int .i64 (x.1:Int),.int .i64 (x.2:Int)]) (zop x):=
 ⟨[],zmi (x:=zop x) (by unfold zop I64;simp only;omega) (by unfold zop I64;simp only;omega),by simp⟩
theorem zhx {w W0:World} {b:Nat} {c:DCode} (hW:WAt W0 b c) (e0:Ext W0 w) (hc:CodeR c) :
   CALL Tryz.prog 236 [.pointer (some ⟨b,0,none⟩)] w fun r w'=>Ext w w'∧Own w.heap.size w' r (zfa (zmE c c.procs.length)):=by
 refine F236_call ?_
 unfold F236
 have h8:=hc.1.procs8
 refine NIL.mk rfl ?_
 refine zaa zaY ?_
 refine zaa za1 ?_
 refine zab zbN (zap hW.wl.code) e0 fun v9 h9=>?_
 refine zaf u22 h9 ?_
 refine zas c.procs.length (fun k us w'=>∃ v:Value,us=[v,.int .i64 (k:Int)]∧k≤c.procs.length∧Ext w w'∧RowI w.heap.size w'.heap.size 225 w' v (zfa (zmE c k))) 0 (Nat.zero_le _) ⟨_,rfl,Nat.zero_le _,Ext.refl _,zc0 _ _ _ _⟩ ?_
 rintro k mk u w2 hkm ⟨v,hu,hkl,hx2,hr2⟩
 obtain ⟨hu1,hu2⟩:=zb9 hu
 rw [hu1,hu2]
 refine zah ?_
 refine br (fun hlt=>?_) (fun hge=>?_)
 case refine_2=>
   have:k=c.procs.length:=by omega
   rw [this] at hr2
   exact ⟨hx2,hr2.own.own⟩
 have hk:k<c.procs.length:=by omega
 have hs2:=hx2.size
 refine (znD hW (e0.trans hx2) hc hk).mono ?_
 rintro _ w3 ⟨hx3,rfl⟩
 have hs3:=hx3.size
 refine zcB (cells:=#[.int .i64 (zdT c k:Nat),.int .i64 63]) (by kernel_rfl) ?_
 refine zcb (lo2:=w3.heap.size) (hi2:=w3.heap.size) (x:=zop (zdT c k,63)) zmV zhL zrB zqS (by decide) (hr2.ext hx3) (by omega) (zlJ _ _ (x:=(zdT c k,63)) ziO (by omega)) (by omega) (by omega) (by rw [zao,zgQ];omega) (by rw [zgQ];omega) fun v54 w9 hc9 hr9=>?_
 refine zag (by omega) ?_
 refine ⟨mk-1,by omega,k+1,by omega,v54,rfl,by omega,(hx2.trans hx3).chgI hc9 (Nat.le_refl _),?_⟩
 rw [zjT]
 exact hr9
theorem znF {w W0:World} {v0:Value} {c:DCode} (h0:Is W0 v0 c) (e0:Ext W0 w) (hc:CodeR c) :
   CALL Tryz.prog 232 [v0] w fun r w'=>Ext w w'∧Own w.heap.size w' r (zfa (zmE c c.procs.length)):=by
 refine F232_call ?_
 unfold F232
 have h8:=hc.1.procs8
 refine zbq h0 e0 fun w0 hx0 hA=>?_
 have hs0:=hx0.size
 refine zba (α:=DEffect) zmV zhL fun a w1 hx1 hr1=>?_
 have hs1:=hx1.size
 refine zas c.procs.length (fun k us w'=>∃ v:Value,us=[v,.int .i64 (k:Int)]∧k≤c.procs.length∧Ext w0 w'∧RowI w0.heap.size w'.heap.size 225 w' v (zfa (zmE c k))) 0 (Nat.zero_le _) ⟨_,rfl,Nat.zero_le _,hx1,hr1.mono hs1 (Nat.le_refl _)⟩ ?_
 rintro k mk u w2 hkm ⟨v,hu,hkl,hx2,hr2⟩
 obtain ⟨hu1,hu2⟩:=zb9 hu
 rw [hu1,hu2]
 refine zaa za1 ?_
 refine zab zbN (zap hA) hx2 fun v9 h9=>?_
 refine zaf u22 h9 ?_
 refine zah ?_
 refine br (fun hlt=>?_) (fun hge=>?_)
 case refine_2=>
   have:k=c.procs.length:=by omega
   rw [this] at hr2
   exact ⟨hx0.trans hx2,hr2.own.own.mono (by omega)⟩
 have hk:k<c.procs.length:=by omega
 have hs2:=hx2.size
 refine zab zbu hA hx2 fun v14 h14=>?_
 refine (zmj h14 hx2 hc hk).mono ?_
 rintro _ w3 ⟨hx3,rfl⟩
 have hs3:=hx3.size
 refine zcB (cells:=#[.int .i64 (zdT c k:Nat),.int .i64 63]) (by kernel_rfl) ?_
 refine zcb (lo2:=w3.heap.size) (hi2:=w3.heap.size) (x:=zop (zdT c k,63)) zmV zhL zrB zqS (by decide) (hr2.ext hx3) (by omega) (zlJ _ _ (x:=(zdT c k,63)) ziO (by omega)) (by omega) (by omega) (by rw [zao,zgQ];omega) (by rw [zgQ];omega) fun v54 w9 hc9 hr9=>?_
 refine zag (by omega) ?_
 refine ⟨mk-1,by omega,k+1,by omega,v54,rfl,by omega,(hx2.trans hx3).chgI hc9 (by omega),?_⟩
 rw [zjT]
 exact hr9
structure FE (w1 w:World) (g:Nat) (v:Value) (T:Tab):Prop where
 ext:Ext w1 w
 mine:Mine [g] w v (zfa T)
 g0:w1.heap.size≤g
section
variable {w1 w w':World} {g:Nat} {v:Value} {T:Tab}
theorem FE.step (h:FE w1 w g v T) (hx:Ext w w'):FE w1 w' g v T:=⟨h.ext.trans hx,h.mine.ext hx,h.g0⟩
theorem FE.own (h:FE w1 w g v T):Own w1.heap.size w v (zfa T):=⟨[g],h.mine,fun b hb=>by simp only [List.mem_cons,List.not_mem_nil,or_false] at hb;have:=h.g0;omega⟩
theorem FE.make (ho:Own w1.heap.size w v (zfa T)) (hx:Ext w1 w) (hT:T≠[]):∃ g,FE w1 w g v T:=by
 obtain ⟨F,hm,hF⟩:=ho
 obtain ⟨b,o,cap,hv,rfl⟩:=zds hm (by intro e;exact hT (List.map_eq_nil_iff.1 e))
 exact ⟨b,hx,hm,hF b (by simp)⟩
theorem znG {q m:Nat} {K:World→Prop} (h:FE w1 w g v T) (hT:T≠[]) (hq:q<T.length) (hm:m<64) (k:∀ w',FE w1 w' g v (T.set q ((tbl T q).1,m))→ChgI g (g+1) w w'→K w') :
   RD Tryz.prog (Instr.indexAt 204 v (.int .i64 (q:Int))) w fun a=>RD Tryz.prog (Instr.fieldAt 225 a 1) w fun f=>OPU Tryz.prog (Instr.storeAt 3 f (.int .i64 (m:Int))) w K:=by
 refine ze9 (α:=DEffect) (β:=Int) (sel:=DEffect.gen) (g:=fun a y=>⟨a.keep,y⟩) zmV zhL zg2 ty3 (fun h=>zhO h) h.mine (by rw [zdv];exact hq) (zbh (v:=m) (by omega)) fun w2 F2 hc2 hm2 hF2=>?_
 have hF:F2=[g]:=by
   obtain ⟨b,o,cap,hv,rfl⟩:=zds hm2 (by intro e;have:=congrArg List.length e;rw [List.length_set,zdv] at this;simp only [List.length_nil] at this;omega)
   have:=hF2 b (by simp)
   simpa using this
 subst hF
 have hcc:=zdm hc2
 refine k w2 ⟨h.ext.chgI hcc h.g0,?_,h.g0⟩ hcc
 rw [zoU]
 rw [zeh] at hm2
 exact hm2
end
theorem znH {c:DCode} (hc:CodeR c):EI c (zmE c c.procs.length):=EI.start c hc
theorem EI.len {c:DCode} {T:Tab} (h:EI c T):T.length=c.procs.length:=h.tab.1
theorem EI.ne {c:DCode} (hc:CodeR c) {T:Tab} (h:EI c T):T≠[]:=fun e=>by
 have h1:=h.len
 have h2:=hc.1.procs8
 rw [e] at h1;simp at h1;omega
structure EP (c:DCode) (T0:Tab) (k:Nat) (ag:Bool) (T:Tab):Prop where
 ei:EI c T
 yes:ag=true→znA T<znA T0
 no:ag=false→T=T0∧∀ p,p<k→zcM c T0 p=(tbl T0 p).2
theorem EP.set {c:DCode} (hc:CodeR c) {T0 T:Tab} {k:Nat} {ag:Bool} (H:EP c T0 k ag T) (hk:k<c.procs.length) (hne:zcM c T k≠(tbl T k).2):EP c T0 (k+1) true (T.set k ((tbl T k).1,zcM c T k)):=by
 refine ⟨H.ei.upd hc hk,fun _=>?_,fun e=>by cases e⟩
 have h1:=zoS (T:=T) (p:=k) (v:=((tbl T k).1,zcM c T k)) (by rw [H.ei.len];exact hk)
 have h2:=H.ei.le hc hk
 simp only at h1
 cases ag with
 | true=>have:=H.yes rfl;omega
 | false=>rw [(H.no rfl).1] at h1 h2 hne ⊢;omega
theorem EP.skip {c:DCode} {T0 T:Tab} {k:Nat} {ag:Bool} (H:EP c T0 k ag T) (he:zcM c T k=(tbl T k).2):EP c T0 (k+1) ag T:=
 ⟨H.ei,H.yes,fun e=>⟨(H.no e).1,fun p hp=>by
   by_cases h:p=k
   · subst h;rw [(H.no e).1] at he;exact he
   exact (H.no e).2 p (by omega)⟩⟩
theorem zmk {w W0:World} {b:Nat} {c:DCode} (hW:WAt W0 b c) (e0:Ext W0 w) (hc:CodeR c) :
   CALL Tryz.prog 215 [.pointer (some ⟨b,0,none⟩)] w fun r w'=>Ext w w'∧Own w.heap.size w' r (zfa (zb3 c)):=by
 refine F215_call ?_
 unfold F215
 have h8:=hc.1.procs8
 refine (zhx hW e0 hc).mono ?_
 rintro v8 w1 ⟨hx1,ho1⟩
 have hE1:=znH hc
 obtain ⟨g,hF1⟩:=FE.make ho1 hx1 (hE1.ne hc)
 generalize zmE c c.procs.length=T at *
 refine LOOPI.mk (fun m us w'=>∃ (ag:Bool) (T:Tab),us=[.bool ag]∧m=znA T+(if ag then 1 else 0)∧FE w w' g v8 T∧EI c T∧(ag=false→∀ p,p<c.procs.length→zcM c T p=(tbl T p).2)) (znA T+1) ⟨true,T,rfl,rfl,hF1,hE1,fun e=>by cases e⟩ ?_
 rintro m u w2 ⟨ag,T,hu,hm,hF2,hE2,hsh⟩
 simp only [List.map_cons,List.map_nil,List.cons.injEq,and_true] at hu
 rw [hu]
 refine zbI (fun hag=>?_) (fun hag=>?_)
 case refine_2=>
   rw [hE2.fin hc (hsh hag)] at hF2
   exact ⟨hF2.ext,hF2.own⟩
 rw [hag,if_pos rfl] at hm
 refine zaf zmV hF2.mine.is ?_
 rw [zdv,hE2.len]
 refine zas c.procs.length (fun k us w'=>∃ (ag:Bool) (T':Tab),us=[.bool ag,.int .i64 (k:Int)]∧k≤c.procs.length∧FE w w' g v8 T'∧EP c T k ag T') 0 (Nat.zero_le _) ⟨false,T,rfl,Nat.zero_le _,hF2,hE2,fun e=>(by cases e),fun _=>⟨rfl,fun p hp=>by omega⟩⟩ ?_
 rintro k mk u w3 hkm ⟨ag3,T3,hu,hkl,hF3,hP3⟩
 obtain ⟨hu1,hu2⟩:=zb9 hu
 rw [hu1,hu2]
 refine zah ?_
 refine br (fun hlt=>?_) (fun hge=>?_)
 case refine_2=>
   refine ⟨znA T3+(if ag3 then 1 else 0),?_,ag3,T3,rfl,rfl,hF3,hP3.ei,fun e p hp=>?_⟩
   · cases ag3 with
     | true=>have:=hP3.yes rfl;simp;omega
     | false=>rw [(hP3.no rfl).1];simp;omega
   have:=hP3.no e
   rw [this.1]
   exact this.2 p (by omega)
 have hk:k<c.procs.length:=by omega
 refine (zoV hW.wl (e0.trans hF3.ext) hF3.mine.is (Ext.refl _) hc hP3.ei.tab hk).mono ?_
 rintro _ w4 ⟨hx4,rfl⟩
 have hF4:=hF3.step hx4
 have hal:=zgO (T:=T3) hc hk
 have hgl:=hP3.ei.tab.2 k
 have hkT:k<T3.length:=by rw [hP3.ei.len];exact hk
 refine zad zmV zhL hF4.mine.is (by rw [zdv];exact hkT) fun b1 o1 hA1=>?_
 rw [zeh] at hA1
 refine zaa zg2 ?_
 refine zac ty3 (zdu hA1) (Ext.refl _) fun _=>?_
 refine zaz ?_
 refine br (fun hne=>?_) (fun heq=>?_)
 · refine znG hF4 (hP3.ei.ne hc) hkT hal fun w5 hF5 hc5=>?_
   refine zag (by omega) ?_
   exact ⟨mk-1,by omega,k+1,by omega,true,_,rfl,by omega,hF5,hP3.set hc hk fun e=>hne (by rw [e];rfl)⟩
 refine zag (by omega) ?_
 exact ⟨mk-1,by omega,k+1,by omega,ag3,T3,rfl,by omega,hF4,hP3.skip (Int.ofNat_inj.1 (Decidable.not_not.1 heq))⟩
theorem ziV {w W0:World} {v0:Value} {c:DCode} (h0:Is W0 v0 c) (e0:Ext W0 w) (hc:CodeR c) :
   CALL Tryz.prog 207 [v0] w fun r w'=>Ext w w'∧Own w.heap.size w' r (zfa (zb3 c)):=by
 refine F207_call ?_
 unfold F207
 have h8:=hc.1.procs8
 refine zbq h0 e0 fun w0 hx0 hA=>?_
 have hs0:=hx0.size
 refine zab zbu hA (Ext.refl _) fun v7 h7=>?_
 refine (znF h7 (Ext.refl _) hc).mono ?_
 rintro v8 w1 ⟨hx1,ho1⟩
 have hE1:=znH hc
 obtain ⟨g,hF1⟩:=FE.make ho1 hx1 (hE1.ne hc)
 generalize zmE c c.procs.length=T at *
 refine LOOPI.mk (fun m us w'=>∃ (ag:Bool) (T:Tab),us=[.bool ag]∧m=znA T+(if ag then 1 else 0)∧FE w0 w' g v8 T∧EI c T∧(ag=false→∀ p,p<c.procs.length→zcM c T p=(tbl T p).2)) (znA T+1) ⟨true,T,rfl,rfl,hF1,hE1,fun e=>by cases e⟩ ?_
 rintro m u w2 ⟨ag,T,hu,hm,hF2,hE2,hsh⟩
 simp only [List.map_cons,List.map_nil,List.cons.injEq,and_true] at hu
 rw [hu]
 refine zbI (fun hag=>?_) (fun hag=>?_)
 case refine_2=>
   rw [hE2.fin hc (hsh hag)] at hF2
   exact ⟨hx0.trans hF2.ext,hF2.own.mono (by omega)⟩
 rw [hag,if_pos rfl] at hm
 refine zas c.procs.length (fun k us w'=>∃ (ag:Bool) (T':Tab),us=[.bool ag,.int .i64 (k:Int)]∧k≤c.procs.length∧FE w0 w' g v8 T'∧EP c T k ag T') 0 (Nat.zero_le _) ⟨false,T,rfl,Nat.zero_le _,hF2,hE2,fun e=>(by cases e),fun _=>⟨rfl,fun p hp=>by omega⟩⟩ ?_
 rintro k mk u w3 hkm ⟨ag3,T3,hu,hkl,hF3,hP3⟩
 obtain ⟨hu1,hu2⟩:=zb9 hu
 rw [hu1,hu2]
 refine zaa za1 ?_
 refine zab zbN (zap hA) hF3.ext fun v12 h12=>?_
 refine zaf u22 h12 ?_
 refine zah ?_
 refine br (fun hlt=>?_) (fun hge=>?_)
 case refine_2=>
   refine ⟨znA T3+(if ag3 then 1 else 0),?_,ag3,T3,rfl,rfl,hF3,hP3.ei,fun e p hp=>?_⟩
   · cases ag3 with
     | true=>have:=hP3.yes rfl;simp;omega
     | false=>rw [(hP3.no rfl).1];simp;omega
   have:=hP3.no e
   rw [this.1]
   exact this.2 p (by omega)
 have hk:k<c.procs.length:=by omega
 refine zab zbu hA hF3.ext fun v17 h17=>?_
 refine (znE h17 hF3.ext hF3.mine.is (Ext.refl _) hc hP3.ei.tab hk).mono ?_
 rintro _ w4 ⟨hx4,rfl⟩
 have hF4:=hF3.step hx4
 have hal:=zgO (T:=T3) hc hk
 have hgl:=hP3.ei.tab.2 k
 have hkT:k<T3.length:=by rw [hP3.ei.len];exact hk
 refine zad zmV zhL hF4.mine.is (by rw [zdv];exact hkT) fun b1 o1 hA1=>?_
 rw [zeh] at hA1
 refine zaa zg2 ?_
 refine zac ty3 (zdu hA1) (Ext.refl _) fun _=>?_
 refine zaz ?_
 refine br (fun hne=>?_) (fun heq=>?_)
 · refine znG hF4 (hP3.ei.ne hc) hkT hal fun w5 hF5 hc5=>?_
   refine zag (by omega) ?_
   exact ⟨mk-1,by omega,k+1,by omega,true,_,rfl,by omega,hF5,hP3.set hc hk fun e=>hne (by rw [e];rfl)⟩
 refine zag (by omega) ?_
 exact ⟨mk-1,by omega,k+1,by omega,ag3,T3,rfl,by omega,hF4,hP3.skip (Int.ofNat_inj.1 (Decidable.not_not.1 heq))⟩
end Go.Proofs.YtifonhplnmpgaaaGreat

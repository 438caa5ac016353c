/-
  Parts of the proof, put together by program.
-/
import Derived.Test.YtdmailcgaekimaaGreatPFnSeen4
set_option linter.unusedVariables false
set_option linter.unusedSimpArgs false
set_option linter.unusedSectionVars false
namespace Go.Proofs.YtdmailcgaekimaaGreat
open Go Go.Sh Go.Proofs
open Rep (rep)
section
variable (G L P:List ByteArray)
mutual
def emS:DStmt→Nat→List DIns
  | .mk k n t b e,at_=>
    if k=1 then [⟨1,plc n G,t,0⟩]
    else if k=4 then [⟨4,plc n P,term0,0⟩]
    else if k=5 then [⟨5,plc n P,term0,0⟩]
    else if k=6 then [⟨6,plc n L,term0,0⟩]
    else if k=7 then [⟨7,plc n L,term0,0⟩]
    else if k=8 then [⟨8,0,term0,0⟩]
    else if k=3 then ⟨2,0,t,((at_+1+(emL b (at_+1)).length+1:Nat):Int)⟩ :: (emL b (at_+1)++[⟨3,0,term0,(at_:Int)⟩])
    else if k=2 then
      (if e.length=0 then ⟨2,0,t,((at_+1+(emL b (at_+1)).length:Nat):Int)⟩ :: emL b (at_+1)
      else ⟨2,0,t,((at_+1+(emL b (at_+1)).length+1:Nat):Int)⟩ :: (emL b (at_+1) ++
        (⟨3,0,term0,((at_+1+(emL b (at_+1)).length+1+(emL e (at_+1+(emL b (at_+1)).length+1)).length:Nat):Int)⟩ :: emL e (at_+1+(emL b (at_+1)).length+1))))
    else []
def emL:List DStmt→Nat→List DIns
  | [],_=>[]
  | x :: l,at_=>emS x at_++emL l (at_+(emS x at_).length)
end
def InsQ (x:DIns) (lo hi:Nat):Prop:=1≤x.op∧x.op≤8 ∧
 (0≤x.arg∧x.arg<if x.op=1 then (G.length:Int) else if x.op=4∨x.op=5 then P.length else if x.op=6∨x.op=7 then L.length else 1) ∧
 (if x.op=1∨x.op=2 then TmR G x.term else x.term=term0)∧(if x.op=2∨x.op=3 then (lo:Int)≤x.to∧x.to≤hi else x.to=0)
end
section
variable {G L P:List ByteArray}
theorem InsQ.mono {x:DIns} {lo hi lo' hi':Nat} (h:InsQ G L P x lo hi) (h1:lo'≤lo) (h2:hi≤hi'):InsQ G L P x lo' hi':=by
 obtain ⟨a,b,c,d,e⟩:=h
 refine ⟨a,b,c,d,?_⟩
 split at e
 · rename_i hh;rw [if_pos hh];omega
 rename_i hh;rw [if_neg hh];exact e
theorem zlo {n:ByteArray} {l:List ByteArray} (h:n∈l):0≤plc n l∧plc n l<l.length:=⟨zdZ.2 h,zia.2⟩
theorem zrw {op arg to:Int} {t:DTerm} {lo hi:Nat} (h1:1≤op) (h1':op≤8) (h2:0≤arg∧arg<if op=1 then (G.length:Int) else if op=4∨op=5 then P.length else if op=6∨op=7 then L.length else 1)
   (h3:if op=1∨op=2 then TmR G t else t=term0) (h4:if op=2∨op=3 then (lo:Int)≤to∧to≤hi else to=0):InsQ G L P ⟨op,arg,t,to⟩ lo hi:=⟨h1,h1',h2,h3,h4⟩
theorem zpH {t:DTerm} (ht:TmR G t) {to lo hi:Nat} (h1:lo≤to) (h2:to≤hi):InsQ G L P ⟨2,0,t,(to:Int)⟩ lo hi:=
 zrw (by decide) (by decide) (by rw [if_neg (by decide),if_neg (by decide),if_neg (by decide)];decide) (by rw [if_pos (.inr rfl)];exact ht) (by rw [if_pos (.inl rfl)];omega)
theorem zrx {to lo hi:Nat} (h1:lo≤to) (h2:to≤hi):InsQ G L P ⟨3,0,term0,(to:Int)⟩ lo hi:=
 zrw (by decide) (by decide) (by rw [if_neg (by decide),if_neg (by decide),if_neg (by decide)];decide) (by rw [if_neg (by decide)]) (by rw [if_pos (.inr rfl)];omega)
theorem zt7 {c:Scp} (hG:G=c.gl) (hL:L=c.lk) (hP:∀ x∈c.pr,x∈P):∀ (n:Nat),
   (∀ (t:DStmt) (a:Nat),StR c n t→(∀ x∈emS G L P t a,InsQ G L P x a (a+(emS G L P t a).length))∧(emS G L P t a).length≤2*szS t) ∧
   ∀ (l:List DStmt) (a:Nat),(∀ x∈l,StR c n x)→(∀ x∈emL G L P l a,InsQ G L P x a (a+(emL G L P l a).length))∧(emL G L P l a).length≤2*szL l:=by
 have hl:∀ n,(∀ (t:DStmt) (a:Nat),StR c n t→(∀ x∈emS G L P t a,InsQ G L P x a (a+(emS G L P t a).length))∧(emS G L P t a).length≤2*szS t) →
     ∀ (l:List DStmt) (a:Nat),(∀ x∈l,StR c n x)→(∀ x∈emL G L P l a,InsQ G L P x a (a+(emL G L P l a).length))∧(emL G L P l a).length≤2*szL l:=by
   intro n hs l
   induction l with
   | nil=>intro a _;rw [emL];exact ⟨(fun x hx=>by cases hx),Nat.zero_le _⟩
   | cons t l ih=>
     intro a h
     have h1:=hs t a (h t (by simp))
     have h2:=ih (a+(emS G L P t a).length) fun x hx=>h x (by simp [hx])
     rw [emL,szL]
     generalize emS G L P t a=u at *
     generalize emL G L P l (a+u.length)=v at *
     rw [List.length_append]
     refine ⟨fun x hx=>?_,by omega⟩
     rcases List.mem_append.1 hx with hx | hx
     · exact (h1.1 x hx).mono (Nat.le_refl _) (by omega)
     exact (h2.1 x hx).mono (by omega) (by omega)
 have h0:∀ (t:DStmt) (a:Nat),St0 c t→(∀ x∈emS G L P t a,InsQ G L P x a (a+(emS G L P t a).length))∧(emS G L P t a).length≤2*szS t:=by
   rintro ⟨k,n,t,b,e⟩ a h
   rw [emS,szS]
   rcases h with ⟨hk,hn,ht,_,_⟩ | ⟨hk,hn,_⟩ | ⟨hk,hn,_⟩ | ⟨hk,hn,_⟩
   · have hk:k=1:=hk
     have hn:n∈c.gl:=hn
     rw [if_pos hk]
     refine ⟨fun x hx=>?_,by simp;omega⟩
     simp only [List.mem_cons,List.not_mem_nil,or_false] at hx
     subst hx
     exact zrw (by decide) (by decide) (by rw [if_pos rfl];exact zlo (by rw [hG];exact hn)) (by rw [if_pos (.inl rfl)];exact hG▸ht) (by rw [if_neg (by decide)])
   · have hk:k=4∨k=5:=hk
     have hn:n∈c.pr:=hn
     rw [if_neg (by omega)]
     rcases hk with hk | hk
     · rw [if_pos hk]
       refine ⟨fun x hx=>?_,by simp;omega⟩
       simp only [List.mem_cons,List.not_mem_nil,or_false] at hx
       subst hx
       exact zrw (by decide) (by decide) (by rw [if_neg (by decide),if_pos (.inl rfl)];exact zlo (hP _ hn)) (by rw [if_neg (by decide)]) (by rw [if_neg (by decide)])
     rw [if_neg (by omega),if_pos hk]
     refine ⟨fun x hx=>?_,by simp;omega⟩
     simp only [List.mem_cons,List.not_mem_nil,or_false] at hx
     subst hx
     exact zrw (by decide) (by decide) (by rw [if_neg (by decide),if_pos (.inr rfl)];exact zlo (hP _ hn)) (by rw [if_neg (by decide)]) (by rw [if_neg (by decide)])
   · have hk:k=6∨k=7:=hk
     have hn:n∈c.lk:=hn
     rw [if_neg (by omega),if_neg (by omega),if_neg (by omega)]
     rcases hk with hk | hk
     · rw [if_pos hk]
       refine ⟨fun x hx=>?_,by simp;omega⟩
       simp only [List.mem_cons,List.not_mem_nil,or_false] at hx
       subst hx
       exact zrw (by decide) (by decide) (by rw [if_neg (by decide),if_neg (by decide),if_pos (.inl rfl)];exact zlo (by rw [hL];exact hn)) (by rw [if_neg (by decide)]) (by rw [if_neg (by decide)])
     rw [if_neg (by omega),if_pos hk]
     refine ⟨fun x hx=>?_,by simp;omega⟩
     simp only [List.mem_cons,List.not_mem_nil,or_false] at hx
     subst hx
     exact zrw (by decide) (by decide) (by rw [if_neg (by decide),if_neg (by decide),if_pos (.inr rfl)];exact zlo (by rw [hL];exact hn)) (by rw [if_neg (by decide)]) (by rw [if_neg (by decide)])
   have hk:k=8:=hk
   rw [if_neg (by omega),if_neg (by omega),if_neg (by omega),if_neg (by omega),if_neg (by omega),if_pos hk]
   refine ⟨fun x hx=>?_,by simp;omega⟩
   simp only [List.mem_cons,List.not_mem_nil,or_false] at hx
   subst hx
   exact zrw (by decide) (by decide) (by rw [if_neg (by decide),if_neg (by decide),if_neg (by decide)];decide) (by rw [if_neg (by decide)]) (by rw [if_neg (by decide)])
 intro n
 induction n with
 | zero=>exact ⟨fun t a h=>h0 t a h.zero,hl 0 fun t a h=>h0 t a h.zero⟩
 | succ n ih=>
   have hs:∀ (t:DStmt) (a:Nat),StR c (n+1) t→(∀ x∈emS G L P t a,InsQ G L P x a (a+(emS G L P t a).length))∧(emS G L P t a).length≤2*szS t:=by
     intro t a h
     rcases h.succ with h | ⟨hk,hn,ht,hb,he⟩
     · exact h0 t a h
     obtain ⟨k,nm,t,b,e⟩:=t
     have hq:k=2∨k=3∧e=[]:=hk
     clear hk
     replace ht:TmR G t:=hG▸ht
     have h1:=ih.2 b (a+1) hb
     have h2:=ih.2 e (a+1+(emL G L P b (a+1)).length+1) he
     rw [emS,szS,if_neg (by omega),if_neg (by omega),if_neg (by omega),if_neg (by omega),if_neg (by omega),if_neg (by omega)]
     generalize emL G L P b (a+1)=u at *
     generalize emL G L P e (a+1+u.length+1)=v at *
     rcases hq with hq | ⟨hq,rfl⟩
     · rw [if_neg (by omega),if_pos hq]
       split
       · refine ⟨fun x hx=>?_,by simp only [List.length_cons];omega⟩
         rw [List.length_cons]
         rcases List.mem_cons.1 hx with rfl | hx
         · exact zpH ht (by omega) (by omega)
         exact (h1.1 x hx).mono (by omega) (by omega)
       rename_i hne
       refine ⟨fun x hx=>?_,?_⟩
       · simp only [List.length_cons,List.length_append]
         rcases List.mem_cons.1 hx with rfl | hx
         · exact zpH ht (by omega) (by omega)
         rcases List.mem_append.1 hx with hx | hx
         · exact (h1.1 x hx).mono (by omega) (by omega)
         rcases List.mem_cons.1 hx with rfl | hx
         · exact zrx (by omega) (by omega)
         exact (h2.1 x hx).mono (by omega) (by omega)
       have:=zj6 e
       simp only [List.length_cons,List.length_append];omega
     rw [if_pos hq]
     refine ⟨fun x hx=>?_,by simp only [List.length_cons,List.length_append,List.length_nil];omega⟩
     simp only [List.length_cons,List.length_append,List.length_nil]
     rcases List.mem_cons.1 hx with rfl | hx
     · exact zpH ht (by omega) (by omega)
     rcases List.mem_append.1 hx with hx | hx
     · exact (h1.1 x hx).mono (by omega) (by omega)
     simp only [List.mem_cons,List.not_mem_nil,or_false] at hx
     subst hx
     exact zrx (by omega) (by omega)
   exact ⟨hs,hl (n+1) hs⟩
end
def zsr:DIns:=⟨9,0,term0,0⟩
section
variable (G L P:List ByteArray)
def emP:List DProc→Nat→List DIns
 | [],_=>[]
 | x :: l,a=>emL G L P x.body a++(zsr :: emP l (a+(emL G L P x.body a).length+1))
def zlp:List DProc→Nat→List Int
 | [],_=>[]
 | x :: l,a=>(a:Int) :: zlp l (a+(emL G L P x.body a).length+1)
end
def zbh (p:DProg):DCode:=
 ⟨p.globals,p.locks,p.procs.map DProc.name,zlp p.globals p.locks (p.procs.map DProc.name) p.procs 0,emP p.globals p.locks (p.procs.map DProc.name) p.procs 0⟩
theorem zhN (G L P:List ByteArray):∀ (l:List DProc) (a:Nat),(zlp G L P l a).length=l.length
 | [],_=>by rw [zlp];rfl
 | x :: l,a=>by rw [zlp,List.length_cons,List.length_cons,zhN G L P l]
theorem zry (G L P:List ByteArray):∀ (l:List DProc) (a i:Nat) (hi:i<l.length),∃ s,(zlp G L P l a)[i]?=some ((a+s:Nat):Int)∧s+(emL G L P l[i].body (a+s)).length+1≤(emP G L P l a).length ∧
   (∀ k,k<(emL G L P l[i].body (a+s)).length→(emP G L P l a)[s+k]?=(emL G L P l[i].body (a+s))[k]?)∧(emP G L P l a)[s+(emL G L P l[i].body (a+s)).length]?=some zsr ∧
   (i=0→s=0)∧(i+1<l.length→(zlp G L P l a)[i+1]?=some ((a+s+(emL G L P l[i].body (a+s)).length+1:Nat):Int))∧(i+1=l.length→s+(emL G L P l[i].body (a+s)).length+1=(emP G L P l a).length)
 | x :: l,a,0,hi=>by
   refine ⟨0,?_⟩
   simp only [Nat.add_zero,Nat.zero_add,List.getElem_cons_zero]
   rw [zlp,emP]
   generalize emL G L P x.body a=u
   refine ⟨by simp,by simp,fun k hk=>List.getElem?_append_left hk,by simp,by simp,fun h=>?_,fun h=>?_⟩
   · cases l with
     | nil=>simp at h
     | cons y l=>rw [zlp];rfl
   have:l=[]:=List.eq_nil_of_length_eq_zero (by simpa using h)
   subst this
   rw [emP];simp
 | x :: l,a,i+1,hi=>by
   obtain ⟨s,h1,h2,h3,h4,h5,h6,h7⟩:=zry G L P l (a+(emL G L P x.body a).length+1) i (by simpa using hi)
   refine ⟨(emL G L P x.body a).length+1+s,?_⟩
   simp only [List.getElem_cons_succ]
   rw [zlp,emP]
   have e:a+((emL G L P x.body a).length+1+s)=a+(emL G L P x.body a).length+1+s:=by omega
   rw [e]
   generalize emL G L P x.body a=u at *
   have hil:i<l.length:=by simpa using hi
   generalize emL G L P (l[i]'hil).body (a+u.length+1+s)=v at *
   have sh:∀ (q:Nat) (m:List DIns),(u++zsr :: m)[u.length+1+q]?=m[q]?:=by
     intro q m
     rw [List.getElem?_append_right (by omega),show u.length+1+q-u.length=q+1 by omega,List.getElem?_cons_succ]
   refine ⟨by simpa using h1,by simp only [List.length_append,List.length_cons];omega,fun k hk=>?_,?_,fun h=>by omega,fun h=>?_,fun h=>?_⟩
   · rw [show u.length+1+s+k=u.length+1+(s+k) by omega,sh];exact h3 k hk
   · rw [show u.length+1+s+v.length=u.length+1+(s+v.length) by omega,sh];exact h4
   · rw [List.getElem?_cons_succ];exact h6 (by simpa using h)
   have:=h7 (by simpa using h)
   simp only [List.length_append,List.length_cons];omega
theorem zpI (G L P:List ByteArray) {m:Nat}:∀ (l:List DProc) (a:Nat),(∀ x∈l,∀ b,(emL G L P x.body b).length≤m)→(emP G L P l a).length≤l.length*(m+1)
 | [],_,_=>by rw [emP];simp
 | x :: l,a,h=>by
   have h1:=h x (by simp) a
   have h2:=zpI G L P l (a+(emL G L P x.body a).length+1) fun y hy=>h y (by simp [hy])
   rw [emP,List.length_append,List.length_cons,List.length_cons,Nat.add_mul,Nat.one_mul]
   omega
theorem zke {α:Type} {l:List α} {i:Nat} {x d:α} (h:l[i]?=some x):l.getD i d=x:=by rw [List.getD_eq_getElem?_getD,h];rfl
theorem zlq:∀ k,k<4→(prc4.take (1+k)).length≤4∧(prc4.take (1+k)).all zaZ=true∧(prc4.take (1+k)).Nodup∧zgR∈prc4.take (1+k)
 | 0,_=>by decide
 | 1,_=>by decide
 | 2,_=>by decide
 | 3,_=>by decide
 | k+4,h=>absurd h (by omega)
theorem zmx {p:DProg} (hp:ProgR p) {i:Nat} (hi:i<p.procs.length):∃ s n:Nat,en (zbh p) i=(s:Int)∧zdl (zbh p) i=((s+n+1:Nat):Int)∧s+n+1≤(zbh p).ins.length ∧
   (∀ k,k<n→InsQ (zbh p).globals (zbh p).locks (zbh p).procs (zbo (zbh p) (s+k)) s (s+n))∧zbo (zbh p) (s+n)=zsr∧(i=0→s=0):=by
 obtain ⟨s,h1,h2,h3,h4,h5,h6,h7⟩:=zry p.globals p.locks (p.procs.map DProc.name) p.procs 0 i hi
 simp only [Nat.zero_add] at h1 h2 h3 h4 h5 h6 h7
 have hb:=hp.b _ (List.getElem_mem hi)
 have hr:=(zt7 (G:=p.globals) (L:=p.locks) (P:=p.procs.map DProc.name) (c:=⟨p.globals,p.locks,(p.procs.map DProc.name).drop 1⟩) rfl rfl (fun x hx=>List.mem_of_mem_drop hx) 2).2 p.procs[i].body s hb.1
 generalize emL p.globals p.locks (p.procs.map DProc.name) p.procs[i].body s=u at *
 refine ⟨s,u.length,zke h1,?_,h2,fun k hk=>?_,zke h4,h5⟩
 · unfold zdl
   have hl:(zbh p).entry.length=p.procs.length:=zhN _ _ _ _ _
   split
   · rename_i hh;exact zke (h6 (by omega))
   rename_i hh;show ((emP _ _ _ _ _).length:Int)=_;rw [←h7 (by omega)]
 have e:zbo (zbh p) (s+k)=u[k]:=zke (by
   have:=h3 k hk
   rw [List.getElem?_eq_getElem hk] at this
   exact this)
 rw [e]
 exact (hr.1 _ (List.getElem_mem hk)).mono (Nat.le_refl _) (Nat.le_refl _)
theorem zfs {p:DProg} (hp:ProgR p):CodeR (zbh p)∧(zbh p).ins.length≤436:=by
 obtain ⟨k,hk,hn⟩:=hp.n
 obtain ⟨n1,n2,n3,n4⟩:=zlq k hk
 have hl:(zbh p).entry.length=p.procs.length:=zhN _ _ _ _ _
 have hpl:(p.procs.map DProc.name).length=p.procs.length:=List.length_map _
 have hp4:p.procs.length≤4:=by rw [←hpl,hn];exact n1
 have hN:NamesR (zbh p):=by
   refine ⟨?_,?_,?_,?_,?_,?_,?_⟩
   · show (decide ((p.globals.length:Int)≤6)&&p.globals.all zaZ)=true
     rcases hp.g with e | e<;>(rw [e];decide)
   · show (decide ((p.locks.length:Int)≤6)&&p.locks.all zaZ)=true
     rcases hp.l with e | e | e<;>(rw [e];decide)
   · show (decide (((p.procs.map DProc.name).length:Int)≤8)&&(p.procs.map DProc.name).all zaZ)=true
     rw [hn,n2,decide_eq_true (by omega)];rfl
   · show p.globals.Nodup
     rcases hp.g with e | e<;>(rw [e];decide)
   · show p.locks.Nodup
     rcases hp.l with e | e | e<;>(rw [e];decide)
   · show (p.procs.map DProc.name).Nodup
     rw [hn];exact n3
   show zgR∈p.procs.map DProc.name
   rw [hn];exact n4
 have hil:(zbh p).ins.length≤436:=by
   have:=zpI p.globals p.locks (p.procs.map DProc.name) (m:=108) p.procs 0 fun x hx b=>by
     have hb:=hp.b x hx
     have hr:=(zt7 (G:=p.globals) (L:=p.locks) (P:=p.procs.map DProc.name) (c:=⟨p.globals,p.locks,(p.procs.map DProc.name).drop 1⟩) rfl rfl (fun x hx=>List.mem_of_mem_drop hx) 2).2 x.body b hb.1
     have:=hb.2
     omega
   show (emP _ _ _ _ _).length≤436
   omega
 have h0:0<p.procs.length:=by
   rw [←hpl,hn];exact List.length_pos_of_mem n4
 have hF:EntF (zbh p):=by
   refine ⟨by rw [hl];exact hpl.symm,by omega,?_,fun i hi=>?_⟩
   · obtain ⟨s,n,e1,_,_,_,_,e0⟩:=zmx hp h0
     rw [e1,e0 rfl];rfl
   obtain ⟨s,n,e1,e2,e3,_,_,_⟩:=zmx hp (i:=i) (by omega)
   rw [e1,e2];omega
 have hpp:0<(zbh p).procs.length:=by show 0<(p.procs.map DProc.name).length;omega
 have hfind:∀ j:Nat,j<(zbh p).ins.length→∃ i s n:Nat,i<p.procs.length∧en (zbh p) i=(s:Int)∧zdl (zbh p) i=((s+n+1:Nat):Int)∧s≤j∧j≤s+n∧zaL (zbh p) j=i ∧
     (∀ k,k<n→InsQ (zbh p).globals (zbh p).locks (zbh p).procs (zbo (zbh p) (s+k)) s (s+n))∧zbo (zbh p) (s+n)=zsr:=by
   intro j hj
   obtain ⟨i,hi,a1,a2,a3⟩:=hF.find hpp (a:=(j:Int)) (by omega) (by omega)
   obtain ⟨s,n,e1,e2,e3,e4,e5,_⟩:=zmx hp (i:=i) (by omega)
   rw [e1] at a1
   rw [e2] at a2
   exact ⟨i,s,n,by omega,e1,e2,by omega,by omega,a3,e4,e5⟩
 have hends:∀ (i:Nat),zd9 (zbh p) i=zdl (zbh p) i-1:=fun i=>zdq _ i
 refine ⟨⟨hN,⟨hF.len,hF.ins,fun i hi=>⟨fun h=>by subst h;exact hF.zero,fun h=>?_,?_⟩,fun j hj=>?_⟩,fun j hj=>?_⟩,hil⟩
 · have h1:=(hF.lt (i-1) (by omega)).1
   rw [hF.step (by omega),show i-1+1=i by omega] at h1
   exact h1
 · have:=hF.lt i hi;omega
 · obtain ⟨i,s,n,hi,e1,e2,a1,a2,a3,e4,e5⟩:=hfind j hj
   rw [a3,hends,e2]
   constructor
   · intro h9
     by_cases hjn:j=s+n
     · omega
     have:=e4 (j-s) (by omega)
     rw [show s+(j-s)=j by omega] at this
     have:=this.2.1
     omega
   intro h9
   have:j=s+n:=by omega
   rw [this,e5];rfl
 obtain ⟨i,s,n,hi,e1,e2,a1,a2,a3,e4,e5⟩:=hfind j hj
 rw [a3,hends,e2]
 simp only [Int.toNat_natCast]
 rw [e1]
 by_cases hjn:j=s+n
 · rw [hjn,e5]
   have ha:(0:Int)<zbK (zbh p) 9:=by
     unfold zbK
     rw [if_neg (by decide),if_neg (by decide),if_neg (by decide)];decide
   refine ⟨by decide,⟨by decide,ha⟩,by rw [if_neg (by decide)];rfl,by rw [if_neg (by decide)];rfl⟩
 have hq:=e4 (j-s) (by omega)
 rw [show s+(j-s)=j by omega] at hq
 generalize zbo (zbh p) j=x at *
 obtain ⟨q1,q2,q3,q4,q5⟩:=hq
 refine ⟨⟨q1,by omega⟩,?_,?_,?_⟩
 · unfold zbK;exact q3
 · split at q4
   · rename_i hh
     rw [if_pos hh]
     refine ⟨q4.1,fun y hy=>?_⟩
     show y∈p.globals
     exact q4.2.1 y hy
   rename_i hh;rw [if_neg hh];exact q4
 split at q5
 · rename_i hh;rw [if_pos hh];omega
 rename_i hh;rw [if_neg hh];exact q5
def F295 (a0 a1:Value) (w:World) (R:VW):Prop:=
 LOOPI [5] [(iV 0)] w fun u2 w next2=>
 rN 66 3 a0 w fun x10=>
 rC (u2 5) x10 w fun x11=>
 BR x11
 (rX 66 a0 (u2 5) w fun x16=>
 rL 81 x16 w fun x17=>
 oP (Instr.alloc 81 true (.tuple #[])) w fun x6 w=>
 oS 81 x6 x17 w fun w=>
 JOIN [7] (fun J6=>
 rF 81 x6 0 w fun x18=>
 rL 3 x18 w fun x19=>
 rB .eql 3 T0 U0 x19 (iV 2) w fun x20=>
 BR x20
 (J6 [(Value.bool true)] w)
 (rF 81 x6 0 w fun x22=>
 rL 3 x22 w fun x23=>
 rB .eql 3 T0 U0 x23 (iV 3) w fun x24=>
 J6 [x24] w)) (fun u6 w=>
 rL 81 x6 w fun x26=>
 cL 324 [x26] w fun x27 w=>
 rD (Op.unary .not x27) w fun x28=>
 BR x28
 (R (Value.bool false) w)
 (GBR (u6 7)
 (rB .eql 3 T0 U0 a1 (iV 0) w fun x33=>
 BR x33
 (R (Value.bool false) w)
 (GBR (u6 7)
 (rF 81 x6 3 w fun x39=>
 rL 66 x39 w fun x40=>
 rB .sub 3 T0 U0 a1 (iV 1) w fun x42=>
 cL 295 [x40,x42] w fun x43 w=>
 rD (Op.unary .not x43) w fun x44=>
 GBR x44
 (R (Value.bool false) w)
 (rF 81 x6 4 w fun x46=>
 rL 66 x46 w fun x47=>
 rB .sub 3 T0 U0 a1 (iV 1) w fun x49=>
 cL 295 [x47,x49] w fun x50 w=>
 rD (Op.unary .not x50) w fun x51=>
 BR x51
 (R (Value.bool false) w)
 (rA (u2 5) (iV 1) w fun x13=>
 next2 [x13] w))
 (BR undef
 (R (Value.bool false) w)
 (BR undef
 (R (Value.bool false) w)
 (rA (u2 5) (iV 1) w fun x13=>
 next2 [x13] w))))
 (rA (u2 5) (iV 1) w fun x13=>
 next2 [x13] w)
 (BR undef
 (BR undef
 (R (Value.bool false) w)
 (rA (u2 5) (iV 1) w fun x13=>
 next2 [x13] w))
 (rA (u2 5) (iV 1) w fun x13=>
 next2 [x13] w))))
 (GBR (u6 7)
 (rF 81 x6 3 w fun x39=>
 rL 66 x39 w fun x40=>
 rB .sub 3 T0 U0 a1 (iV 1) w fun x42=>
 cL 295 [x40,x42] w fun x43 w=>
 rD (Op.unary .not x43) w fun x44=>
 GBR x44
 (R (Value.bool false) w)
 (rF 81 x6 4 w fun x46=>
 rL 66 x46 w fun x47=>
 rB .sub 3 T0 U0 a1 (iV 1) w fun x49=>
 cL 295 [x47,x49] w fun x50 w=>
 rD (Op.unary .not x50) w fun x51=>
 BR x51
 (R (Value.bool false) w)
 (rA (u2 5) (iV 1) w fun x13=>
 next2 [x13] w))
 (BR undef
 (R (Value.bool false) w)
 (BR undef
 (R (Value.bool false) w)
 (rA (u2 5) (iV 1) w fun x13=>
 next2 [x13] w))))
 (rA (u2 5) (iV 1) w fun x13=>
 next2 [x13] w)
 (BR undef
 (BR undef
 (R (Value.bool false) w)
 (rA (u2 5) (iV 1) w fun x13=>
 next2 [x13] w))
 (rA (u2 5) (iV 1) w fun x13=>
 next2 [x13] w)))
 (BR undef
 (BR undef
 (R (Value.bool false) w)
 (GBR (u6 7)
 (rF 81 x6 3 w fun x39=>
 rL 66 x39 w fun x40=>
 rB .sub 3 T0 U0 a1 (iV 1) w fun x42=>
 cL 295 [x40,x42] w fun x43 w=>
 rD (Op.unary .not x43) w fun x44=>
 GBR x44
 (R (Value.bool false) w)
 (rF 81 x6 4 w fun x46=>
 rL 66 x46 w fun x47=>
 rB .sub 3 T0 U0 a1 (iV 1) w fun x49=>
 cL 295 [x47,x49] w fun x50 w=>
 rD (Op.unary .not x50) w fun x51=>
 BR x51
 (R (Value.bool false) w)
 (rA (u2 5) (iV 1) w fun x13=>
 next2 [x13] w))
 (BR undef
 (R (Value.bool false) w)
 (BR undef
 (R (Value.bool false) w)
 (rA (u2 5) (iV 1) w fun x13=>
 next2 [x13] w))))
 (rA (u2 5) (iV 1) w fun x13=>
 next2 [x13] w)
 (BR undef
 (BR undef
 (R (Value.bool false) w)
 (rA (u2 5) (iV 1) w fun x13=>
 next2 [x13] w))
 (rA (u2 5) (iV 1) w fun x13=>
 next2 [x13] w))))
 (GBR (u6 7)
 (rF 81 x6 3 w fun x39=>
 rL 66 x39 w fun x40=>
 rB .sub 3 T0 U0 a1 (iV 1) w fun x42=>
 cL 295 [x40,x42] w fun x43 w=>
 rD (Op.unary .not x43) w fun x44=>
 GBR x44
 (R (Value.bool false) w)
 (rF 81 x6 4 w fun x46=>
 rL 66 x46 w fun x47=>
 rB .sub 3 T0 U0 a1 (iV 1) w fun x49=>
 cL 295 [x47,x49] w fun x50 w=>
 rD (Op.unary .not x50) w fun x51=>
 BR x51
 (R (Value.bool false) w)
 (rA (u2 5) (iV 1) w fun x13=>
 next2 [x13] w))
 (BR undef
 (R (Value.bool false) w)
 (BR undef
 (R (Value.bool false) w)
 (rA (u2 5) (iV 1) w fun x13=>
 next2 [x13] w))))
 (rA (u2 5) (iV 1) w fun x13=>
 next2 [x13] w)
 (BR undef
 (BR undef
 (R (Value.bool false) w)
 (rA (u2 5) (iV 1) w fun x13=>
 next2 [x13] w))
 (rA (u2 5) (iV 1) w fun x13=>
 next2 [x13] w)))))))
 (R (Value.bool true) w)
def cfg295:Cfg:=⟨extL,[(6,66846848,[7])],[(2,36028797018963952,[5])],[],[],[],[]⟩
theorem F295_call {a0 a1:Value} {w:World} {R:VW} (h:F295 a0 a1 w R):cL 295 [a0,a1] w R:=co (g:=cfg295) Tryz.func295 (by kernel_rfl) (by kernel_rfl) (by kernel_rfl) h
def F256 (a0:Value) (w:World) (R:VW):Prop:=
 cL 168 [a0,(iV 60)] w fun x4 w=>
 rB .geq 3 T0 U0 x4 (iV 0) w fun x5=>
 BR x5
 (cL 295 [a0,(iV 6)] w fun x8 w=>
 R x8 w)
 (R (Value.bool false) w)
def cfg256:Cfg:=⟨extL,[],[],[],[],[],[]⟩
theorem F256_call {a0:Value} {w:World} {R:VW} (h:F256 a0 w R):cL 256 [a0] w R:=co (g:=cfg256) Tryz.func256 (by kernel_rfl) (by kernel_rfl) (by kernel_rfl) h
def F189 (a0:Value) (w:World) (R:VW):Prop:=
 oP (Instr.box 64 a0) w fun x1 w=>
 oP (Instr.buildSlice 24 0 #[]) w fun x5 w=>
 LOOPI [3,4] [x5,(iV 0)] w fun u3 w next3=>
 rF 64 x1 2 w fun x7=>
 rL 62 x7 w fun x8=>
 rN 62 3 x8 w fun x9=>
 rC (u3 4) x9 w fun x10=>
 BR x10
 (rF 64 x1 2 w fun x14=>
 rL 62 x14 w fun x15=>
 rX 62 x15 (u3 4) w fun x17=>
 rF 69 x17 0 w fun x18=>
 rL 9 x18 w fun x19=>
 oP (Instr.buildSlice 24 1 #[(0,x19)]) w fun x20 w=>
 oP (Builtin.append_ #[24,24] 24 [(u3 3),x20].toArray) w fun x21 w=>
 rA (u3 4) (iV 1) w fun x12=>
 next3 [x21,x12] w)
 (R (u3 3) w)
def cfg189:Cfg:=⟨extL,[],[(3,4194264,[3,4])],[],[],[],[]⟩
theorem F189_call {a0:Value} {w:World} {R:VW} (h:F189 a0 w R):cL 189 [a0] w R:=co (g:=cfg189) Tryz.func189 (by kernel_rfl) (by kernel_rfl) (by kernel_rfl) h
def F296 (a0 a1 a2:Value) (w:World) (R:VW):Prop:=
 cL 211 [a1,a2] w fun x9 w=>
 BR x9
 (R a0 w)
 (cL 211 [a0,a2] w fun x13 w=>
 BR x13
 (R a0 w)
 (oP (Instr.buildSlice 24 1 #[(0,a2)]) w fun x18 w=>
 oP (Builtin.append_ #[24,24] 24 [a0,x18].toArray) w fun x19 w=>
 R x19 w))
def cfg296:Cfg:=⟨extL,[],[],[],[],[],[]⟩
theorem F296_call {a0 a1 a2:Value} {w:World} {R:VW} (h:F296 a0 a1 a2 w R):cL 296 [a0,a1,a2] w R:=co (g:=cfg296) Tryz.func296 (by kernel_rfl) (by kernel_rfl) (by kernel_rfl) h
def F257 (a0 a1 a2:Value) (w:World) (R:VW):Prop:=
 oP (Instr.box 64 a0) w fun x3 w=>
 LOOPI [2,7] [a2,(iV 0)] w fun u2 w next2=>
 rN 66 3 a1 w fun x13=>
 rC (u2 7) x13 w fun x14=>
 BR x14
 (rX 66 a1 (u2 7) w fun x19=>
 rL 81 x19 w fun x20=>
 oP (Instr.alloc 81 true (.tuple #[])) w fun x8 w=>
 oS 81 x8 x20 w fun w=>
 JOIN [2] (fun J14=>
 rF 81 x8 0 w fun x21=>
 rL 3 x21 w fun x22=>
 rB .eql 3 T0 U0 x22 (iV 1) w fun x24=>
 BR x24
 (rF 64 x3 0 w fun x26=>
 rL 24 x26 w fun x27=>
 rF 81 x8 1 w fun x28=>
 rL 9 x28 w fun x29=>
 cL 296 [(u2 2),x27,x29] w fun x30 w=>
 J14 [x30] w)
 (rB .eql 3 T0 U0 x22 (iV 6) w fun x32=>
 BR x32
 (rF 64 x3 1 w fun x35=>
 rL 24 x35 w fun x36=>
 rF 81 x8 1 w fun x37=>
 rL 9 x37 w fun x38=>
 cL 296 [(u2 2),x36,x38] w fun x39 w=>
 J14 [x39] w)
 (rB .eql 3 T0 U0 x22 (iV 7) w fun x33=>
 BR x33
 (rF 64 x3 1 w fun x35=>
 rL 24 x35 w fun x36=>
 rF 81 x8 1 w fun x37=>
 rL 9 x37 w fun x38=>
 cL 296 [(u2 2),x36,x38] w fun x39 w=>
 J14 [x39] w)
 (rB .eql 3 T0 U0 x22 (iV 4) w fun x41=>
 BR x41
 ((fun w=>rL 64 x3 w fun x44=>
 rF 81 x8 1 w fun x46=>
 rL 9 x46 w fun x47=>
 (fun w_=>cL 189 [x44] w_ fun x45 w=>
 Ext w_ w ∧
 cL 296 [(u2 2),x45,x47] w fun x48 w=>
 J14 [x48] w) w) (World.drew1 w))
 (rB .eql 3 T0 U0 x22 (iV 5) w fun x42=>
 BR x42
 ((fun w=>rL 64 x3 w fun x44=>
 rF 81 x8 1 w fun x46=>
 rL 9 x46 w fun x47=>
 (fun w_=>cL 189 [x44] w_ fun x45 w=>
 Ext w_ w ∧
 cL 296 [(u2 2),x45,x47] w fun x48 w=>
 J14 [x48] w) w) (World.drew1 w))
 (J14 [(u2 2)] w)))))) (fun u14 w=>
 JOIN [2] (fun J20=>
 rF 81 x8 0 w fun x49=>
 rL 3 x49 w fun x50=>
 rB .eql 3 T0 U0 x50 (iV 1) w fun x51=>
 BR x51
 (rF 81 x8 2 w fun x62=>
 rL 78 x62 w fun x63=>
 cL 210 [x63] w fun x64 w=>
 LOOPI [2,10] [(u14 2),(iV 0)] w fun u17 w next17=>
 rN 24 3 x64 w fun x67=>
 rC (u17 10) x67 w fun x68=>
 BR x68
 ((fun w=>rF 64 x3 0 w fun x72=>
 rL 24 x72 w fun x73=>
 rX 24 x64 (u17 10) w fun x76=>
 rL 9 x76 w fun x77=>
 cL 296 [(u17 2),x73,x77] w fun x78 w=>
 rA (u17 10) (iV 1) w fun x70=>
 next17 [x78,x70] w) (World.drew1 w))
 (J20 [(u17 2)] w))
 (rF 81 x8 0 w fun x53=>
 rL 3 x53 w fun x54=>
 rB .eql 3 T0 U0 x54 (iV 2) w fun x55=>
 BR x55
 (rF 81 x8 2 w fun x62=>
 rL 78 x62 w fun x63=>
 cL 210 [x63] w fun x64 w=>
 LOOPI [2,10] [(u14 2),(iV 0)] w fun u17 w next17=>
 rN 24 3 x64 w fun x67=>
 rC (u17 10) x67 w fun x68=>
 BR x68
 ((fun w=>rF 64 x3 0 w fun x72=>
 rL 24 x72 w fun x73=>
 rX 24 x64 (u17 10) w fun x76=>
 rL 9 x76 w fun x77=>
 cL 296 [(u17 2),x73,x77] w fun x78 w=>
 rA (u17 10) (iV 1) w fun x70=>
 next17 [x78,x70] w) (World.drew1 w))
 (J20 [(u17 2)] w))
 (rF 81 x8 0 w fun x58=>
 rL 3 x58 w fun x59=>
 rB .eql 3 T0 U0 x59 (iV 3) w fun x60=>
 BR x60
 (rF 81 x8 2 w fun x62=>
 rL 78 x62 w fun x63=>
 cL 210 [x63] w fun x64 w=>
 LOOPI [2,10] [(u14 2),(iV 0)] w fun u17 w next17=>
 rN 24 3 x64 w fun x67=>
 rC (u17 10) x67 w fun x68=>
 BR x68
 ((fun w=>rF 64 x3 0 w fun x72=>
 rL 24 x72 w fun x73=>
 rX 24 x64 (u17 10) w fun x76=>
 rL 9 x76 w fun x77=>
 cL 296 [(u17 2),x73,x77] w fun x78 w=>
 rA (u17 10) (iV 1) w fun x70=>
 next17 [x78,x70] w) (World.drew1 w))
 (J20 [(u17 2)] w))
 (J20 [(u14 2)] w)))) (fun u20 w=>
 rL 64 x3 w fun x79=>
 rF 81 x8 3 w fun x80=>
 rL 66 x80 w fun x81=>
 cL 257 [x79,x81,(u20 2)] w fun x83 w=>
 rL 64 x3 w fun x84=>
 rF 81 x8 4 w fun x85=>
 rL 66 x85 w fun x86=>
 cL 257 [x84,x86,x83] w fun x88 w=>
 rA (u2 7) (iV 1) w fun x16=>
 next2 [x88,x16] w)))
 (R (u2 2) w)
def cfg257:Cfg:=⟨extL,[(14,562949951324164,[2]),(20,604462909244364633933316,[2])],[(2,618970019642690137449561988,[2,7]),(17,604426016319167168250884,[2,10])],[(13,[0,1,3,4,2,5,6],4),(19,[0,1,2,3,4,5,6,7,8],0)],[],[],[]⟩
theorem F257_call {a0 a1 a2:Value} {w:World} {R:VW} (h:F257 a0 a1 a2 w R):cL 257 [a0,a1,a2] w R:=co (g:=cfg257) Tryz.func257 (by kernel_rfl) (by kernel_rfl) (by kernel_rfl) h
def F187 (a0:Value) (w:World) (R:VW):Prop:=
 oP (Instr.box 64 a0) w fun x1 w=>
 rF 64 x1 0 w fun x4=>
 rL 24 x4 w fun x5=>
 cL 224 [x5,(iV 6)] w fun x6 w=>
 rD (Op.unary .not x6) w fun x7=>
 BR x7
 (R (Value.bool false) w)
 (rF 64 x1 1 w fun x9=>
 rL 24 x9 w fun x10=>
 cL 224 [x10,(iV 6)] w fun x11 w=>
 rD (Op.unary .not x11) w fun x12=>
 BR x12
 (R (Value.bool false) w)
 (rF 64 x1 2 w fun x15=>
 rL 62 x15 w fun x16=>
 rN 62 3 x16 w fun x17=>
 rB .gtr 3 T0 U0 x17 (iV 8) w fun x18=>
 BR x18
 (R (Value.bool false) w)
 (LOOPI [3] [(iV 0)] w fun u4 w next4=>
 rF 64 x1 2 w fun x21=>
 rL 62 x21 w fun x22=>
 rN 62 3 x22 w fun x23=>
 rC (u4 3) x23 w fun x24=>
 BR x24
 (rF 64 x1 2 w fun x27=>
 rL 62 x27 w fun x28=>
 rX 62 x28 (u4 3) w fun x30=>
 rF 69 x30 0 w fun x31=>
 rL 9 x31 w fun x32=>
 cL 253 [x32] w fun x33 w=>
 rD (Op.unary .not x33) w fun x34=>
 BR x34
 (R (Value.bool false) w)
 (rF 64 x1 2 w fun x36=>
 rL 62 x36 w fun x37=>
 rX 62 x37 (u4 3) w fun x39=>
 rF 69 x39 1 w fun x40=>
 rL 66 x40 w fun x41=>
 cL 256 [x41] w fun x42 w=>
 rD (Op.unary .not x42) w fun x43=>
 BR x43
 (R (Value.bool false) w)
 (rA (u4 3) (iV 1) w fun x26=>
 next4 [x26] w)))
 (R (Value.bool true) w))))
def cfg187:Cfg:=⟨extL,[],[(4,35184371040268,[3])],[],[],[],[]⟩
theorem F187_call {a0:Value} {w:World} {R:VW} (h:F187 a0 w R):cL 187 [a0] w R:=co (g:=cfg187) Tryz.func187 (by kernel_rfl) (by kernel_rfl) (by kernel_rfl) h
def F190 (a0:Value) (w:World) (R:VW):Prop:=
 oP (Instr.box 64 a0) w fun x1 w=>
 oP (Instr.buildSlice 24 0 #[]) w fun x5 w=>
 LOOPI [3,4] [x5,(iV 0)] w fun u3 w next3=>
 rL 64 x1 w fun x6=>
 cL 187 [x6] w fun x7 w=>
 BR x7
 (rF 64 x1 2 w fun x10=>
 rL 62 x10 w fun x11=>
 rN 62 3 x11 w fun x12=>
 rC (u3 4) x12 w fun x13=>
 BR x13
 ((fun w=>rL 64 x1 w fun x17=>
 rF 64 x1 2 w fun x18=>
 rL 62 x18 w fun x19=>
 rX 62 x19 (u3 4) w fun x21=>
 rF 69 x21 1 w fun x22=>
 rL 66 x22 w fun x23=>
 cL 257 [x17,x23,(u3 3)] w fun x25 w=>
 rA (u3 4) (iV 1) w fun x16=>
 next3 [x25,x16] w) (World.drew1 w))
 (R (u3 3) w))
 (R (u3 3) w)
def cfg190:Cfg:=⟨extL,[],[(3,67108824,[3,4])],[(5,[0,1,2,3,4,5,6,7,8,9],0)],[],[],[]⟩
theorem F190_call {a0:Value} {w:World} {R:VW} (h:F190 a0 w R):cL 190 [a0] w R:=co (g:=cfg190) Tryz.func190 (by kernel_rfl) (by kernel_rfl) (by kernel_rfl) h
def F112 (a0:Value) (w:World) (R:VW):Prop:=
 oP (Instr.box 64 a0) w fun x1 w=>
 rL 64 x1 w fun x4=>
 cL 187 [x4] w fun x5 w=>
 rD (Op.unary .not x5) w fun x6=>
 BR x6
 (R (iV 1) w)
 (rF 64 x1 0 w fun x8=>
 rL 24 x8 w fun x9=>
 cL 188 [x9] w fun x10 w=>
 BR x10
 (R (iV 2) w)
 (rF 64 x1 1 w fun x12=>
 rL 24 x12 w fun x13=>
 cL 188 [x13] w fun x14 w=>
 BR x14
 (R (iV 2) w)
 (rL 64 x1 w fun x17=>
 cL 189 [x17] w fun x18 w=>
 cL 188 [x18] w fun x19 w=>
 BR x19
 (R (iV 2) w)
 (rL 64 x1 w fun x22=>
 cL 190 [x22] w fun x23 w=>
 rN 24 3 x23 w fun x24=>
 rB .gtr 3 T0 U0 x24 (iV 0) w fun x25=>
 BR x25
 (R (iV 3) w)
 (rL 64 x1 w fun x27=>
 cL 191 [x27,(Value.string (ByteArray.mk #[109,97,105,110]))] w fun x28 w=>
 rB .lss 3 T0 U0 x28 (iV 0) w fun x29=>
 BR x29
 (R (iV 4) w)
 (R (iV 0) w))))))
def cfg112:Cfg:=⟨extL,[],[],[],[],[],[]⟩
theorem F112_call {a0:Value} {w:World} {R:VW} (h:F112 a0 w R):cL 112 [a0] w R:=co (g:=cfg112) Tryz.func112 (by kernel_rfl) (by kernel_rfl) (by kernel_rfl) h
def zt8 (t:DStmt):Prop:=(t.kind=1∧zaZ t.name=true∧zaQ 6 t.term=true∧t.body=[]∧t.els=[])∨((t.kind=4∨t.kind=5∨t.kind=6∨t.kind=7)∧zaZ t.name=true∧t.term=term0∧t.body=[]∧t.els=[]) ∨
 (t.kind=8∧t.name=ByteArray.mk #[]∧t.term=term0∧t.body=[]∧t.els=[])∨(t.kind=2∧t.name=ByteArray.mk #[]∧zaQ 6 t.term=true)∨(t.kind=3∧t.name=ByteArray.mk #[]∧zaQ 6 t.term=true∧t.els=[])
def ztL (c:Scp):Prop:=(∀ x∈c.gl,zaZ x=true)∧(∀ x∈c.lk,zaZ x=true)∧∀ x∈c.pr,zaZ x=true
theorem StR.one {c:Scp} {n:Nat} {t:DStmt} (hp:ztL c) (h:StR c n t):zt8 t:=by
 have h0:St0 c t→zt8 t:=fun h=>by
   rcases h with ⟨h1,h2,h3,h4,h5⟩ | ⟨h1,h2,h3,h4,h5⟩ | ⟨h1,h2,h3,h4,h5⟩ | ⟨h1,h2,h3,h4,h5⟩
   · exact .inl ⟨h1,hp.1 _ h2,h3.1,h4,h5⟩
   · exact .inr (.inl ⟨by omega,hp.2.2 _ h2,h3,h4,h5⟩)
   · exact .inr (.inl ⟨by omega,hp.2.1 _ h2,h3,h4,h5⟩)
   exact .inr (.inr (.inl ⟨h1,h2,h3,h4,h5⟩))
 cases n with
 | zero=>exact h0 h.zero
 | succ n=>
   rcases h.succ with h | ⟨h1,h2,h3,h4,h5⟩
   · exact h0 h
   rcases h1 with h1 | ⟨h1,h6⟩
   · exact .inr (.inr (.inr (.inl ⟨h1,h2,h3.1⟩)))
   exact .inr (.inr (.inr (.inr ⟨h1,h2,h3.1,h6⟩)))
def F324 (a0:Value) (w:World) (R:VW):Prop:=
 oP (Instr.box 81 a0) w fun x1 w=>
 rF 81 x1 2 w fun x4=>
 rL 78 x4 w fun x5=>
 rD (Instr.build 78 #[]) w fun x6=>
 cL 226 [x5,x6] w fun x7 w=>
 rF 81 x1 0 w fun x8=>
 rL 3 x8 w fun x9=>
 rB .eql 3 T0 U0 x9 (iV 1) w fun x11=>
 BR x11
 (rF 81 x1 1 w fun x12=>
 rL 9 x12 w fun x13=>
 cL 253 [x13] w fun x14 w=>
 BR x14
 (rF 81 x1 2 w fun x16=>
 rL 78 x16 w fun x17=>
 cL 194 [x17] w fun x18 w=>
 BR x18
 (rF 81 x1 3 w fun x21=>
 rL 66 x21 w fun x22=>
 rN 66 3 x22 w fun x23=>
 rF 81 x1 4 w fun x24=>
 rL 66 x24 w fun x25=>
 rN 66 3 x25 w fun x26=>
 rB .add 3 T0 T0 x23 x26 w fun x27=>
 rB .eql 3 T0 U0 x27 (iV 0) w fun x28=>
 R x28 w)
 (R (Value.bool false) w))
 (R (Value.bool false) w))
 (rB .eql 3 T0 U0 x9 (iV 2) w fun x31=>
 BR x31
 (rF 81 x1 1 w fun x32=>
 rL 9 x32 w fun x33=>
 rB .eql 9 T0 U0 x33 (Value.string (ByteArray.mk #[])) w fun x34=>
 BR x34
 (rF 81 x1 2 w fun x36=>
 rL 78 x36 w fun x37=>
 cL 194 [x37] w fun x38 w=>
 R x38 w)
 (R (Value.bool false) w))
 (rB .eql 3 T0 U0 x9 (iV 3) w fun x41=>
 BR x41
 (rF 81 x1 1 w fun x42=>
 rL 9 x42 w fun x43=>
 rB .eql 9 T0 U0 x43 (Value.string (ByteArray.mk #[])) w fun x44=>
 BR x44
 (rF 81 x1 2 w fun x46=>
 rL 78 x46 w fun x47=>
 cL 194 [x47] w fun x48 w=>
 BR x48
 (rF 81 x1 4 w fun x51=>
 rL 66 x51 w fun x52=>
 rN 66 3 x52 w fun x53=>
 rB .eql 3 T0 U0 x53 (iV 0) w fun x54=>
 R x54 w)
 (R (Value.bool false) w))
 (R (Value.bool false) w))
 (rB .eql 3 T0 U0 x9 (iV 4) w fun x57=>
 BR x57
 (rF 81 x1 1 w fun x61=>
 rL 9 x61 w fun x62=>
 cL 253 [x62] w fun x63 w=>
 BR x63
 (BR x7
 (rF 81 x1 3 w fun x68=>
 rL 66 x68 w fun x69=>
 rN 66 3 x69 w fun x70=>
 rF 81 x1 4 w fun x71=>
 rL 66 x71 w fun x72=>
 rN 66 3 x72 w fun x73=>
 rB .add 3 T0 T0 x70 x73 w fun x74=>
 rB .eql 3 T0 U0 x74 (iV 0) w fun x75=>
 R x75 w)
 (R (Value.bool false) w))
 (R (Value.bool false) w))
 (rB .eql 3 T0 U0 x9 (iV 5) w fun x58=>
 BR x58
 (rF 81 x1 1 w fun x61=>
 rL 9 x61 w fun x62=>
 cL 253 [x62] w fun x63 w=>
 BR x63
 (BR x7
 (rF 81 x1 3 w fun x68=>
 rL 66 x68 w fun x69=>
 rN 66 3 x69 w fun x70=>
 rF 81 x1 4 w fun x71=>
 rL 66 x71 w fun x72=>
 rN 66 3 x72 w fun x73=>
 rB .add 3 T0 T0 x70 x73 w fun x74=>
 rB .eql 3 T0 U0 x74 (iV 0) w fun x75=>
 R x75 w)
 (R (Value.bool false) w))
 (R (Value.bool false) w))
 (rB .eql 3 T0 U0 x9 (iV 6) w fun x59=>
 BR x59
 (rF 81 x1 1 w fun x61=>
 rL 9 x61 w fun x62=>
 cL 253 [x62] w fun x63 w=>
 BR x63
 (BR x7
 (rF 81 x1 3 w fun x68=>
 rL 66 x68 w fun x69=>
 rN 66 3 x69 w fun x70=>
 rF 81 x1 4 w fun x71=>
 rL 66 x71 w fun x72=>
 rN 66 3 x72 w fun x73=>
 rB .add 3 T0 T0 x70 x73 w fun x74=>
 rB .eql 3 T0 U0 x74 (iV 0) w fun x75=>
 R x75 w)
 (R (Value.bool false) w))
 (R (Value.bool false) w))
 (rB .eql 3 T0 U0 x9 (iV 7) w fun x60=>
 BR x60
 (rF 81 x1 1 w fun x61=>
 rL 9 x61 w fun x62=>
 cL 253 [x62] w fun x63 w=>
 BR x63
 (BR x7
 (rF 81 x1 3 w fun x68=>
 rL 66 x68 w fun x69=>
 rN 66 3 x69 w fun x70=>
 rF 81 x1 4 w fun x71=>
 rL 66 x71 w fun x72=>
 rN 66 3 x72 w fun x73=>
 rB .add 3 T0 T0 x70 x73 w fun x74=>
 rB .eql 3 T0 U0 x74 (iV 0) w fun x75=>
 R x75 w)
 (R (Value.bool false) w))
 (R (Value.bool false) w))
 (rB .eql 3 T0 U0 x9 (iV 8) w fun x78=>
 BR x78
 (rF 81 x1 1 w fun x79=>
 rL 9 x79 w fun x80=>
 rB .eql 9 T0 U0 x80 (Value.string (ByteArray.mk #[])) w fun x81=>
 BR x81
 (BR x7
 (rF 81 x1 3 w fun x86=>
 rL 66 x86 w fun x87=>
 rN 66 3 x87 w fun x88=>
 rF 81 x1 4 w fun x89=>
 rL 66 x89 w fun x90=>
 rN 66 3 x90 w fun x91=>
 rB .add 3 T0 T0 x88 x91 w fun x92=>
 rB .eql 3 T0 U0 x92 (iV 0) w fun x93=>
 R x93 w)
 (R (Value.bool false) w))
 (R (Value.bool false) w))
 (R (Value.bool false) w))))))))
def cfg324:Cfg:=⟨extL,[],[],[],[],[],[]⟩
theorem F324_call {a0:Value} {w:World} {R:VW} (h:F324 a0 w R):cL 324 [a0] w R:=co (g:=cfg324) Tryz.func324 (by kernel_rfl) (by kernel_rfl) (by kernel_rfl) h
theorem zpJ {w:World} {v0:Value} {W0:World} {t:DStmt}  (h0:Is W0 v0 t) (e0:Ext W0 w) (hr:zt8 t) :
   CALL Tryz.prog 324 [v0] w fun r w'=>Ext w w'∧(r=.bool true):=by
 refine F324_call ?_
 unfold F324
 have hbe:t.kind≠2→t.kind≠3→t.body=[]∧t.els=[]:=fun n2 n3=>by
   rcases hr with ⟨k1,k2,k3,k4,k5⟩ | ⟨k1,k2,k3,k4,k5⟩ | ⟨k1,k2,k3,k4,k5⟩ | ⟨k1,k2,k3⟩ | ⟨k1,k2,k3,k4⟩
   · exact ⟨k4,k5⟩
   · exact ⟨k4,k5⟩
   · exact ⟨k4,k5⟩
   · omega
   omega
 refine zal zc6 rfl h0 e0 fun w1_ hx1_ hA1 hV1=>?_
 refine zaa zhq ?_
 refine zab zcs (zcz hA1) (Ext.refl w1_) fun v5 h5=>?_
 refine zaH (cells:=#[.int .i64 0,.int .i64 0,.string ByteArray.empty,.slice none 0 0]) (by kernel_rfl) ?_
 have o6:OwnI (α:=DTerm) w1_.heap.size w1_.heap.size w1_ (.agg #[.int .i64 0,.int .i64 0,.string ByteArray.empty,.slice none 0 0]) RepZ.zv:=zpt
 refine (zhr h5 (Ext.refl w1_) o6.is (Ext.refl w1_) rfl).mono ?_
 rintro _ w2_ ⟨hx2_,rfl⟩
 refine zaa zeR ?_
 refine zac ty3 (zb4 hA1) hx2_ fun hI9=>?_
 refine zag ?_
 refine br (fun c1=>?_) (fun c1=>?_)
 · refine zaa zcS ?_
   refine zao ty9 (za8 hA1) hx2_ fun hS13=>?_
   refine (specIsName_ok ).mono ?_
   rintro _ w3_ ⟨hx3_,rfl⟩
   refine zcM (fun c2=>?_) (fun c2=>?_)
   · refine zaa zhq ?_
     refine zab zcs (zcz hA1) (hx2_.trans hx3_) fun v17 h17=>?_
     refine (zbZ h17 (hx2_.trans hx3_)).mono ?_
     rintro _ w4_ ⟨hx4_,rfl⟩
     refine zcM (fun c3=>?_) (fun c3=>?_)
     · refine zaa zeS ?_
       refine zab zfY (zcl hA1) (hx2_.trans (hx3_.trans hx4_)) fun v22 h22=>?_
       have hln23:=zaf h22
       refine zae u66 h22 ?_
       refine zaa zdP ?_
       refine zab zfY (zb5 hA1) (hx2_.trans (hx3_.trans hx4_)) fun v25 h25=>?_
       have hln26:=zaf h25
       refine zae u66 h25 ?_
       refine zcp (by obtain ⟨q1,q2⟩:=hbe (by omega) (by omega);rw [q1,q2];simp [I64]) ?_
       refine zag ?_
       refine ⟨(hx1_.trans (hx2_.trans (hx3_.trans hx4_))),?_⟩
       rcases hr with ⟨k1,k2,k3,k4,k5⟩ | ⟨k1,k2,k3,k4,k5⟩ | ⟨k1,k2,k3,k4,k5⟩ | ⟨k1,k2,k3⟩ | ⟨k1,k2,k3,k4⟩<;>first | (exfalso;omega) | simp_all
     refine ⟨(hx1_.trans (hx2_.trans (hx3_.trans hx4_))),?_⟩
     rcases hr with ⟨k1,k2,k3,k4,k5⟩ | ⟨k1,k2,k3,k4,k5⟩ | ⟨k1,k2,k3,k4,k5⟩ | ⟨k1,k2,k3⟩ | ⟨k1,k2,k3,k4⟩<;>first | (exfalso;omega) | simp_all
   refine ⟨(hx1_.trans (hx2_.trans hx3_)),?_⟩
   rcases hr with ⟨k1,k2,k3,k4,k5⟩ | ⟨k1,k2,k3,k4,k5⟩ | ⟨k1,k2,k3,k4,k5⟩ | ⟨k1,k2,k3⟩ | ⟨k1,k2,k3,k4⟩<;>first | (exfalso;omega) | simp_all
 refine zag ?_
 refine br (fun c4=>?_) (fun c4=>?_)
 · refine zaa zcS ?_
   refine zao ty9 (za8 hA1) hx2_ fun hS33=>?_
   refine zay ?_
   refine br (fun c5=>?_) (fun c5=>?_)
   · refine zaa zhq ?_
     refine zab zcs (zcz hA1) hx2_ fun v37 h37=>?_
     refine (zbZ h37 hx2_).mono ?_
     rintro _ w5_ ⟨hx5_,rfl⟩
     refine ⟨(hx1_.trans (hx2_.trans hx5_)),?_⟩
     rcases hr with ⟨k1,k2,k3,k4,k5⟩ | ⟨k1,k2,k3,k4,k5⟩ | ⟨k1,k2,k3,k4,k5⟩ | ⟨k1,k2,k3⟩ | ⟨k1,k2,k3,k4⟩<;>first | (exfalso;omega) | simp_all
   refine ⟨(hx1_.trans hx2_),?_⟩
   rcases hr with ⟨k1,k2,k3,k4,k5⟩ | ⟨k1,k2,k3,k4,k5⟩ | ⟨k1,k2,k3,k4,k5⟩ | ⟨k1,k2,k3⟩ | ⟨k1,k2,k3,k4⟩<;>first | (exfalso;omega) | simp_all
 refine zag ?_
 refine br (fun c6=>?_) (fun c6=>?_)
 · refine zaa zcS ?_
   refine zao ty9 (za8 hA1) hx2_ fun hS43=>?_
   refine zay ?_
   refine br (fun c7=>?_) (fun c7=>?_)
   · refine zaa zhq ?_
     refine zab zcs (zcz hA1) hx2_ fun v47 h47=>?_
     refine (zbZ h47 hx2_).mono ?_
     rintro _ w6_ ⟨hx6_,rfl⟩
     refine zcM (fun c8=>?_) (fun c8=>?_)
     · refine zaa zdP ?_
       refine zab zfY (zb5 hA1) (hx2_.trans hx6_) fun v52 h52=>?_
       have hln53:=zaf h52
       refine zae u66 h52 ?_
       refine zag ?_
       refine ⟨(hx1_.trans (hx2_.trans hx6_)),?_⟩
       rcases hr with ⟨k1,k2,k3,k4,k5⟩ | ⟨k1,k2,k3,k4,k5⟩ | ⟨k1,k2,k3,k4,k5⟩ | ⟨k1,k2,k3⟩ | ⟨k1,k2,k3,k4⟩<;>first | (exfalso;omega) | simp_all
     refine ⟨(hx1_.trans (hx2_.trans hx6_)),?_⟩
     rcases hr with ⟨k1,k2,k3,k4,k5⟩ | ⟨k1,k2,k3,k4,k5⟩ | ⟨k1,k2,k3,k4,k5⟩ | ⟨k1,k2,k3⟩ | ⟨k1,k2,k3,k4⟩<;>first | (exfalso;omega) | simp_all
   refine ⟨(hx1_.trans hx2_),?_⟩
   rcases hr with ⟨k1,k2,k3,k4,k5⟩ | ⟨k1,k2,k3,k4,k5⟩ | ⟨k1,k2,k3,k4,k5⟩ | ⟨k1,k2,k3⟩ | ⟨k1,k2,k3,k4⟩<;>first | (exfalso;omega) | simp_all
 refine zag ?_
 refine br (fun c9=>?_) (fun c9=>?_)
 · refine zaa zcS ?_
   refine zao ty9 (za8 hA1) hx2_ fun hS62=>?_
   refine (specIsName_ok ).mono ?_
   rintro _ w7_ ⟨hx7_,rfl⟩
   refine zcM (fun c10=>?_) (fun c10=>?_)
   · refine br (fun c11=>?_) (fun c11=>?_)
     · refine zaa zeS ?_
       refine zab zfY (zcl hA1) (hx2_.trans hx7_) fun v69 h69=>?_
       have hln70:=zaf h69
       refine zae u66 h69 ?_
       refine zaa zdP ?_
       refine zab zfY (zb5 hA1) (hx2_.trans hx7_) fun v72 h72=>?_
       have hln73:=zaf h72
       refine zae u66 h72 ?_
       refine zcp (by obtain ⟨q1,q2⟩:=hbe (by omega) (by omega);rw [q1,q2];simp [I64]) ?_
       refine zag ?_
       refine ⟨(hx1_.trans (hx2_.trans hx7_)),?_⟩
       rcases hr with ⟨k1,k2,k3,k4,k5⟩ | ⟨k1,k2,k3,k4,k5⟩ | ⟨k1,k2,k3,k4,k5⟩ | ⟨k1,k2,k3⟩ | ⟨k1,k2,k3,k4⟩<;>first | (exfalso;omega) | simp_all
     refine ⟨(hx1_.trans (hx2_.trans hx7_)),?_⟩
     rcases hr with ⟨k1,k2,k3,k4,k5⟩ | ⟨k1,k2,k3,k4,k5⟩ | ⟨k1,k2,k3,k4,k5⟩ | ⟨k1,k2,k3⟩ | ⟨k1,k2,k3,k4⟩<;>first | (exfalso;omega) | simp_all
   refine ⟨(hx1_.trans (hx2_.trans hx7_)),?_⟩
   rcases hr with ⟨k1,k2,k3,k4,k5⟩ | ⟨k1,k2,k3,k4,k5⟩ | ⟨k1,k2,k3,k4,k5⟩ | ⟨k1,k2,k3⟩ | ⟨k1,k2,k3,k4⟩<;>first | (exfalso;omega) | simp_all
 refine zag ?_
 refine br (fun c12=>?_) (fun c12=>?_)
 · refine zaa zcS ?_
   refine zao ty9 (za8 hA1) hx2_ fun hS62=>?_
   refine (specIsName_ok ).mono ?_
   rintro _ w8_ ⟨hx8_,rfl⟩
   refine zcM (fun c13=>?_) (fun c13=>?_)
   · refine br (fun c14=>?_) (fun c14=>?_)
     · refine zaa zeS ?_
       refine zab zfY (zcl hA1) (hx2_.trans hx8_) fun v69 h69=>?_
       have hln70:=zaf h69
       refine zae u66 h69 ?_
       refine zaa zdP ?_
       refine zab zfY (zb5 hA1) (hx2_.trans hx8_) fun v72 h72=>?_
       have hln73:=zaf h72
       refine zae u66 h72 ?_
       refine zcp (by obtain ⟨q1,q2⟩:=hbe (by omega) (by omega);rw [q1,q2];simp [I64]) ?_
       refine zag ?_
       refine ⟨(hx1_.trans (hx2_.trans hx8_)),?_⟩
       rcases hr with ⟨k1,k2,k3,k4,k5⟩ | ⟨k1,k2,k3,k4,k5⟩ | ⟨k1,k2,k3,k4,k5⟩ | ⟨k1,k2,k3⟩ | ⟨k1,k2,k3,k4⟩<;>first | (exfalso;omega) | simp_all
     refine ⟨(hx1_.trans (hx2_.trans hx8_)),?_⟩
     rcases hr with ⟨k1,k2,k3,k4,k5⟩ | ⟨k1,k2,k3,k4,k5⟩ | ⟨k1,k2,k3,k4,k5⟩ | ⟨k1,k2,k3⟩ | ⟨k1,k2,k3,k4⟩<;>first | (exfalso;omega) | simp_all
   refine ⟨(hx1_.trans (hx2_.trans hx8_)),?_⟩
   rcases hr with ⟨k1,k2,k3,k4,k5⟩ | ⟨k1,k2,k3,k4,k5⟩ | ⟨k1,k2,k3,k4,k5⟩ | ⟨k1,k2,k3⟩ | ⟨k1,k2,k3,k4⟩<;>first | (exfalso;omega) | simp_all
 refine zag ?_
 refine br (fun c15=>?_) (fun c15=>?_)
 · refine zaa zcS ?_
   refine zao ty9 (za8 hA1) hx2_ fun hS62=>?_
   refine (specIsName_ok ).mono ?_
   rintro _ w9_ ⟨hx9_,rfl⟩
   refine zcM (fun c16=>?_) (fun c16=>?_)
   · refine br (fun c17=>?_) (fun c17=>?_)
     · refine zaa zeS ?_
       refine zab zfY (zcl hA1) (hx2_.trans hx9_) fun v69 h69=>?_
       have hln70:=zaf h69
       refine zae u66 h69 ?_
       refine zaa zdP ?_
       refine zab zfY (zb5 hA1) (hx2_.trans hx9_) fun v72 h72=>?_
       have hln73:=zaf h72
       refine zae u66 h72 ?_
       refine zcp (by obtain ⟨q1,q2⟩:=hbe (by omega) (by omega);rw [q1,q2];simp [I64]) ?_
       refine zag ?_
       refine ⟨(hx1_.trans (hx2_.trans hx9_)),?_⟩
       rcases hr with ⟨k1,k2,k3,k4,k5⟩ | ⟨k1,k2,k3,k4,k5⟩ | ⟨k1,k2,k3,k4,k5⟩ | ⟨k1,k2,k3⟩ | ⟨k1,k2,k3,k4⟩<;>first | (exfalso;omega) | simp_all
     refine ⟨(hx1_.trans (hx2_.trans hx9_)),?_⟩
     rcases hr with ⟨k1,k2,k3,k4,k5⟩ | ⟨k1,k2,k3,k4,k5⟩ | ⟨k1,k2,k3,k4,k5⟩ | ⟨k1,k2,k3⟩ | ⟨k1,k2,k3,k4⟩<;>first | (exfalso;omega) | simp_all
   refine ⟨(hx1_.trans (hx2_.trans hx9_)),?_⟩
   rcases hr with ⟨k1,k2,k3,k4,k5⟩ | ⟨k1,k2,k3,k4,k5⟩ | ⟨k1,k2,k3,k4,k5⟩ | ⟨k1,k2,k3⟩ | ⟨k1,k2,k3,k4⟩<;>first | (exfalso;omega) | simp_all
 refine zag ?_
 refine br (fun c18=>?_) (fun c18=>?_)
 · refine zaa zcS ?_
   refine zao ty9 (za8 hA1) hx2_ fun hS62=>?_
   refine (specIsName_ok ).mono ?_
   rintro _ w10_ ⟨hx10_,rfl⟩
   refine zcM (fun c19=>?_) (fun c19=>?_)
   · refine br (fun c20=>?_) (fun c20=>?_)
     · refine zaa zeS ?_
       refine zab zfY (zcl hA1) (hx2_.trans hx10_) fun v69 h69=>?_
       have hln70:=zaf h69
       refine zae u66 h69 ?_
       refine zaa zdP ?_
       refine zab zfY (zb5 hA1) (hx2_.trans hx10_) fun v72 h72=>?_
       have hln73:=zaf h72
       refine zae u66 h72 ?_
       refine zcp (by obtain ⟨q1,q2⟩:=hbe (by omega) (by omega);rw [q1,q2];simp [I64]) ?_
       refine zag ?_
       refine ⟨(hx1_.trans (hx2_.trans hx10_)),?_⟩
       rcases hr with ⟨k1,k2,k3,k4,k5⟩ | ⟨k1,k2,k3,k4,k5⟩ | ⟨k1,k2,k3,k4,k5⟩ | ⟨k1,k2,k3⟩ | ⟨k1,k2,k3,k4⟩<;>first | (exfalso;omega) | simp_all
     refine ⟨(hx1_.trans (hx2_.trans hx10_)),?_⟩
     rcases hr with ⟨k1,k2,k3,k4,k5⟩ | ⟨k1,k2,k3,k4,k5⟩ | ⟨k1,k2,k3,k4,k5⟩ | ⟨k1,k2,k3⟩ | ⟨k1,k2,k3,k4⟩<;>first | (exfalso;omega) | simp_all
   refine ⟨(hx1_.trans (hx2_.trans hx10_)),?_⟩
   rcases hr with ⟨k1,k2,k3,k4,k5⟩ | ⟨k1,k2,k3,k4,k5⟩ | ⟨k1,k2,k3,k4,k5⟩ | ⟨k1,k2,k3⟩ | ⟨k1,k2,k3,k4⟩<;>first | (exfalso;omega) | simp_all
 refine zag ?_
 refine br (fun c21=>?_) (fun c21=>?_)
 · refine zaa zcS ?_
   refine zao ty9 (za8 hA1) hx2_ fun hS80=>?_
   refine zay ?_
   refine br (fun c22=>?_) (fun c22=>?_)
   · refine br (fun c23=>?_) (fun c23=>?_)
     · refine zaa zeS ?_
       refine zab zfY (zcl hA1) hx2_ fun v87 h87=>?_
       have hln88:=zaf h87
       refine zae u66 h87 ?_
       refine zaa zdP ?_
       refine zab zfY (zb5 hA1) hx2_ fun v90 h90=>?_
       have hln91:=zaf h90
       refine zae u66 h90 ?_
       refine zcp (by obtain ⟨q1,q2⟩:=hbe (by omega) (by omega);rw [q1,q2];simp [I64]) ?_
       refine zag ?_
       refine ⟨(hx1_.trans hx2_),?_⟩
       rcases hr with ⟨k1,k2,k3,k4,k5⟩ | ⟨k1,k2,k3,k4,k5⟩ | ⟨k1,k2,k3,k4,k5⟩ | ⟨k1,k2,k3⟩ | ⟨k1,k2,k3,k4⟩<;>first | (exfalso;omega) | simp_all
     refine ⟨(hx1_.trans hx2_),?_⟩
     rcases hr with ⟨k1,k2,k3,k4,k5⟩ | ⟨k1,k2,k3,k4,k5⟩ | ⟨k1,k2,k3,k4,k5⟩ | ⟨k1,k2,k3⟩ | ⟨k1,k2,k3,k4⟩<;>first | (exfalso;omega) | simp_all
   refine ⟨(hx1_.trans hx2_),?_⟩
   rcases hr with ⟨k1,k2,k3,k4,k5⟩ | ⟨k1,k2,k3,k4,k5⟩ | ⟨k1,k2,k3,k4,k5⟩ | ⟨k1,k2,k3⟩ | ⟨k1,k2,k3,k4⟩<;>first | (exfalso;omega) | simp_all
 refine ⟨(hx1_.trans hx2_),?_⟩
 rcases hr with ⟨k1,k2,k3,k4,k5⟩ | ⟨k1,k2,k3,k4,k5⟩ | ⟨k1,k2,k3,k4,k5⟩ | ⟨k1,k2,k3⟩ | ⟨k1,k2,k3,k4⟩<;>first | (exfalso;omega) | simp_all
def zpK (c:Scp) (n:Nat) (l:List DStmt):Prop:=∀ {w W:World} {v:Value} {d:Int},Is W v l→Ext W w→(∀ x∈l,StR c n x)→(n:Int)≤d→d≤6 →
 CALL Tryz.prog 295 [v,.int .i64 d] w fun r w'=>Ext w w'∧r=.bool true
theorem zgr {c:Scp} {n:Nat} {l:List DStmt} (hp:ztL c) (ih:∀ m l,m+1=n→zpK c m l):zpK c n l:=by
 intro w W v d h e hs hd0 hd1
 have hln:=zaf h
 refine F295_call ?_
 unfold F295
 refine zaE l.length (fun k us w'=>us=[.int .i64 (k:Int)]∧Ext w w'∧k≤l.length) 0 (Nat.zero_le _) ⟨rfl,Ext.refl w,Nat.zero_le _⟩ ?_
 rintro k m u w1 hkm ⟨hu,hx1,hkl⟩
 simp only [List.map_cons,List.map_nil,List.cons.injEq,and_true] at hu
 rw [hu]
 refine zae u66 h ?_
 refine zai ?_
 refine br (fun hlt=>?_) (fun hge=>?_)
 · have hk:k<l.length:=by omega
   obtain ⟨x,hx⟩:∃ x,x=l[k]:=⟨_,rfl⟩
   have hxs:StR c n x:=by rw [hx];exact hs _ (List.getElem_mem hk)
   refine zad u66 zc6 h hk fun b16 o16 hA16=>?_
   rw [←hx] at hA16
   refine zab zc6 hA16 (e.trans hx1) fun v17 h17=>?_
   refine zeY zsY rfl zc6 rfl h17 (e.trans hx1) fun w2 hx2 hA6 hV6=>?_
   refine JOIN.mk (fun us w'=>us=[.bool (decide (x.kind=2∨x.kind=3))]∧Ext w2 w') ?_ ?_
   · refine zaa zeR ?_
     refine zac ty3 (zb4 hA6) (Ext.refl _) fun hI=>?_
     refine zag ?_
     refine br (fun h2=>?_) (fun h2=>?_)
     · exact ⟨by rw [decide_eq_true (.inl h2)],Ext.refl _⟩
     refine zaa zeR ?_
     refine zac ty3 (zb4 hA6) (Ext.refl _) fun hI=>?_
     refine zag ?_
     exact ⟨by simp [h2],Ext.refl _⟩
   rintro u6 w3 ⟨hu,hx3⟩
   simp only [List.map_cons,List.map_nil,List.cons.injEq,and_true] at hu
   rw [hu]
   refine zan hV6 hx3 ?_
   refine (zpJ h17 ((e.trans hx1).trans (hx2.trans hx3)) (hxs.one hp)).mono ?_
   rintro _ w4 ⟨hx4,rfl⟩
   have hx24:=hx3.trans hx4
   refine zbs ?_
   refine zcM (fun hc=>by simp at hc) (fun _=>?_)
   refine gbr (fun hm=>?_) (fun hm=>?_)
   · have hn0:0<n:=by
       rcases Nat.eq_zero_or_pos n with h0 | h0
       · subst h0
         rcases hxs.zero with q | q | q | q<;>(have:=q.1;omega)
       exact h0
     have hkid:(∀ y∈x.body,StR c (n-1) y)∧∀ y∈x.els,StR c (n-1) y:=by
       obtain ⟨q,rfl⟩:∃ q,n=q+1:=⟨n-1,by omega⟩
       rcases hxs.succ with h | ⟨_,_,_,h4,h5⟩
       · exfalso
         rcases h with q | q | q | q<;>(have:=q.1;omega)
       exact ⟨h4,h5⟩
     refine zag ?_
     refine br (fun hc=>by omega) (fun _=>?_)
     refine gbr (fun _=>?_) (fun hc=>absurd hm hc)
     refine zaa zeS ?_
     refine zab zfY (zcl hA6) hx24 fun v40 h40=>?_
     refine za2 (by unfold I64;omega) ?_
     refine (ih (n-1) _ (by omega) h40 hx24 hkid.1 (by omega) (by omega)).mono ?_
     rintro _ w5 ⟨hx5,rfl⟩
     refine zbs ?_
     refine zqt (fun hc=>by simp at hc) (fun _=>?_)
     refine zaa zdP ?_
     refine zab zfY (zb5 hA6) (hx24.trans hx5) fun v47 h47=>?_
     refine za2 (by unfold I64;omega) ?_
     refine (ih (n-1) _ (by omega) h47 (hx24.trans hx5) hkid.2 (by omega) (by omega)).mono ?_
     rintro _ w6 ⟨hx6,rfl⟩
     refine zbs ?_
     refine zcM (fun hc=>by simp at hc) (fun _=>?_)
     refine zah (by omega) ?_
     exact ⟨m-1,by omega,k+1,by omega,rfl,hx1.trans (hx2.trans (hx24.trans (hx5.trans hx6))),by omega⟩
   refine gbr (fun hc=>absurd hc hm) (fun _=>?_)
   refine zah (by omega) ?_
   exact ⟨m-1,by omega,k+1,by omega,rfl,hx1.trans (hx2.trans hx24),by omega⟩
 exact ⟨hx1,rfl⟩
theorem zix {c:Scp} (hp:ztL c):∀ (n:Nat) (l:List DStmt),zpK c n l
 | 0,l=>zgr (n:=0) (l:=l) hp (fun m l h=>absurd h (by omega))
 | n + 1, l => zgr (n := n + 1) (l := l) hp fun m l h => by
     obtain rfl:m=n:=by omega
     exact zix hp m l
theorem zqU {c:Scp} {w W:World} {v:Value} {l:List DStmt} (hp:ztL c) (h:Is W v l) (e:Ext W w) (hb:zmf c l):CALL Tryz.prog 256 [v] w fun r w'=>Ext w w'∧r=.bool true:=by
 refine F256_call ?_
 unfold F256
 refine (zis l h e (by omega) (by omega)).mono ?_
 rintro _ w1 ⟨hx1,rfl⟩
 refine zb1 ?_
 have hc:=(zgX l 60).1 (by have:=hb.2;omega)
 refine br (fun _=>?_) (fun hn=>by have:=hb.2;omega)
 refine (zix hp 2 l h (e.trans hx1) hb.1 (by omega) (by omega)).mono ?_
 rintro _ w2 ⟨hx2,rfl⟩
 exact ⟨hx1.trans hx2,rfl⟩
theorem ziy {w W:World} {v:Value} {p:DProg} (h:Is W v p) (e:Ext W w) (hn:p.procs.length≤1000):CALL Tryz.prog 189 [v] w fun r w'=>Ext w w'∧Own w.heap.size w' r (p.procs.map DProc.name):=by
 refine F189_call ?_
 unfold F189
 refine zcG h e fun w1 hx1 hA=>?_
 have hs1:=hx1.size
 refine zaK (α:=ByteArray) u24 ty9 fun v5 w2 hx2 r5=>?_
 have hs2:=hx2.size
 refine zaE p.procs.length (fun k us w'=>∃ v hi,us=[v,.int .i64 (k:Int)]∧k≤p.procs.length∧Ext w1 w'∧RowI w2.heap.size hi 9 w' v ((p.procs.take k).map DProc.name)∧hi≤w'.heap.size∧w2.heap.size≤hi) 0 (Nat.zero_le _)
   ⟨.slice (some v5) 0 0,w2.heap.size,rfl,Nat.zero_le _,hx2,r5,Nat.le_refl _,Nat.le_refl _⟩ ?_
 rintro k m u w3 hkm ⟨v3,hi,hu,hkl,hx3,r3,hhi,hlo⟩
 obtain ⟨hu0,hu1⟩:=zfZ hu
 rw [hu0,hu1]
 refine zaa zcR ?_
 refine zab zkD (zbw hA) hx3 fun v8 h8=>?_
 refine zae u62 h8 ?_
 refine zai ?_
 refine br (fun hlt=>?_) (fun hge=>?_)
 · have hk:k<p.procs.length:=by omega
   refine zaa zcR ?_
   refine zab zkD (zbw hA) hx3 fun v15 h15=>?_
   refine zad u62 zo6 h15 hk fun b17 o17 hA17=>?_
   refine zaa zm3 ?_
   refine zao ty9 (zfk hA17) hx3 fun hS=>?_
   have hs3:=hx3.size
   refine zch (α:=ByteArray) (lo2:=w3.heap.size) (hi2:=w3.heap.size) u24 ty9 z9 zc9 (by decide) r3 (by omega) (zhC hS) (by omega) (by omega) (by rw [zam,List.length_map,List.length_take];omega) (by rw [List.length_map,List.length_take];omega) fun v21 w4 hc4 r4=>?_
   have hs4:=hc4.size
   refine zah (by omega) ?_
   refine ⟨m-1,by omega,k+1,by omega,v21,w4.heap.size,rfl,by omega,Ext.chgI hx3 hc4 (by omega),?_,Nat.le_refl _,by omega⟩
   rw [List.take_succ_eq_append_getElem hk,List.map_append]
   exact r4
 refine ⟨hx1.trans hx3,?_⟩
 rw [List.take_of_length_le (by omega)] at r3
 exact r3.own.own.mono (by omega)
theorem zgs {w W:World} {vo vk:Value} {l:List ByteArray} {s:ByteArray} (h:Is W vk l) (e:Ext W w) (hm:s∈l):CALL Tryz.prog 296 [vo,vk,.string s] w fun r w'=>Ext w w'∧r=vo:=by
 refine F296_call ?_
 unfold F296
 refine (zib h e).mono ?_
 rintro _ w1 ⟨hx1,rfl⟩
 exact br (fun _=>⟨hx1,rfl⟩) (fun hn=>absurd hm hn)
def zs2 (p:DProg) (c:Scp) (n:Nat) (l:List DStmt):Prop:=∀ {w W W':World} {v vp vo:Value},Is W vp p→Ext W w→Is W' v l→Ext W' w→(∀ x∈l,StR c n x) →
 CALL Tryz.prog 257 [vp,v,vo] w fun r w'=>Ext w w'∧r=vo
theorem ze7 {p:DProg} {c:Scp} {n:Nat} {l:List DStmt} (hg:p.globals=c.gl) (hl:p.locks=c.lk) (hpp:∀ x∈c.pr,x∈p.procs.map DProc.name) (hpn:p.procs.length≤1000) (ih:∀ m l,m+1=n→zs2 p c m l):zs2 p c n l:=by
 intro w W W' v vp vo hP eP h e hs
 have hln:=zaf h
 refine F257_call ?_
 unfold F257
 refine zcG hP eP fun w0 hx0 hAp=>?_
 refine zaE l.length (fun k us w'=>us=[vo,.int .i64 (k:Int)]∧Ext w0 w'∧k≤l.length) 0 (Nat.zero_le _) ⟨rfl,Ext.refl _,Nat.zero_le _⟩ ?_
 rintro k m u w1 hkm ⟨hu,hx1,hkl⟩
 obtain ⟨hu0,hu1⟩:=zfZ hu;clear hu
 rw [hu0,hu1]
 refine zae u66 h ?_
 refine zai ?_
 refine br (fun hlt=>?_) (fun hge=>⟨hx0.trans hx1,rfl⟩)
 have hk:k<l.length:=by omega
 obtain ⟨x,hx⟩:∃ x,x=l[k]:=⟨_,rfl⟩
 have hxs:StR c n x:=by rw [hx];exact hs _ (List.getElem_mem hk)
 have hst:(x.kind=1→x.name∈c.gl)∧(x.kind=6∨x.kind=7→x.name∈c.lk)∧(x.kind=4∨x.kind=5→x.name∈c.pr)∧(x.kind=1∨x.kind=2∨x.kind=3→TmR c.gl x.term):=by
   have h0:St0 c x→(x.kind=1→x.name∈c.gl)∧(x.kind=6∨x.kind=7→x.name∈c.lk)∧(x.kind=4∨x.kind=5→x.name∈c.pr)∧(x.kind=1∨x.kind=2∨x.kind=3→TmR c.gl x.term):=fun q=>by
     rcases q with q | q | q | q
     · exact ⟨fun _=>q.2.1,fun _=>by have:=q.1;omega,fun _=>by have:=q.1;omega,fun _=>q.2.2.1⟩
     · exact ⟨fun _=>by have:=q.1;omega,fun _=>by have:=q.1;omega,fun _=>q.2.1,fun _=>by have:=q.1;omega⟩
     · exact ⟨fun _=>by have:=q.1;omega,fun _=>q.2.1,fun _=>by have:=q.1;omega,fun _=>by have:=q.1;omega⟩
     exact ⟨fun _=>by have:=q.1;omega,fun _=>by have:=q.1;omega,fun _=>by have:=q.1;omega,fun _=>by have:=q.1;omega⟩
   cases n with
   | zero=>exact h0 hxs.zero
   | succ n=>
     rcases hxs.succ with q | ⟨h1,h2,h3,_,_⟩
     · exact h0 q
     exact ⟨fun _=>by omega,fun _=>by omega,fun _=>by omega,fun _=>h3⟩
 obtain ⟨hs1,hs2,hs3,hs4⟩:=hst
 refine zad u66 zc6 h hk fun b19 o19 hA19=>?_
 rw [←hx] at hA19
 have eW':=e.trans (hx0.trans hx1)
 refine zab zc6 hA19 eW' fun v20 h20=>?_
 refine zeY zsY rfl zc6 rfl h20 eW' fun w2 hx2 hA8 hV8=>?_
 have hx02:=hx1.trans hx2
 refine JOIN.mk (fun us w'=>us=[vo]∧Ext w2 w') ?_ ?_
 · refine zaa zeR ?_
   refine zac ty3 (zb4 hA8) (Ext.refl _) fun hI=>?_
   refine zag ?_
   refine br (fun h1=>?_) (fun h1=>?_)
   · refine zaa zi9 ?_
     refine zab zcP (zd5 hAp) hx02 fun v27 h27=>?_
     refine zaa zcS ?_
     refine zao ty9 (za8 hA8) (Ext.refl _) fun hS=>?_
     refine (zgs h27 hx02 (by rw [hg];exact hs1 h1)).mono ?_
     rintro _ w3 ⟨hx3,rfl⟩
     exact ⟨rfl,hx3⟩
   refine zag ?_
   refine znm (Q:=x.kind=6∨x.kind=7) .inl (fun hQ=>?_) (fun key h6=>?_)
   · refine zaa zja ?_
     refine zab zcP (zfl hAp) hx02 fun v27 h27=>?_
     refine zaa zcS ?_
     refine zao ty9 (za8 hA8) (Ext.refl _) fun hS=>?_
     refine (zgs h27 hx02 (by rw [hl];exact hs2 hQ)).mono ?_
     rintro _ w3 ⟨hx3,rfl⟩
     exact ⟨rfl,hx3⟩
   refine zag ?_
   refine br (fun h7=>key (.inr h7)) (fun h7=>?_)
   refine zag ?_
   refine znm (Q:=x.kind=4∨x.kind=5) .inl (fun hQ=>?_) (fun key2 h4=>?_)
   · have hx3:=zaj w2
     refine zab zh4 hAp (hx02.trans hx3) fun v44 h44=>?_
     refine zaa zcS ?_
     refine zao ty9 (za8 hA8) hx3 fun hS=>?_
     refine (ziy h44 (hx02.trans hx3) hpn).mono ?_
     rintro v45 w4 ⟨hx4,o45⟩
     refine ⟨hx4,?_⟩
     refine (zgs o45.is (Ext.refl _) (hpp _ (hs3 hQ))).mono ?_
     rintro _ w5 ⟨hx5,rfl⟩
     exact ⟨rfl,hx3.trans (hx4.trans hx5)⟩
   refine zag ?_
   exact br (fun h5=>key2 (.inr h5)) fun h5=>⟨rfl,Ext.refl _⟩
 rintro u14 w6 ⟨hu,hx6⟩
 simp only [List.map_cons,List.map_nil,List.cons.injEq,and_true] at hu
 rw [hu]
 refine JOIN.mk (fun us w'=>us=[vo]∧Ext w6 w') ?_ ?_
 · refine zaa zeR ?_
   refine zac ty3 (zb4 hA8) hx6 fun hI=>?_
   refine zag ?_
   refine znm (Q:=x.kind=1∨x.kind=2∨x.kind=3) .inl (fun hQ=>?_) (fun key h1=>?_)
   · have hT:=hs4 hQ
     refine zaa zhq ?_
     refine zab zcs (zcz hA8) hx6 fun v63 h63=>?_
     refine (zc7 h63 hx6).mono ?_
     rintro v64 w7 ⟨hx7,h64⟩
     have hrl:=zmb x.term
     refine zaE (zbe x.term).length (fun q us w'=>us=[vo,.int .i64 (q:Int)]∧Ext w7 w'∧q≤(zbe x.term).length) 0 (Nat.zero_le _) ⟨rfl,Ext.refl _,Nat.zero_le _⟩ ?_
     rintro q mq uq w8 hqm ⟨hu,hx8,hql⟩
     obtain ⟨hu0,hu1⟩:=zfZ hu;clear hu
     rw [hu0,hu1]
     refine zae u24 h64 ?_
     refine zai ?_
     refine br (fun hlt=>?_) (fun hge=>⟨rfl,hx7.trans hx8⟩)
     have hq:q<(zbe x.term).length:=by omega
     have hx9:=zaj w8
     have hx89:=hx8.trans hx9
     have hx09:=hx02.trans (hx6.trans (hx7.trans hx89))
     refine zaa zi9 ?_
     refine zab zcP (zd5 hAp) hx09 fun v73 h73=>?_
     refine zad u24 ty9 h64 hq fun b76 o76 hA76=>?_
     refine zao ty9 hA76 hx89 fun hS=>?_
     refine (zgs h73 hx09 (by rw [hg];exact hT.2.1 _ (List.getElem_mem hq))).mono ?_
     rintro _ w10 ⟨hx10,rfl⟩
     refine zah (by omega) ?_
     exact ⟨mq-1,by omega,q+1,by omega,rfl,hx89.trans hx10,by omega⟩
   refine zaa zeR ?_
   refine zac ty3 (zb4 hA8) hx6 fun hI=>?_
   refine zag ?_
   refine br (fun h2=>key (.inr (.inl h2))) (fun h2=>?_)
   refine zaa zeR ?_
   refine zac ty3 (zb4 hA8) hx6 fun hI=>?_
   refine zag ?_
   exact br (fun h3=>key (.inr (.inr h3))) (fun h3=>⟨rfl,Ext.refl _⟩)
 rintro u20 w11 ⟨hu,hx11⟩
 simp only [List.map_cons,List.map_nil,List.cons.injEq,and_true] at hu
 rw [hu]
 have hx211:=hx6.trans hx11
 have hx011:=hx02.trans hx211
 have hkid:∃ q,(∀ y∈x.body,StR c q y)∧(∀ y∈x.els,StR c q y)∧(q+1=n∨(x.body=[]∧x.els=[])):=by
   have h0:St0 c x→x.body=[]∧x.els=[]:=fun h=>by rcases h with q | q | q | q<;>exact ⟨q.2.2.2.1,q.2.2.2.2⟩
   cases n with
   | zero=>
     obtain ⟨h1,h2⟩:=h0 hxs.zero
     exact ⟨0,by rw [h1];simp,by rw [h2];simp,.inr ⟨h1,h2⟩⟩
   | succ n=>
     rcases hxs.succ with q | ⟨_,_,_,h4,h5⟩
     · obtain ⟨h1,h2⟩:=h0 q
       exact ⟨0,by rw [h1];simp,by rw [h2];simp,.inr ⟨h1,h2⟩⟩
     exact ⟨n,h4,h5,.inl rfl⟩
 obtain ⟨q,hb,he,hq⟩:=hkid
 have hnil:zs2 p c q []:=by
   intro w W W' v vp vo hP eP h e hs
   refine F257_call ?_
   unfold F257
   refine zcG hP eP fun w0 hx0 hAp=>?_
   refine zaE 0 (fun k us w'=>us=[vo,.int .i64 (k:Int)]∧Ext w0 w') 0 (Nat.zero_le _) ⟨rfl,Ext.refl _⟩ ?_
   rintro k m u w1 hkm ⟨hu,hx1⟩
   obtain ⟨hu0,hu1⟩:=zfZ hu
   rw [hu0,hu1]
   refine zae u66 h ?_
   refine zai ?_
   exact br (fun hlt=>by simp at hlt;omega) (fun hge=>⟨hx0.trans hx1,rfl⟩)
 have ihb:zs2 p c q x.body:=by
   rcases hq with hq | ⟨h1,_⟩
   · exact ih q _ hq
   rw [h1];exact hnil
 have ihe:zs2 p c q x.els:=by
   rcases hq with hq | ⟨_,h1⟩
   · exact ih q _ hq
   rw [h1];exact hnil
 refine zab zh4 hAp hx011 fun v79 h79=>?_
 refine zaa zeS ?_
 refine zab zfY (zcl hA8) hx211 fun v81 h81=>?_
 refine (ihb h79 hx011 h81 hx211 hb).mono ?_
 rintro _ w12 ⟨hx12,rfl⟩
 refine zab zh4 hAp (hx011.trans hx12) fun v84 h84=>?_
 refine zaa zdP ?_
 refine zab zfY (zb5 hA8) (hx211.trans hx12) fun v86 h86=>?_
 refine (ihe h84 (hx011.trans hx12) h86 (hx211.trans hx12) he).mono ?_
 rintro _ w13 ⟨hx13,rfl⟩
 refine zah (by omega) ?_
 exact ⟨m-1,by omega,k+1,by omega,rfl,hx011.trans (hx12.trans hx13),by omega⟩
theorem zgt {p:DProg} {c:Scp} (hg:p.globals=c.gl) (hl:p.locks=c.lk) (hpp:∀ x∈c.pr,x∈p.procs.map DProc.name) (hpn:p.procs.length≤1000):∀ (n:Nat) (l:List DStmt),zs2 p c n l
 | 0,l=>ze7 (n:=0) (l:=l) hg hl hpp hpn (fun m l h=>absurd h (by omega))
 | n + 1, l => ze7 (n := n + 1) (l := l) hg hl hpp hpn fun m l h => by
     obtain rfl:m=n:=by omega
     exact zgt hg hl hpp hpn m l
theorem ProgR.facts {p:DProg} (hp:ProgR p):p.procs.length≤4∧(∀ x∈p.procs.map DProc.name,zaZ x=true)∧(p.procs.map DProc.name).Nodup∧zgR∈p.procs.map DProc.name:=by
 obtain ⟨k,hk,hn⟩:=hp.n
 obtain ⟨n1,n2,n3,n4⟩:=zlq k hk
 rw [←hn] at n1 n2 n3 n4
 rw [List.length_map] at n1
 exact ⟨n1,fun x hx=>List.all_eq_true.1 n2 x hx,n3,n4⟩
theorem ProgR.gn {p:DProg} (hp:ProgR p):∀ x∈p.globals,zaZ x=true:=by
 intro x hx
 rcases hp.g with e | e<;>rw [e] at hx
 · exact zj4 hx
 exact zj4 (List.mem_of_mem_take hx)
theorem ProgR.ln {p:DProg} (hp:ProgR p):∀ x∈p.locks,zaZ x=true:=by
 intro x hx
 rcases hp.l with e | e | e<;>rw [e] at hx
 · exact zj5 hx
 · exact zj5 (List.mem_of_mem_take hx)
 exact zj5 (List.mem_of_mem_take hx)
theorem zlr {w W:World} {v:Value} {p:DProg} (h:Is W v p) (e:Ext W w) (hp:ProgR p):CALL Tryz.prog 187 [v] w fun r w'=>Ext w w'∧r=.bool true:=by
 obtain ⟨f1,f2,f3,f4⟩:=hp.facts
 refine F187_call ?_
 unfold F187
 refine zcG h e fun w1 hx1 hA=>?_
 refine zaa zi9 ?_
 refine zab zcP (zd5 hA) (Ext.refl _) fun v5 h5=>?_
 refine (zdC h5 (Ext.refl _)).mono ?_
 rintro _ w2 ⟨hx2,rfl⟩
 refine zbs ?_
 refine zcM (fun hc=>by rcases hp.g with e | e<;>(rw [e] at hc;exact absurd hc (by decide))) (fun _=>?_)
 refine zaa zja ?_
 refine zab zcP (zfl hA) hx2 fun v10 h10=>?_
 refine (zdC h10 hx2).mono ?_
 rintro _ w3 ⟨hx3,rfl⟩
 refine zbs ?_
 refine zcM (fun hc=>by rcases hp.l with e | e | e<;>(rw [e] at hc;exact absurd hc (by decide))) (fun _=>?_)
 have hx13:=hx2.trans hx3
 refine zaa zcR ?_
 refine zab zkD (zbw hA) hx13 fun v16 h16=>?_
 refine zae u62 h16 ?_
 refine zb0 ?_
 refine br (fun hc=>by omega) (fun _=>?_)
 refine zaE p.procs.length (fun k us w'=>us=[.int .i64 (k:Int)]∧Ext w1 w'∧k≤p.procs.length) 0 (Nat.zero_le _) ⟨rfl,hx13,Nat.zero_le _⟩ ?_
 rintro k m u w4 hkm ⟨hu,hx4,hkl⟩
 simp only [List.map_cons,List.map_nil,List.cons.injEq,and_true] at hu
 rw [hu]
 refine zaa zcR ?_
 refine zab zkD (zbw hA) hx4 fun v22 h22=>?_
 refine zae u62 h22 ?_
 refine zai ?_
 refine br (fun hlt=>?_) (fun hge=>⟨hx1.trans hx4,rfl⟩)
 have hk:k<p.procs.length:=by omega
 have hkm':p.procs[k]∈p.procs:=List.getElem_mem hk
 refine zaa zcR ?_
 refine zab zkD (zbw hA) hx4 fun v28 h28=>?_
 refine zad u62 zo6 h28 hk fun b30 o30 hA30=>?_
 refine zaa zm3 ?_
 refine zao ty9 (zfk hA30) hx4 fun hS=>?_
 refine (specIsName_ok (w:=w4)).mono ?_
 rintro _ w5 ⟨hx5,rfl⟩
 refine zbs ?_
 refine zcM (fun hc=>by rw [f2 _ (List.mem_map.2 ⟨_,hkm',rfl⟩)] at hc;cases hc) (fun _=>?_)
 refine zaa zcR ?_
 refine zab zkD (zbw hA) (hx4.trans hx5) fun v37 h37=>?_
 refine zad u62 zo6 h37 hk fun b39 o39 hA39=>?_
 refine zaa zm4 ?_
 refine zab zfY (zgM hA39) (hx4.trans hx5) fun v41 h41=>?_
 refine (zqU ⟨hp.gn,hp.ln,fun x hx=>f2 x (List.mem_of_mem_drop hx)⟩ h41 (hx4.trans hx5) (hp.b _ hkm')).mono ?_
 rintro _ w6 ⟨hx6,rfl⟩
 refine zbs ?_
 refine zcM (fun hc=>by cases hc) (fun _=>?_)
 refine zah (by omega) ?_
 exact ⟨m-1,by omega,k+1,by omega,rfl,hx4.trans (hx5.trans hx6),by omega⟩
theorem zls {w W:World} {v:Value} {p:DProg} (h:Is W v p) (e:Ext W w) (hp:ProgR p):CALL Tryz.prog 190 [v] w fun r w'=>Ext w w'∧Is w' r ([]:List ByteArray):=by
 obtain ⟨f1,f2,f3,f4⟩:=hp.facts
 refine F190_call ?_
 unfold F190
 refine zcG h e fun w1 hx1 hA=>?_
 refine zaK (α:=ByteArray) u24 ty9 fun v5 w2 hx2 r5=>?_
 refine zaE p.procs.length (fun k us w'=>us=[.slice (some v5) 0 0,.int .i64 (k:Int)]∧Ext w2 w'∧k≤p.procs.length) 0 (Nat.zero_le _) ⟨rfl,Ext.refl _,Nat.zero_le _⟩ ?_
 rintro k m u w3 hkm ⟨hu,hx3,hkl⟩
 obtain ⟨hu0,hu1⟩:=zfZ hu
 rw [hu0,hu1]
 have hx13:=hx2.trans hx3
 refine zab zh4 hA hx13 fun v6 h6=>?_
 refine (zlr h6 hx13 hp).mono ?_
 rintro _ w4 ⟨hx4,rfl⟩
 have hx14:=hx13.trans hx4
 refine zcM (fun _=>?_) (fun hc=>by cases hc)
 refine zaa zcR ?_
 refine zab zkD (zbw hA) hx14 fun v11 h11=>?_
 refine zae u62 h11 ?_
 refine zai ?_
 refine br (fun hlt=>?_) (fun hge=>⟨hx1.trans hx14,r5.is.ext (hx3.trans hx4)⟩)
 have hk:k<p.procs.length:=by omega
 have hkm':p.procs[k]∈p.procs:=List.getElem_mem hk
 have hx5:=zaj w4
 have hx15:=hx14.trans hx5
 refine zab zh4 hA hx15 fun v17 h17=>?_
 refine zaa zcR ?_
 refine zab zkD (zbw hA) hx15 fun v19 h19=>?_
 refine zad u62 zo6 h19 hk fun b21 o21 hA21=>?_
 refine zaa zm4 ?_
 refine zab zfY (zgM hA21) hx15 fun v23 h23=>?_
 refine (zgt rfl rfl (fun x hx=>List.mem_of_mem_drop hx) (by omega) 2 _ h17 hx15 h23 hx15 (hp.b _ hkm').1).mono ?_
 rintro _ w6 ⟨hx6,rfl⟩
 refine zah (by omega) ?_
 exact ⟨m-1,by omega,k+1,by omega,rfl,hx3.trans (hx4.trans (hx5.trans hx6)),by omega⟩
def F191 (a0 a1:Value) (w:World) (R:VW):Prop:=
 oP (Instr.box 64 a0) w fun x2 w=>
 LOOPI [5] [(iV 0)] w fun u2 w next2=>
 rF 64 x2 2 w fun x7=>
 rL 62 x7 w fun x8=>
 rN 62 3 x8 w fun x9=>
 rC (u2 5) x9 w fun x10=>
 BR x10
 (rF 64 x2 2 w fun x13=>
 rL 62 x13 w fun x14=>
 rX 62 x14 (u2 5) w fun x16=>
 rF 69 x16 0 w fun x17=>
 rL 9 x17 w fun x18=>
 rB .eql 9 T0 T0 x18 a1 w fun x20=>
 BR x20
 (R (u2 5) w)
 (rA (u2 5) (iV 1) w fun x12=>
 next2 [x12] w))
 (R (iV (-1)) w)
def cfg191:Cfg:=⟨extL,[],[(2,4194288,[5])],[],[],[],[]⟩
theorem F191_call {a0 a1:Value} {w:World} {R:VW} (h:F191 a0 a1 w R):cL 191 [a0,a1] w R:=co (g:=cfg191) Tryz.func191 (by kernel_rfl) (by kernel_rfl) (by kernel_rfl) h
theorem ziz {w:World} {v0:Value} {W0:World} {p:DProg} {s:ByteArray}  (h0:Is W0 v0 p) (e0:Ext W0 w)  :
   CALL Tryz.prog 191 [v0,.string s] w fun r w'=>Ext w w'∧(r=.int .i64 (plc s (p.procs.map DProc.name))):=by
 refine F191_call ?_
 unfold F191
 refine zal zh4 rfl h0 e0 fun w1_ hx1_ hA2 hV2=>?_
 refine zaE (p.procs.length) (fun k us w'=>us=[.int .i64 (k:Int)]∧Ext w1_ w'∧(s∉(p.procs.map DProc.name).take k)) (0) (by omega) ⟨by simp,Ext.refl w1_,by simp⟩ ?_
 rintro k m2 uu2 w2_ hk2 ⟨hu,hx2_,hinv⟩
 simp only [List.map_cons,List.map_nil,List.cons.injEq,and_true] at hu
 try rw [hu]
 try clear hu
 refine zaa zcR ?_
 refine zab zkD (zbw hA2) hx2_ fun v8 h8=>?_
 have hln9:=zaf h8
 refine zae u62 h8 ?_
 refine zai ?_
 refine br (fun c1=>?_) (fun c1=>?_)
 · refine zaa zcR ?_
   refine zab zkD (zbw hA2) hx2_ fun v14 h14=>?_
   refine zad u62 zo6 h14 (by omega) fun b16 o16 h16=>?_
   refine zaa zm3 ?_
   refine zao ty9 (zfk h16) hx2_ fun hS18=>?_
   refine zay ?_
   refine br (fun c2=>?_) (fun c2=>?_)
   · refine ⟨(hx1_.trans hx2_),?_⟩
     rw [zje (k:=k) (by rw [List.length_map];omega) hinv (by rw [List.getElem_map];assumption)]
   refine zah (by omega) ?_
   refine ⟨m2-1,by omega,k+1,by omega,by simp,hx2_,?_⟩
   refine zb6 (by rw [List.length_map];omega) hinv ?_
   rw [List.getElem_map];assumption
 refine ⟨(hx1_.trans hx2_),?_⟩
 rw [zhH (by rw [List.take_of_length_le (by rw [List.length_map];omega)] at hinv;exact hinv)]
theorem zlt {w W:World} {v:Value} {p:DProg} (h:Is W v p) (e:Ext W w) (hp:ProgR p):CALL Tryz.prog 112 [v] w fun r w'=>Ext w w'∧r=.int .i64 0:=by
 obtain ⟨f1,f2,f3,f4⟩:=hp.facts
 refine F112_call ?_
 unfold F112
 refine zcG h e fun w1 hx1 hA=>?_
 refine zab zh4 hA (Ext.refl _) fun v4 h4=>?_
 refine (zlr h4 (Ext.refl _) hp).mono ?_
 rintro _ w2 ⟨hx2,rfl⟩
 refine zbs ?_
 refine zcM (fun hc=>by cases hc) (fun _=>?_)
 refine zaa zi9 ?_
 refine zab zcP (zd5 hA) hx2 fun v9 h9=>?_
 refine (zcZ h9 hx2).mono ?_
 rintro _ w3 ⟨hx3,rfl⟩
 have hx13:=hx2.trans hx3
 refine br (fun hc=>by rcases hp.g with e | e<;>(rw [e] at hc;exact absurd (by decide) hc)) (fun _=>?_)
 refine zaa zja ?_
 refine zab zcP (zfl hA) hx13 fun v13 h13=>?_
 refine (zcZ h13 hx13).mono ?_
 rintro _ w4 ⟨hx4,rfl⟩
 have hx14:=hx13.trans hx4
 refine br (fun hc=>by rcases hp.l with e | e | e<;>(rw [e] at hc;exact absurd (by decide) hc)) (fun _=>?_)
 refine zab zh4 hA hx14 fun v17 h17=>?_
 refine (ziy h17 hx14 (by omega)).mono ?_
 rintro v18 w5 ⟨hx5,o18⟩
 refine (zcZ o18.is (Ext.refl _)).mono ?_
 rintro _ w6 ⟨hx6,rfl⟩
 have hx16:=hx14.trans (hx5.trans hx6)
 refine br (fun hc=>absurd f3 hc) (fun _=>?_)
 refine zab zh4 hA hx16 fun v22 h22=>?_
 refine (zls h22 hx16 hp).mono ?_
 rintro v23 w7 ⟨hx7,h23⟩
 have hx17:=hx16.trans hx7
 refine zae u24 h23 ?_
 refine zb0 ?_
 refine br (fun hc=>by simp at hc) (fun _=>?_)
 refine zab zh4 hA hx17 fun v27 h27=>?_
 refine (ziz h27 hx17).mono ?_
 rintro _ w8 ⟨hx8,rfl⟩
 refine zai ?_
 have hm:=zdZ.2 f4
 refine br (fun hc=>by unfold zgR at hm;omega) (fun _=>?_)
 exact ⟨hx1.trans (hx17.trans hx8),rfl⟩
end Go.Proofs.YtdmailcgaekimaaGreat
namespace Go.Sh
open Rep (rep)
section
variable {P:Program} {w:World} {α:Type} [Rep α] [Flat α] {b o n cap k:Nat} {l:List α}
theorem zc5 {F:List Nat} {v:Value} (hm:Mine F w v l) (hl:l≠[]):∃ b o cap xs,v=.slice (some ⟨b,o,none⟩) l.length cap∧F=[b]∧l.length≤cap∧cap≤maxLen∧Cells [] w xs l∧w.rangeAt b o xs∧(∃ c e,w.heap[b]?=some (.cells c e (0,0))):=by
 obtain ⟨⟨cs,⟨a,cap,Fi,xs,rfl,h1,h2,hc,h4⟩,rfl⟩,hn,hw⟩:=hm
 rcases h4 with ⟨h4,_⟩ | ⟨b,o,rfl,rfl,hr,hb⟩
 · exact absurd h4 hl
 have hFi:=Cells.flat (xs:=xs) hc
 subst hFi
 exact ⟨b,o,cap,xs,rfl,rfl,h1,h2,hc,hr,hw b (by simp)⟩
theorem zeE {xs:List Value} (h1:l.length≤cap) (h2:cap≤maxLen) (hc:Cells [] w xs l) (hr:w.rangeAt b o xs) (hw:∃ c e,w.heap[b]?=some (.cells c e (0,0))):Mine [b] w (.slice (some ⟨b,o,none⟩) l.length cap) l:=
 ⟨⟨_,⟨some ⟨b,o,none⟩,cap,[],xs,rfl,h1,h2,hc,.inr ⟨b,o,rfl,rfl,hr,by obtain ⟨c,e,h⟩:=hw;exact (Array.getElem?_eq_some_iff.1 h).1⟩⟩,rfl⟩,by simp,fun i hi=>by simp at hi;subst hi;exact hw⟩
theorem zpL {t e:TypeId} {by_:Nat} {K:Value→Prop} (ht:P.underlying t=some (.slice e)) (he:tyI P e=some (Rep.size α,by_,Rep.agg α)) (hk:k≤n) (hn:n≤cap) (kk:K (.slice (some ⟨b,o,none⟩) k cap)) :
   RD P (Instr.sliceAt t (.slice (some ⟨b,o,none⟩) n cap) none (some (.int .i64 (k:Int))) none) w K:=by
 refine zaV (fun w' _=>?_) kk
 have hbd:(Instr.sliceBounds true n cap none (some (.int .i64 (k:Int))) none).run P w'=.ok (0,k,cap) w':=by
   have h5:(k:Int)≤(cap:Int):=by omega
   simp [Instr.sliceBounds,Instr.sliceBound,asIntOf,h5]
   intro h6
   omega
 simp only [Instr.sliceAt,Instr.slice,Sem.run_bind,run_underlying ht,Result.andThen_ok,hbd,zaD he]
 simp [Addr.add_mid]
theorem znv {t e:TypeId} {by_:Nat} {K:Value→Prop} (ht:P.underlying t=some (.slice e)) (he:tyI P e=some (Rep.size α,by_,Rep.agg α)) (hk:k≤n) (hn:n≤cap) (kk:K (.slice (if cap=k then some ⟨b,o,none⟩ else some ⟨b,o+k*Rep.size α,none⟩) (n-k) (cap-k))) :
   RD P (Instr.sliceAt t (.slice (some ⟨b,o,none⟩) n cap) (some (.int .i64 (k:Int))) none none) w K:=by
 refine zaV (fun w' _=>?_) kk
 have hb:(Instr.sliceBounds true n cap (some (.int .i64 (k:Int))) none none).run P w'=.ok (k,n,cap) w':=by
   have:(k:Int)≤(n:Int):=by omega
   simp [Instr.sliceBounds,Instr.sliceBound,asIntOf,this]
   try (intro h;omega)
 simp [Instr.sliceAt,Instr.slice,run_underlying ht,hb,zaD he,Addr.add_mid]
theorem znw {t e:TypeId} {by_ j:Nat} {K:Value→Prop} (ht:P.underlying t=some (.slice e)) (he:tyI P e=some (Rep.size α,by_,Rep.agg α)) (hk:k≤j) (hn:j≤cap) {a:Option Addr} (kk:∀ a',(k≠0→a'=a)→K (.slice a' k j)) :
   RD P (Instr.sliceAt t (.slice a n cap) none (some (.int .i64 (k:Int))) (some (.int .i64 (j:Int)))) w K:=by
 have hb:∀ w',(Instr.sliceBounds true n cap none (some (.int .i64 (k:Int))) (some (.int .i64 (j:Int)))).run P w'=.ok (0,k,j) w':=fun w'=>by
   have h1:(j:Int)≤(cap:Int):=by omega
   have h2:(k:Int)≤(j:Int):=by omega
   simp [Instr.sliceBounds,Instr.sliceBound,asIntOf,h1,h2]
   try (intro h;omega)
 have:∃ a',(∀ w',(Instr.sliceAt t (.slice a n cap) none (some (.int .i64 (k:Int))) (some (.int .i64 (j:Int)))).run P w'=.ok (.slice a' k j) w')∧(k≠0→a'=a):=by
   cases a with
   | none=>exact ⟨none,fun w'=>by simp [Instr.sliceAt,Instr.slice,run_underlying ht,hb,zaD he],fun _=>rfl⟩
   | some a=>exact ⟨some a,fun w'=>by simp [Instr.sliceAt,Instr.slice,run_underlying ht,hb,zaD he,Addr.add],fun _=>rfl⟩
 obtain ⟨a',h1,h2⟩:=this
 exact zaV (fun w' _=>h1 w') (kk a' h2)
theorem zpM [RepZ α] {t e ty:TypeId} {K:Value→World→Prop} (ht:P.underlying t=some (.slice e)) (hz:zb9 P e=some (RepZ.zc α)) (hm:Mine [b] w (.slice (some ⟨b,o,none⟩) n cap) l) (hl:l.length=n) (hk:k≤n) (hk0:0<k) (hn:n≤cap)
   (kk:∀ w',Chg [b] w w'→Mine [b] w' (.slice (some ⟨b,o,none⟩) k cap) (l.take k)→K (.tuple #[]) w') :
   OP P (Builtin.clear_ #[t] ty [Value.slice (if cap=k then some ⟨b,o,none⟩ else some ⟨b,o+k*Rep.size α,none⟩) (n-k) (cap-k)].toArray) w K:=by
 have hne:l≠[]:=fun e=>by rw [e] at hl;simp at hl;omega
 obtain ⟨b',o',cap',xs,hv,hb',h1,h2,hc,hr,hw⟩:=zc5 hm hne
 simp only [Value.slice.injEq,Option.some.injEq,Addr.mk.injEq] at hv
 obtain ⟨⟨rfl,rfl,_⟩,hnl,rfl⟩:=hv
 have htk:(l.take k).length=k:=by simp;omega
 have e0:l=l.take k++l.drop k:=by simp
 have hc':=hc
 rw [e0] at hc'
 obtain ⟨F1,F2,x1,x2,hFF,rfl,c1,c2⟩:=Cells.split hc'
 obtain ⟨rfl,rfl⟩:=List.append_eq_nil_iff.1 hFF.symm
 have hx1:x1.length=k*Rep.size α:=by rw [Cells.len c1,htk]
 have hr1:=(zaB hr).1
 by_cases hnk:n=k
 · subst hnk
   refine ⟨.tuple #[],w,?_,kk w (Chg.refl _ _) ?_⟩
   · rw [Nat.sub_self]
     by_cases hck:cap=n
     · rw [if_pos hck];simp [Builtin.clear_,run_underlying ht]
     rw [if_neg hck];simp [Builtin.clear_,run_underlying ht]
   have:=zeE (l:=l.take n) (cap:=cap) (by omega) h2 c1 hr1 hw
   rwa [htk] at this
 have hck:¬cap=k:=by omega
 rw [if_neg hck]
 obtain ⟨c,e',he⟩:=hw
 unfold zb9 at hz
 cases hi:P.info? e with
 | none=>simp [hi] at hz
 | some i=>
   simp only [hi] at hz
   obtain ⟨z,hzz,hzc⟩:=Option.map_eq_some_iff.1 hz
   have hzl:z.cells.size=Rep.size α:=by
     rw [←Array.length_toList,hzc];exact Rep.len (RepZ.zr (α:=α) w)
   have hpos:=Rep.pos (α:=α)
   obtain ⟨m,hm'⟩:∃ m,n-k=m+1:=⟨n-k-1,by omega⟩
   have hzs:(Builtin.zeroCells z.cells (n-k)).toList.length=(n-k)*Rep.size α:=by simp [Builtin.zeroCells,hzl]
   have hfit:o+(k*Rep.size α)+0+(Builtin.zeroCells z.cells (n-k)).toList.length≤c.size:=by
     rw [hzs]
     have hx:(x1++x2).length=n*Rep.size α:=by rw [Cells.len hc,hl]
     have hlast:=hr (n*Rep.size α-1) ((x1++x2)[n*Rep.size α-1]'(by rw [hx];have:=Nat.mul_pos (show 0<n by omega) hpos;omega)) (List.getElem?_eq_getElem _)
     simp only [World.cell?,he] at hlast
     have:=(Array.getElem?_eq_some_iff.1 (by simpa using hlast)).1
     have h3:(n-k)*Rep.size α+k*Rep.size α=n*Rep.size α:=by rw [←Nat.add_mul];congr 1;omega
     have h4:=Nat.mul_pos (show 0<n by omega) hpos
     omega
   have hone:∀ v∈(Builtin.zeroCells z.cells (n-k)).toList,v.oneCell'=true:=fun v hv=>by
     simp only [Builtin.zeroCells,Array.toList_map,Array.toList_range,List.mem_map,List.mem_range] at hv
     obtain ⟨i,_,rfl⟩:=hv
     have hlt:i%z.cells.size<z.cells.size:=Nat.mod_lt _ (by omega)
     have e3:z.cells[i%z.cells.size]! = z.cells[i%z.cells.size]'hlt:=by simp [hlt]
     rw [e3]
     refine Rep.one (RepZ.zr (α:=α) w) _ ?_
     rw [←hzc]
     exact Array.getElem_mem_toList hlt
   have hst:=run_storeCells_at (P:=P) b (o+k*Rep.size α) e' (Builtin.zeroCells z.cells (n-k)).toList 0 c w he hfit hone
   simp only [Nat.add_zero] at hst
   refine ⟨.tuple #[],_,?_,kk _ (zcV w b (c.toList.take (o+k*Rep.size α)++(Builtin.zeroCells z.cells (n-k)).toList++c.toList.drop (o+k*Rep.size α+(Builtin.zeroCells z.cells (n-k)).toList.length)).toArray) ?_⟩
   · rw [hm'] at hst ⊢
     simp [Builtin.clear_,run_underlying ht,zeroValue,typeInfo,hi,hzz,hst]
   have hB:=setRow_heap w b c (c.toList.take (o+k*Rep.size α)++(Builtin.zeroCells z.cells (n-k)).toList++c.toList.drop (o+k*Rep.size α+(Builtin.zeroCells z.cells (n-k)).toList.length)).toArray e' _ he
   have:=zeE (w:=w.setRow b (c.toList.take (o+k*Rep.size α)++(Builtin.zeroCells z.cells (n-k)).toList++c.toList.drop (o+k*Rep.size α+(Builtin.zeroCells z.cells (n-k)).toList.length)).toArray) (b:=b) (o:=o) (l:=l.take k) (cap:=cap) (xs:=x1) (by omega) h2 (c1.keep (by simp)) (fun j v hv=>?_) ⟨_,_,hB⟩
   · rwa [htk] at this
   have hj:=(List.getElem?_eq_some_iff.1 hv).1
   rw [hx1] at hj
   have h5:=hr1 j v hv
   simp only [World.cell?,he] at h5
   have h6:c[o+j]?=some v:=by simpa using h5
   simp only [World.cell?,hB]
   simp only [Option.isSome_none,Bool.false_eq_true,if_false,List.getElem?_toArray]
   rw [List.append_assoc,List.getElem?_append_left (by simp;have:=(Array.getElem?_eq_some_iff.1 h6).1;omega),List.getElem?_take,if_pos (by omega)]
   simpa using h6
end
end Go.Sh
namespace Go.Proofs.YtdmailcgaekimaaGreat
open Go Go.Sh Go.Proofs
open Rep (rep)
set_option maxRecDepth 20000 in
theorem ziA {w w0 w1:World} {K:Value→Prop} {x y:Operand} {v1 v2:Value} {a b:DRace} (h1:Is w0 v1 a) (h2:Is w1 v2 b) (k:K (.bool (decide (a=b)))):RD Tryz.prog (bin .eql 43 x y v1 v2) w K:=by
  obtain ⟨rfl,_⟩:=zjG.1 h1
  obtain ⟨rfl,_⟩:=zjG.1 h2
  refine zaV (fun w' _=>?_) k
  have hg:Tryz.prog.eqGuardType Tryz.prog.depth 43=false:=by kernel_rfl
  have e0:∀ xs ys w,(eqGuard .eql 43 x y (.agg xs) (.agg ys)).run Tryz.prog w=.ok () w:=fun xs ys w=>run_eqGuard_agg (P:=Tryz.prog) w .eql 43 x y xs ys hg
  have e1:∀ xs ys w,(Op.equalIn 10000 43 (.agg xs) (.agg ys)).run Tryz.prog w=(Op.eqFields 9999 xs ys (Tryz.prog.fieldsOf 43).toList).run Tryz.prog w:=fun xs ys w=>run_equalIn_struct w 9999 43 xs ys (by kernel_rfl) (by kernel_rfl)
  have e2:(Tryz.prog.fieldsOf 43).toList.map (fun f=>(f.name,f.type,f.offset))=[("Global", 3,0),("A", 3,1),("B", 3,2)]:=by kernel_rfl
  have e3:∀ (c d:Int) (w:World),(Op.equalIn 9999 3 (.int .i64 c) (.int .i64 d)).run Tryz.prog w=.ok (c == d) w:=fun c d w=>run_equalIn_int w 9998 3 .i64 .i64 c d u3
  have hd:(a=b)↔(a.g=b.g∧a.a=b.a∧a.b=b.b):=⟨fun e=>by rw [e];exact ⟨rfl,rfl,rfl⟩,fun ⟨x,y,z⟩=>by cases a;cases b;simp only at x y z;rw [x,y,z]⟩
  generalize hF:(Tryz.prog.fieldsOf 43).toList=fs at e1 e2
  match fs,e2 with
  | [f0,f1,f2],e2=>
    simp only [List.map_cons,List.map_nil,List.cons.injEq,Prod.mk.injEq,and_true] at e2
    obtain ⟨⟨n0,t0,o0⟩,⟨n1,t1,o1⟩,⟨n2,t2,o2⟩⟩:=e2
    have p0:∀ (a b c:Value) (w:World),(part 3 #[a,b,c] 0).run Tryz.prog w=.ok a w:=fun a b c w=>by simp [part,zb2 ty3]
    have p1:∀ (a b c:Value) (w:World),(part 3 #[a,b,c] 1).run Tryz.prog w=.ok b w:=fun a b c w=>by simp [part,zb2 ty3]
    have p2:∀ (a b c:Value) (w:World),(part 3 #[a,b,c] 2).run Tryz.prog w=.ok c w:=fun a b c w=>by simp [part,zb2 ty3]
    simp only [bin,Sem.run_bind,e0,Result.andThen_ok,run_eql_struct,e1,Op.eqFields,n0,n1,n2,t0,t1,t2,o0,o1,o2]
    simp only [ne_eq,String.reduceEq,not_false_eq_true,if_true,Sem.run_bind,p0,p1,p2,Result.andThen_ok,e3,Sem.run_ite,Sem.run_pure,hd]
    by_cases x0:a.g=b.g<;>by_cases x1:a.a=b.a<;>by_cases x2:a.b=b.b<;>simp [x0,x1,x2]
set_option maxRecDepth 20000 in
theorem ziB {w w0 w1:World} {K:Value→Prop} {x y:Operand} {v1 v2:Value} {a b:DRace} (h1:Is w0 v1 a) (h2:Is w1 v2 b) (k:K (.bool (decide (a≠b)))):RD Tryz.prog (bin .neq 43 x y v1 v2) w K:=by
  obtain ⟨rfl,_⟩:=zjG.1 h1
  obtain ⟨rfl,_⟩:=zjG.1 h2
  refine zaV (fun w' _=>?_) k
  have hg:Tryz.prog.eqGuardType Tryz.prog.depth 43=false:=by kernel_rfl
  have e0:∀ xs ys w,(eqGuard .neq 43 x y (.agg xs) (.agg ys)).run Tryz.prog w=.ok () w:=fun xs ys w=>run_eqGuard_agg (P:=Tryz.prog) w .neq 43 x y xs ys hg
  have e1:∀ xs ys w,(Op.equalIn 10000 43 (.agg xs) (.agg ys)).run Tryz.prog w=(Op.eqFields 9999 xs ys (Tryz.prog.fieldsOf 43).toList).run Tryz.prog w:=fun xs ys w=>run_equalIn_struct w 9999 43 xs ys (by kernel_rfl) (by kernel_rfl)
  have e2:(Tryz.prog.fieldsOf 43).toList.map (fun f=>(f.name,f.type,f.offset))=[("Global", 3,0),("A", 3,1),("B", 3,2)]:=by kernel_rfl
  have e3:∀ (c d:Int) (w:World),(Op.equalIn 9999 3 (.int .i64 c) (.int .i64 d)).run Tryz.prog w=.ok (c == d) w:=fun c d w=>run_equalIn_int w 9998 3 .i64 .i64 c d u3
  have hd:(a=b)↔(a.g=b.g∧a.a=b.a∧a.b=b.b):=⟨fun e=>by rw [e];exact ⟨rfl,rfl,rfl⟩,fun ⟨x,y,z⟩=>by cases a;cases b;simp only at x y z;rw [x,y,z]⟩
  generalize hF:(Tryz.prog.fieldsOf 43).toList=fs at e1 e2
  match fs,e2 with
  | [f0,f1,f2],e2=>
    simp only [List.map_cons,List.map_nil,List.cons.injEq,Prod.mk.injEq,and_true] at e2
    obtain ⟨⟨n0,t0,o0⟩,⟨n1,t1,o1⟩,⟨n2,t2,o2⟩⟩:=e2
    have p0:∀ (a b c:Value) (w:World),(part 3 #[a,b,c] 0).run Tryz.prog w=.ok a w:=fun a b c w=>by simp [part,zb2 ty3]
    have p1:∀ (a b c:Value) (w:World),(part 3 #[a,b,c] 1).run Tryz.prog w=.ok b w:=fun a b c w=>by simp [part,zb2 ty3]
    have p2:∀ (a b c:Value) (w:World),(part 3 #[a,b,c] 2).run Tryz.prog w=.ok c w:=fun a b c w=>by simp [part,zb2 ty3]
    simp only [bin,Sem.run_bind,e0,Result.andThen_ok,run_neq_struct,e1,Op.eqFields,n0,n1,n2,t0,t1,t2,o0,o1,o2]
    simp only [ne_eq,String.reduceEq,not_false_eq_true,if_true,Sem.run_bind,p0,p1,p2,Result.andThen_ok,e3,Sem.run_ite,Sem.run_pure,hd]
    by_cases x0:a.g=b.g<;>by_cases x1:a.a=b.a<;>by_cases x2:a.b=b.b<;>simp [x0,x1,x2,hd]
end Go.Proofs.YtdmailcgaekimaaGreat
namespace Go.Sh
open Rep (rep)
abbrev RInts:=RV Int 3
abbrev RIntss:=RV RInts 25
structure DStV where
 vars:List Int
 owner:List Int
 stacks:RIntss
theorem DStV.ext_iff {x y:DStV}:x=y↔(x.vars=y.vars∧x.owner=y.owner∧x.stacks=y.stacks):=⟨fun h=>by rw [h];exact ⟨rfl,rfl,rfl⟩,fun h=>by obtain ⟨h0,h1,h2⟩:=h;cases x;cases y;simp only at h0 h1 h2;simp only [h0,h1,h2]⟩
instance:Rep DStV:=Rep.via fun x=>(x.vars,x.owner,x.stacks)
theorem zgu {w:World} {b o:Nat} {x:DStV} (h:At w b o x):At w b (o+2) x.stacks:=zaP (α:=List Int) (β:=RIntss) (p:=(x.owner,x.stacks)) (zaP (α:=List Int) (β:=(List Int)×RIntss) (p:=(x.vars,x.owner,x.stacks)) h)
instance:RepZ DStV:=⟨⟨(RepZ.zv:List Int),(RepZ.zv:List Int),(RepZ.zv:RIntss)⟩,RepZ.zc ((List Int)×(List Int)×RIntss),fun w=>RepZ.zr (α:=(List Int)×(List Int)×RIntss) w⟩
theorem zmy {γ:Type} {H:List Nat→World→γ→Prop} {F:List Nat} {w:World} {b o:Nat} {G:List Nat} {x:DStV} {upd:DStV→γ} (h:Lens H F w b o G x upd) :
   ∃ G1,Lens H F w b (o+0) G1 x.vars (fun y=>upd ⟨y,x.owner,x.stacks⟩):=by
 have h':Lens H F w b o G (x.vars,x.owner,x.stacks) (fun p:(List Int)×(List Int)×RIntss=>upd ⟨p.1,p.2.1,p.2.2⟩):=⟨h.here,h.sub,fun w' G' y' hc hO hs=>h.back w' G' _ hc hO hs⟩
 obtain ⟨G0,h'⟩:=h'.fst
 exact ⟨_,h'⟩
theorem zmz {γ:Type} {H:List Nat→World→γ→Prop} {F:List Nat} {w:World} {b o:Nat} {G:List Nat} {x:DStV} {upd:DStV→γ} (h:Lens H F w b o G x upd) :
   ∃ G1,Lens H F w b (o+1) G1 x.owner (fun y=>upd ⟨x.vars,y,x.stacks⟩):=by
 have h':Lens H F w b o G (x.vars,x.owner,x.stacks) (fun p:(List Int)×(List Int)×RIntss=>upd ⟨p.1,p.2.1,p.2.2⟩):=⟨h.here,h.sub,fun w' G' y' hc hO hs=>h.back w' G' _ hc hO hs⟩
 obtain ⟨G0,h'⟩:=h'.snd
 obtain ⟨G1,h'⟩:=h'.fst
 exact ⟨_,h'⟩
theorem zeF {γ:Type} {H:List Nat→World→γ→Prop} {F:List Nat} {w:World} {b o:Nat} {G:List Nat} {x:DStV} {upd:DStV→γ} (h:Lens H F w b o G x upd) :
   ∃ G1,Lens H F w b (o+2) G1 x.stacks (fun y=>upd ⟨x.vars,x.owner,y⟩):=by
 have h':Lens H F w b o G (x.vars,x.owner,x.stacks) (fun p:(List Int)×(List Int)×RIntss=>upd ⟨p.1,p.2.1,p.2.2⟩):=⟨h.here,h.sub,fun w' G' y' hc hO hs=>h.back w' G' _ hc hO hs⟩
 obtain ⟨G0,h'⟩:=h'.snd
 obtain ⟨G1,h'⟩:=h'.snd
 exact ⟨_,h'⟩
theorem zqV {w:World} {F:List Nat} {cs:List Value} {x:DStV} (h:rep F w cs x):∃ F0 c0 F1 c1 F2 c2,F=(F0++(F1++F2))∧cs=(c0++(c1++c2))∧rep F0 w c0 x.vars∧rep F1 w c1 x.owner∧rep F2 w c2 x.stacks:=by
 obtain ⟨F0,G0,c0,d0,rfl,rfl,h0,h⟩:=h
 obtain ⟨F1,G1,c1,d1,rfl,rfl,h1,h⟩:=h
 exact ⟨_,_,_,_,_,_,rfl,rfl,h0,h1,h⟩
def DStV.er (z:DStV):DState:=⟨z.vars,z.owner,z.stacks.l.map RV.l⟩
section
variable {w:World}
theorem zqW {F G H:List Nat} {a b:Value} {s:DStV} (h1:Mine F w a s.vars) (h2:Mine G w b s.owner) (h3:Mine H w s.stacks.v s.stacks) (hn:(F++(G++H)).Nodup):Mine (F++(G++H)) w (.agg #[a,b,s.stacks.v]) s:=
 ⟨⟨[a,b,s.stacks.v],zaC (zaS rfl h1.own) (zaC (zaS rfl h2.own) (zaS rfl h3.own)),rfl⟩,hn,h1.wr.append (h2.wr.append h3.wr)⟩
theorem zqX {a b:Value} {s:DStV} {lo hi l0 h0 l1 h1 l2 h2:Nat} (m0:OwnI l0 h0 w a s.vars) (m1:OwnI l1 h1 w b s.owner) (m2:OwnI l2 h2 w s.stacks.v s.stacks) (d01:h0≤l1∨h1≤l0) (d02:h0≤l2∨h2≤l0) (d12:h1≤l2∨h2≤l1)
   (b0:lo≤l0∧h0≤hi) (b1:lo≤l1∧h1≤hi) (b2:lo≤l2∧h2≤hi):OwnI lo hi w (.agg #[a,b,s.stacks.v]) s:=by
 obtain ⟨F0,M0,B0⟩:=m0
 obtain ⟨F1,M1,B1⟩:=m1
 obtain ⟨F2,M2,B2⟩:=m2
 refine ⟨F0++(F1++F2),zqW M0 M1 M2 ?_,fun x hx=>?_⟩
 · rw [List.nodup_append,List.nodup_append]
   refine ⟨M0.nodup,⟨M1.nodup,M2.nodup,fun p hp q hq e=>?_⟩,fun p hp q hq e=>?_⟩
   · subst e;have:=B1 p hp;have:=B2 p hq;omega
   subst e
   have:=B0 p hp
   rcases List.mem_append.1 hq with hq | hq
   · have:=B1 p hq;omega
   have:=B2 p hq;omega
 rcases List.mem_append.1 hx with hx | hx
 · have:=B0 x hx;omega
 rcases List.mem_append.1 hx with hx | hx
 · have:=B1 x hx;omega
 have:=B2 x hx;omega
end
end Go.Sh
namespace Go.Proofs.YtdmailcgaekimaaGreat
open Go Go.Sh Go.Proofs
open Rep (rep)
def F97 (a0:Value) (w:World) (R:VW):Prop:=
 oP (Instr.box 31 a0) w fun x1 w=>
 oP (Instr.alloc 31 true (.tuple #[])) w fun x2 w=>
 (fun w0=>PAR w0 [[(0,5)],[(1,6)],[(2,7),(1,6)],[(3,8),(0,5),(2,7)],[(4,9)],[(5,10)],[(6,11),(5,10)],[(7,12),(4,9),(6,11),(3,8)],[(8,13),(3,8),(7,12)],[(9,3)]] (fun Q=>
 (∀ (u1:Env) (T:Nat→Nat×Nat) (w:World),Ext w0 w→zbf [] w0.heap.size w.heap.size T→(True)→(fun w1=>oP (Instr.buildSlice 25 0 #[]) w fun x5 w=>
 Ext w1 w∧Q 0 (upd u1 5 x5) (zcx T 0 (w1.heap.size,w.heap.size)) w) w) ∧
 (∀ (u1:Env) (T:Nat→Nat×Nat) (w:World),Ext w0 w→zbf [] w0.heap.size w.heap.size T→(True)→(fun w1=>rF 31 x1 0 w fun x6=>
 Ext w1 w∧Q 1 (upd u1 6 x6) (zcx T 1 (w1.heap.size,w.heap.size)) w) w) ∧
 (∀ (u1:Env) (T:Nat→Nat×Nat) (w:World),Ext w0 w→zbf [1] w0.heap.size w.heap.size T→(Q 1 u1 T w∧True)→(fun w1=>rL 25 (u1 6) w fun x7=>
 Ext w1 w∧Q 2 (upd u1 7 x7) (zcx T 2 (w1.heap.size,w.heap.size)) w) w) ∧
 (∀ (u1:Env) (T:Nat→Nat×Nat) (w:World),Ext w0 w→zbf [0,2] w0.heap.size w.heap.size T→(Q 0 u1 T w∧Q 2 u1 T w∧True)→(fun w1=>oP (Builtin.append_ #[25,25] 25 [(u1 5),(u1 7)].toArray) w fun x8 w=>
 Ext w1 w∧Q 3 (upd u1 8 x8) (zcx T 3 (w1.heap.size,w.heap.size)) w) w) ∧
 (∀ (u1:Env) (T:Nat→Nat×Nat) (w:World),Ext w0 w→zbf [] w0.heap.size w.heap.size T→(True)→(fun w1=>oP (Instr.buildSlice 25 0 #[]) w fun x9 w=>
 Ext w1 w∧Q 4 (upd u1 9 x9) (zcx T 4 (w1.heap.size,w.heap.size)) w) w) ∧
 (∀ (u1:Env) (T:Nat→Nat×Nat) (w:World),Ext w0 w→zbf [] w0.heap.size w.heap.size T→(True)→(fun w1=>rF 31 x1 1 w fun x10=>
 Ext w1 w∧Q 5 (upd u1 10 x10) (zcx T 5 (w1.heap.size,w.heap.size)) w) w) ∧
 (∀ (u1:Env) (T:Nat→Nat×Nat) (w:World),Ext w0 w→zbf [5] w0.heap.size w.heap.size T→(Q 5 u1 T w∧True)→(fun w1=>rL 25 (u1 10) w fun x11=>
 Ext w1 w∧Q 6 (upd u1 11 x11) (zcx T 6 (w1.heap.size,w.heap.size)) w) w) ∧
 (∀ (u1:Env) (T:Nat→Nat×Nat) (w:World),Ext w0 w→zbf [4,6,3] w0.heap.size w.heap.size T→(Q 4 u1 T w∧Q 6 u1 T w∧Q 3 u1 T w∧True)→(fun w1=>oP (Builtin.append_ #[25,25] 25 [(u1 9),(u1 11)].toArray) w fun x12 w=>
 Ext w1 w∧Q 7 (upd u1 12 x12) (zcx T 7 (w1.heap.size,w.heap.size)) w) w) ∧
 (∀ (u1:Env) (T:Nat→Nat×Nat) (w:World),Ext w0 w→zbf [3,7] w0.heap.size w.heap.size T→(Q 3 u1 T w∧Q 7 u1 T w∧True)→(fun w1=>rD (Instr.build 31 #[(0,(u1 8)),(1,(u1 12))]) w fun x13=>
 Ext w1 w∧Q 8 (upd u1 13 x13) (zcx T 8 (w1.heap.size,w.heap.size)) w) w) ∧
 (∀ (u1:Env) (T:Nat→Nat×Nat) (w:World),Ext w0 w→zbf [] w0.heap.size w.heap.size T→(True)→(fun w1=>oP (Instr.alloc 31 true (.tuple #[])) w fun x3 w=>
 Ext w1 w∧Q 9 (upd u1 3 x3) (zcx T 9 (w1.heap.size,w.heap.size)) w) w) ∧
 True)
 (fun Q=>∀ (u1:Env) (T:Nat→Nat×Nat) (w:World),Ext w0 w→zbf [0,1,2,3,4,5,6,7,8,9] w0.heap.size w.heap.size T→(Q 0 u1 T w∧Q 1 u1 T w∧Q 2 u1 T w∧Q 3 u1 T w∧Q 4 u1 T w∧Q 5 u1 T w∧Q 6 u1 T w∧Q 7 u1 T w∧Q 8 u1 T w∧Q 9 u1 T w∧True) →
 oS 31 (u1 3) (u1 13) w fun w=>
 LOOPI [4] [(iV 0)] w fun u3 w next3=>
 rF 31 x1 2 w fun x15=>
 rL 29 x15 w fun x16=>
 rN 29 3 x16 w fun x17=>
 rC (u3 4) x17 w fun x18=>
 BR x18
 ((fun w=>rF 31 (u1 3) 2 w fun x21=>
 rL 29 x21 w fun x22=>
 rF 31 x1 2 w fun x24=>
 rL 29 x24 w fun x25=>
 rX 29 x25 (u3 4) w fun x27=>
 rL 25 x27 w fun x28=>
 (fun w_=>oP (Instr.buildSlice 25 0 #[]) w_ fun x23 w=>
 Ext w_ w ∧
 ((fun w_=>oP (Builtin.append_ #[25,25] 25 [x23,x28].toArray) w_ fun x29 w=>
 Ext w_ w ∧
 ((fun w_=>oP (Instr.buildSlice 29 1 #[(0,x29)]) w_ fun x30 w=>
 Ext w_ w ∧
 (oP (Builtin.append_ #[29,29] 29 [x22,x30].toArray) w fun x31 w=>
 rF 31 (u1 3) 2 w fun x32=>
 oS 29 x32 x31 w fun w=>
 rA (u3 4) (iV 1) w fun x20=>
 next3 [x20] w)) w)) w)) w) (World.drew1 w))
 (rL 31 (u1 3) w fun x33=>
 oS 31 x2 x33 w fun w=>
 rD (zar 31 x2) w fun r2=>R r2 w))) (World.drew1 w)
def cfg97:Cfg:=⟨extL,[],[(3,8589918224,[4])],[(5,[0,1,3,4,5,6,7,2,8,9,10,11,12],772)],[(1,16360,10)],[],[]⟩
theorem F97_call {a0:Value} {w:World} {R:VW} (h:F97 a0 w R):cL 97 [a0] w R:=co (g:=cfg97) Tryz.func97 (by kernel_rfl) (by kernel_rfl) (by kernel_rfl) h
theorem zs3:zb9 Tryz.prog 31=some [.slice none 0 0,.slice none 0 0,.slice none 0 0]:=by kernel_rfl
theorem zgv {lo hi:Nat} {w:World} {v:Value} {α:Type} [Rep α] {l:List α} (h:OwnI lo hi w v l):∃ a n c,v=.slice a n c:=by
 obtain ⟨a,cap,Fi,xs,hv,_⟩:=zcq h.is
 exact ⟨a,_,cap,hv⟩
theorem zef {P:Program} {w w0:World} {α:Type} [Rep α] [Flat α] {t ty e:TypeId} {by_:Nat} {a:Option Addr} {src:Value} {m:List α} {K:Value→World→Prop} (ht:P.underlying t=some (.slice e)) (he:tyI P e=some (Rep.size α,by_,Rep.agg α))
   (hzc:(P.info? e).map (fun i=>(i.zero.map (·.cells.size)))=some (some (Rep.size α))) (hs:Is w0 src m) (hx:Ext w0 w) (hm:m.length≤maxLen) (hb:m.length*by_≤140737488355328)
   (k:∀ v' w',Ext w w'→RowI w.heap.size w'.heap.size e w' v' m→K v' w'):OP P (Builtin.append_ #[t,t] ty [.slice a 0 0,src].toArray) w K:=
 zd8 (lo:=w.heap.size) (hi:=w.heap.size) (l:=([]:List α)) ht he hzc (zcg _ _ _ _ _) (Nat.le_refl _) hs hx (by simpa using hm) (by simpa using hb) fun v' w' hc hr=>k v' w' ((Ext.refl w).chgI hc (Nat.le_refl _)) (by simpa using hr)
def zul (s:DState):Prop:=s.vars.length≤1073741824∧s.owner.length≤1073741824∧s.stacks.length≤1073741824∧∀ x∈s.stacks,x.length≤1073741824
def cqQ (s:DState) (g1:Nat) (w0:World):ParQ:=fun i u T w=>match i with
 | 0=>∃ a,u 5=.slice (some a) 0 0
 | 1=>u 6=.pointer (some ⟨g1,0+0,none⟩)
 | 2=>Is w0 (u 7) s.vars
 | 3=>OwnI (T 3).1 (T 3).2 w (u 8) s.vars
 | 4=>∃ a,u 9=.slice (some a) 0 0
 | 5=>u 10=.pointer (some ⟨g1,0+1,none⟩)
 | 6=>Is w0 (u 11) s.owner
 | 7=>OwnI (T 7).1 (T 7).2 w (u 12) s.owner
 | 8=>u 13=.agg #[u 8,u 12,.slice none 0 0]
 | 9=>∃ g,u 3=.pointer (some ⟨g,0,none⟩)∧(T 9).1≤g∧g<(T 9).2∧Blk g 31 w [.slice none 0 0,.slice none 0 0,.slice none 0 0]
 | _=>True
theorem zof {w W:World} {v:Value} {s:DState} (h:Is W v s) (e:Ext W w) (hsz:zul s) :
   CALL Tryz.prog 97 [v] w fun r w'=>Ext w w'∧∃ z:DStV,OwnI w.heap.size w'.heap.size w' r z∧z.er=s:=by
 obtain ⟨hz1,hz2,hz3,hz4⟩:=hsz
 refine F97_call ?_
 unfold F97
 refine zcG h e fun w1 hx1 hA=>?_
 refine zaF zs3 fun w2 hx2 hB2=>?_
 have hg2:=hB2.lt
 have hs1:=hx1.size
 have hx3:=zaj w2
 have hs3:=hx3.size
 refine PAR.mk (cqQ s w.heap.size (World.drew1 w2)) ?_ ?_ ?_
 · intro i u u' T T' wa wb hxa hxb hd hq
   match i,hd,hq with
   | 0,hd,⟨a,hq⟩=>exact ⟨a,(hd (0,5) (by decide)).1.trans hq⟩
   | 1,hd,hq=>exact (hd (1,6) (by decide)).1.trans hq
   | 2,hd,hq=>have:=(hd (2,7) (by decide)).1;show Is _ (u' 7) _;simp only [this];exact hq
   | 3,hd,hq=>
     obtain ⟨e1,e2⟩:=hd (3,8) (by decide)
     simp only at e1 e2
     show OwnI (T' 3).1 (T' 3).2 wb (u' 8) s.vars
     rw [e1,e2];exact OwnI.ext hq hxb
   | 4,hd,⟨a,hq⟩=>exact ⟨a,(hd (4,9) (by decide)).1.trans hq⟩
   | 5,hd,hq=>exact (hd (5,10) (by decide)).1.trans hq
   | 6,hd,hq=>have:=(hd (6,11) (by decide)).1;show Is _ (u' 11) _;simp only [this];exact hq
   | 7,hd,hq=>
     obtain ⟨e1,e2⟩:=hd (7,12) (by decide)
     simp only at e1 e2
     show OwnI (T' 7).1 (T' 7).2 wb (u' 12) s.owner
     rw [e1,e2];exact OwnI.ext hq hxb
   | 8,hd,hq=>
     have e1:=(hd (8,13) (by decide)).1
     have e2:=(hd (3,8) (by decide)).1
     have e3:=(hd (7,12) (by decide)).1
     simp only at e1 e2 e3
     show u' 13=.agg #[u' 8,u' 12,.slice none 0 0]
     rw [e1,e2,e3];exact hq
   | 9,hd,⟨g,q1,q2,q3,q4⟩=>
     obtain ⟨e1,e2⟩:=hd (9,3) (by decide)
     simp only at e1 e2
     exact ⟨g,e1.trans q1,by rw [e2];exact q2,by rw [e2];exact q3,q4.ext hxb⟩
   | n+10,_,_=>trivial
 · refine ⟨fun u T w' hx _ _=>?_,fun u T w' hx _ _=>?_,fun u T w' hx _ hp=>?_,fun u T w' hx _ hp=>?_,fun u T w' hx _ _=>?_,fun u T w' hx _ _=>?_,fun u T w' hx _ hp=>?_,fun u T w' hx _ hp=>?_,fun u T w' hx _ hp=>?_,fun u T w' hx _ _=>?_,trivial⟩
   · exact zaK (α:=Int) u25 ty3 fun a w4 hx4 _=>⟨hx4,a,rfl⟩
   · exact zaa zgd ⟨Ext.refl _,rfl⟩
   · have q0:u 6=_:=hp.1
     rw [q0]
     exact zab zbk (zcf hA) (hx2.trans (hx3.trans hx)) fun v6 h6=>⟨Ext.refl _,(h6.ext (hx2.trans hx3))⟩
   · obtain ⟨a,q0⟩:∃ a,u 5=.slice (some a) 0 0:=hp.1
     have q1:Is _ (u 7) s.vars:=hp.2.1
     rw [q0]
     exact zef (α:=Int) u25 ty3 zc3 q1 hx (by rw [zam];omega) (by omega) fun v4 w4 hx4 r4=>⟨hx4,r4.own⟩
   · exact zaK (α:=Int) u25 ty3 fun a w4 hx4 _=>⟨hx4,a,rfl⟩
   · exact zaa zcA ⟨Ext.refl _,rfl⟩
   · have q0:u 10=_:=hp.1
     rw [q0]
     exact zab zbk (zbd hA) (hx2.trans (hx3.trans hx)) fun v6 h6=>⟨Ext.refl _,(h6.ext (hx2.trans hx3))⟩
   · obtain ⟨a,q0⟩:∃ a,u 9=.slice (some a) 0 0:=hp.1
     have q1:Is _ (u 11) s.owner:=hp.2.1
     rw [q0]
     exact zef (α:=Int) u25 ty3 zc3 q1 hx (by rw [zam];omega) (by omega) fun v4 w4 hx4 r4=>⟨hx4,r4.own⟩
   · have o1:OwnI _ _ _ (u 8) s.vars:=hp.1
     have o2:OwnI _ _ _ (u 12) s.owner:=hp.2.1
     obtain ⟨a,n,cap,q1⟩:=zgv o1
     obtain ⟨a',n',cap',q1'⟩:=zgv o2
     rw [q1,q1']
     refine zaH (cells:=#[.slice a n cap,.slice a' n' cap',.slice none 0 0]) (by kernel_rfl) ⟨Ext.refl _,?_⟩
     show _=Value.agg #[u 8,u 12,.slice none 0 0]
     rw [q1,q1'];rfl
   exact zaF zs3 fun w4 hx4 hB=>⟨hx4,w'.heap.size,rfl,Nat.le_refl _,hB.lt,hB⟩
 rintro u T w4 hx4 hap ⟨-,-,-,o8,-,-,-,o11,q12,⟨g,q3,hg0,hg1,hB3⟩,-⟩
 have q12:u 13=.agg #[u 8,u 12,.slice none 0 0]:=q12
 have o8:OwnI (T 3).1 (T 3).2 w4 (u 8) s.vars:=o8
 have o11:OwnI (T 7).1 (T 7).2 w4 (u 12) s.owner:=o11
 have t2:=hap.1 3 (by decide)
 have t5:=hap.1 7 (by decide)
 have t7:=hap.1 9 (by decide)
 have d25:=hap.2 3 (by decide) 7 (by decide) (by decide)
 have d27:=hap.2 3 (by decide) 9 (by decide) (by decide)
 have d57:=hap.2 7 (by decide) 9 (by decide) (by decide)
 generalize u 8=v8 at *
 generalize u 12=v11 at *
 have hs4:=hx4.size
 rw [q12,q3]
 refine zaw (x:=(⟨s.vars,s.owner,[]⟩:DState)) (lo:=0) (hi:=w4.heap.size) zbM rfl hB3 rfl
   (zfo (l2:=0) (h2:=0) o8 o11 (zct none) (by omega) (by omega) (by omega) (by omega) (by omega) (by omega)) fun w5 hc5 hB5=>?_
 have hs5:=hc5.size
 have hx15:Ext w1 w5:=Ext.chgI (hx2.trans (hx3.trans hx4)) hc5 (by omega)
 replace o8:=o8.chg hc5 (by omega)
 replace o11:=o11.chg hc5 (by omega)
 have hB25:=((hB2.ext hx3).ext hx4).chgI hc5 (by omega)
 refine zaE s.stacks.length (fun k us w'=>us=[.int .i64 (k:Int)]∧w5.heap.size≤w'.heap.size∧Ext w1 w'∧OwnI (T 3).1 (T 3).2 w' v8 s.vars∧OwnI (T 7).1 (T 7).2 w' v11 s.owner ∧
   (∃ v1 hi,∃ l:List RInts,hi≤w'.heap.size∧w5.heap.size≤hi∧l.map RV.l=s.stacks.take k∧Blk g 31 w' [v8,v11,v1]∧RowI w5.heap.size hi 25 w' v1 l)∧Blk w1.heap.size 31 w' [.slice none 0 0,.slice none 0 0,.slice none 0 0]) 0 (Nat.zero_le _)
   ⟨rfl,Nat.le_refl _,hx15,o8,o11,⟨.slice none 0 0,w5.heap.size,[],Nat.le_refl _,Nat.le_refl _,by simp,hB5,zdo _ _ _ _⟩,hB25⟩ ?_
 rintro k m uu w7 hkm ⟨hu,hs7,hx7,o8,o11,⟨v1,hi,l,hhi,hhi2,hl,hB7,r7⟩,hB27⟩
 simp only [List.map_cons,List.map_nil,List.cons.injEq,and_true] at hu
 rw [hu]
 have hll:l.length=k:=by have:=congrArg List.length hl;simp at this;omega
 refine zaa zaT ?_
 refine zab zdJ (zau hA) hx7 fun v16 h16=>?_
 refine zae u29 h16 ?_
 refine zai ?_
 refine br (fun hlt=>?_) (fun hge=>?_)
 · have hk:k<s.stacks.length:=by omega
   have hx8:=zaj w7
   have hs8:=hx8.size
   refine zaa zaT ?_
   refine zaA zdJ (hB7.ext hx8) rfl ?_
   refine zaa zaT ?_
   refine zab zdJ (zau hA) (hx7.trans hx8) fun v14 h14=>?_
   refine zad u29 zbk h14 hk fun b o hA2=>?_
   refine zab zbk hA2 (hx7.trans hx8) fun v19 h19=>?_
   have hlk:=hz4 _ (List.getElem_mem hk)
   refine zaK (α:=Int) u25 ty3 fun a23 w8' hx8' _=>?_
   refine ⟨hx8',?_⟩
   have hs8':=hx8'.size
   refine zef (α:=Int) u25 ty3 zc3 h19 (hx7.trans (hx8.trans hx8')) (by rw [zam];omega) (by omega) fun r23 w9 hx9' r9'=>?_
   have hs9':=hx9'.size
   refine ⟨hx9',?_⟩
   have hx9:=hx8'.trans hx9'
   have hs9:=hx9.size
   have r9:=r9'.mono hs8' (Nat.le_refl _)
   refine zjR (α:=RInts) u29 zbk z25 ztR (by decide) ((r7.ext hx8).ext hx9) (by omega) (zml r9) (by omega) (by omega) (by rw [zam];omega) (by omega) fun v25 w10 hc10 r10=>?_
   have hs10:=hc10.size
   have hx79:=hx8.trans hx9
   refine zaa zaT ?_
   refine za6 (α:=List RInts) zdJ rfl rfl ((hB7.ext hx79).chgI hc10 (by omega)) (by simp) r10.own fun w11 hc11 hB11=>?_
   have hs11:=hc11.size
   refine zah (by omega) ?_
   refine ⟨m-1,by omega,k+1,by omega,rfl,by omega,Ext.chgI (Ext.chgI (hx7.trans hx79) hc10 (by omega)) hc11 (by omega),((o8.ext hx79).chg hc10 (by omega)).chg hc11 (by omega),((o11.ext hx79).chg hc10 (by omega)).chg hc11 (by omega),⟨v25,w10.heap.size,_,by omega,by omega,?_,hB11,r10.chg hc11 (by omega)⟩,((hB27.ext hx79).chgI hc10 (by omega)).chgI hc11 (by omega)⟩
   rw [List.map_append,hl,List.take_succ_eq_append_getElem hk];rfl
 have hk:k=s.stacks.length:=by omega
 refine zbP hB7 zbM ?_
 have ost:OwnI w2.heap.size w7.heap.size w7 (.agg #[v8,v11,v1]) (⟨s.vars,s.owner,⟨v1,l⟩⟩:DStV):=
   zqX (s:=⟨s.vars,s.owner,⟨v1,l⟩⟩) o8 o11 (zml r7) (by omega) (by omega) (by omega) (by omega) (by omega) (by omega)
 refine zaw zbM rfl hB27 rfl ost fun w13 hc13 hB13=>?_
 have hs13:=hc13.size
 refine zbx hB13 zbM ?_
 refine ⟨Ext.chgI (hx1.trans hx7) hc13 (by omega),_,(ost.chg hc13 (by omega)).mono (by omega) (by omega),?_⟩
 show (⟨s.vars,s.owner,l.map RV.l⟩:DState)=s
 rw [hl,hk,List.take_length]
def F204 (a0:Value) (w:World) (R:VW):Prop:=
 rN 40 3 a0 w fun x7=>
 rB .lss 3 T0 U0 x7 (iV 2) w fun x8=>
 BR x8
 (R a0 w)
 (LOOPI [3] [(iV 1)] w fun u4 w next4=>
 rN 40 3 a0 w fun x12=>
 rC (u4 3) x12 w fun x13=>
 BR x13
 ((fun w=>rX 40 a0 (u4 3) w fun x18=>
 rL 43 x18 w fun x19=>
 rB .sub 3 T0 U0 (u4 3) (iV 1) w fun x22=>
 rX 40 a0 x22 w fun x23=>
 rL 43 x23 w fun x24=>
 rB .eql 43 T0 T0 x19 x24 w fun x25=>
 BR x25
 (rD (Instr.sliceAt 40 a0 (some (u4 3)) none none) w fun x28=>
 LOOPI [3,5] [(u4 3),(iV 1)] w fun u9 w next9=>
 rN 40 3 x28 w fun x31=>
 rC (u9 5) x31 w fun x32=>
 BR x32
 ((fun w=>rX 40 x28 (u9 5) w fun x37=>
 rL 43 x37 w fun x38=>
 rB .sub 3 T0 U0 (u9 5) (iV 1) w fun x41=>
 rX 40 x28 x41 w fun x42=>
 rL 43 x42 w fun x43=>
 rB .neq 43 T0 T0 x38 x43 w fun x44=>
 BR x44
 (rX 40 x28 (u9 5) w fun x49=>
 rL 43 x49 w fun x50=>
 rX 40 a0 (u9 3) w fun x51=>
 oS 43 x51 x50 w fun w=>
 rA (u9 3) (iV 1) w fun x53=>
 rA (u9 5) (iV 1) w fun x34=>
 next9 [x53,x34] w)
 (rA (u9 5) (iV 1) w fun x34=>
 next9 [(u9 3),x34] w)) (World.drew1 w))
 (rD (Instr.sliceAt 40 a0 (some (u9 3)) none none) w fun x56=>
 oP (Builtin.clear_ #[40] 0 [x56].toArray) w fun _ w=>
 rD (Instr.sliceAt 40 a0 none (some (u9 3)) none) w fun x59=>
 R x59 w))
 (rA (u4 3) (iV 1) w fun x15=>
 next4 [x15] w)) (World.drew1 w))
 (R a0 w))
def cfg204:Cfg:=⟨extL,[],[(4,1152921504606846012,[3]),(9,18014397972611112,[3,5])],[(6,[0,1,2,3,4,5,6,7,8,9],0),(11,[0,1,2,3,4,5,6,7,8,9],0)],[],[],[]⟩
theorem F204_call {a0:Value} {w:World} {R:VW} (h:F204 a0 w R):cL 204 [a0] w R:=co (g:=cfg204) Tryz.func204 (by kernel_rfl) (by kernel_rfl) (by kernel_rfl) h
def F200 (a0:Value) (w:World) (R:VW):Prop:=
 rB .eql 40 T0 U0 a0 (Value.slice none 0 0) w fun x4=>
 BR x4
 (R (Value.slice none 0 0) w)
 (oP (Instr.buildSlice 40 0 #[]) w fun x5 w=>
 oP (Builtin.append_ #[40,40] 40 [x5,a0].toArray) w fun x7 w=>
 R x7 w)
def cfg200:Cfg:=⟨extL,[],[],[],[],[],[]⟩
theorem F200_call {a0:Value} {w:World} {R:VW} (h:F200 a0 w R):cL 200 [a0] w R:=co (g:=cfg200) Tryz.func200 (by kernel_rfl) (by kernel_rfl) (by kernel_rfl) h
def F203 (a0:Value) (w:World) (R:VW):Prop:=
 rN 40 3 a0 w fun x5=>
 rN 40 3 a0 w fun x7=>
 rD (Instr.sliceAt 40 a0 none (some x5) (some x7)) w fun x8=>
 R x8 w
def cfg203:Cfg:=⟨extL,[],[],[],[],[],[]⟩
theorem F203_call {a0:Value} {w:World} {R:VW} (h:F203 a0 w R):cL 203 [a0] w R:=co (g:=cfg203) Tryz.func203 (by kernel_rfl) (by kernel_rfl) (by kernel_rfl) h
theorem zkf {P:Program} {w:World} {t e:TypeId} {b a n cap sz by_ k:Nat} {ag:Bool} {u:Value} {K:Value→Prop} (ht:P.underlying t=some (.slice e)) (he:tyI P e=some (sz,by_,ag)) (hu:u=.slice (some ⟨b,a,none⟩) n cap) (hk:k<n) (kk:K (.pointer (some ⟨b,a+k*sz,none⟩))) :
   RD P (Instr.indexAt t u (.int .i64 (k:Int))) w K:=by
 subst hu
 exact zaV (fun w' _=>by rw [zbg ht he (by omega) (by omega)];simp) kk
instance:Flat DRace:=⟨fun h=>by obtain ⟨F1,F2,c1,c2,rfl,rfl,⟨rfl,_⟩,⟨F3,F4,c3,c4,rfl,rfl,⟨rfl,_⟩,⟨rfl,_⟩⟩⟩:=h;rfl⟩
section
variable {α:Type} [DecidableEq α]
def ddg (x:α):List α→List α
 | []=>[]
 | y :: l=>if y=x then ddg x l else y :: ddg y l
def ddp:List α→List α
 | []=>[]
 | x :: l=>x :: ddg x l
theorem zkg (y:α):∀ (l:List α) (x:α),ddg x (l++[y])=if y=l.getLastD x then ddg x l else ddg x l++[y]
 | [],x=>rfl
 | a :: l,x=>by
   rw [List.cons_append,ddg,ddg,List.getLastD_cons]
   by_cases h:a=x
   · rw [if_pos h,if_pos h,zkg y l x,h]
   rw [if_neg h,if_neg h,zkg y l a]
   split<;>rfl
theorem zkh {l:List α} {k:Nat} (h0:0<k) (hk:k<l.length):ddp (l.take (k+1))=if l[k]=l[k-1] then ddp (l.take k) else ddp (l.take k)++[l[k]]:=by
 rw [List.take_succ_eq_append_getElem hk]
 cases l with
 | nil=>simp at hk
 | cons x l=>
   obtain ⟨j,rfl⟩:∃ j,k=j+1:=⟨k-1,by omega⟩
   have hj:j<l.length:=by simpa using hk
   have e:(l.take j).getLastD x=(x :: l)[j+1-1]:=by
     rw [List.getLastD_eq_getLast?,List.getLast?_eq_getElem?,List.length_take,Nat.min_eq_left (by omega)]
     cases j with
     | zero=>simp
     | succ j=>simp [List.getElem?_take];rw [List.getElem?_eq_getElem (by omega)];rfl
   rw [List.take_succ_cons,List.cons_append,ddp,ddp,zkg,e]
   split<;>rfl
end
theorem zog {w:World} {lo hi:Nat} {v:Value} {l:List DRace} (h:OwnI lo hi w v l) (hn:l.length≤1073741824) :
   CALL Tryz.prog 204 [v] w fun r w'=>ChgI lo hi w w'∧OwnI lo hi w' r (ddp l):=by
 obtain ⟨F,hM,hF⟩:=h
 refine F204_call ?_
 unfold F204
 refine zae u40 hM.is ?_
 refine zai ?_
 refine br (fun hlt=>?_) (fun hge=>?_)
 · refine ⟨ChgI.refl w,F,?_,hF⟩
   have:ddp l=l:=by
     match l,hlt with
     | [],_=>rfl
     | [x],_=>rfl
     | _ :: _ :: _,h=>simp only [List.length_cons] at h;omega
   rw [this];exact hM
 have hne:l≠[]:=fun e=>by rw [e] at hge;simp at hge
 obtain ⟨b,o,cap,xs,rfl,rfl,h1,h2,hcc,hrr,hww⟩:=zc5 hM hne
 have hln:=hM.is
 refine zaE l.length (fun k us w'=>us=[.int .i64 (k:Int)]∧Ext w w'∧1≤k∧k≤l.length∧ddp (l.take k)=l.take k) 1 (by omega) ⟨rfl,Ext.refl w,Nat.le_refl _,by omega,?_⟩ ?_
 · cases l with
   | nil=>exact absurd rfl hne
   | cons x l=>rfl
 rintro k0 mk u w1 hkm ⟨hu,hx1,hk1,hkl,hd0⟩
 simp only [List.map_cons,List.map_nil,List.cons.injEq,and_true] at hu
 rw [hu]
 refine zae u40 hln ?_
 refine zai ?_
 refine br (fun hlt=>?_) (fun hge1=>?_)
 case refine_2=>
   have:k0=l.length:=by omega
   subst this
   rw [List.take_length] at hd0
   rw [hd0]
   exact ⟨hx1.toI,[b],hM.ext hx1,hF⟩
 have hk:k0<l.length:=by omega
 have hx2:=zaj w1
 have hx12:=hx1.trans hx2
 generalize World.drew1 w1=w2 at *
 refine zad u40 zdd hln hk fun b1 o1 hA1=>?_
 refine zab zdd hA1 hx12 fun v19 h19=>?_
 refine za2 (by unfold I64;omega) ?_
 rw [show ((k0:Int)-1)=((k0-1:Nat):Int) by omega]
 refine zad (i:=k0-1) u40 zdd hln (by omega) fun b2 o2 hA2=>?_
 refine zab zdd hA2 hx12 fun v24 h24=>?_
 refine ziA h19 h24 ?_
 refine br (fun heq=>?_) (fun hneq=>?_)
 case refine_2=>
   refine zah (by omega) ?_
   refine ⟨mk-1,by omega,k0+1,by omega,rfl,hx12,by omega,by omega,?_⟩
   rw [zkh (by omega) hk,if_neg hneq,hd0,←List.take_succ_eq_append_getElem hk]
 refine znv (α:=DRace) u40 zdd (by omega) h1 ?_
 rw [if_neg (by omega)]
 have e3:Rep.size DRace=3:=rfl
 rw [e3]
 refine zaE (l.length-k0) (fun k2 us w'=>∃ (k:Nat) (cur:List DRace),us=[.int .i64 (k:Int),.int .i64 (k2:Int)]∧Chg [b] w w'∧Mine [b] w' (.slice (some ⟨b,o,none⟩) l.length cap) cur∧cur.length=l.length∧1≤k2∧k2≤l.length-k0∧k0≤k∧k+1≤k0+k2 ∧
     cur.take k=ddp (l.take (k0+k2))∧∀ j,k≤j→cur[j]?=l[j]?) 1 (by omega)
   ⟨k0,l,rfl,hx12.chg _,hM.ext hx12,rfl,Nat.le_refl _,by omega,Nat.le_refl _,by omega,by rw [zkh (by omega) hk,if_pos heq,hd0],fun _ _=>rfl⟩ ?_
 rintro k2 mk2 u9 w3 hkm2 ⟨k,cur,hu9,hc3,hm3,hl3,hk21,hk22,hk0,hkk,htk,hrest⟩
 obtain ⟨hu91,hu92⟩:=zfZ hu9
 rw [hu91,hu92]
 refine zaV (v:=.int .i64 ((l.length-k0:Nat):Int)) (fun w' _=>by simp [Builtin.len_,run_underlying u40];rfl) ?_
 refine zai ?_
 refine br (fun hlt2=>?_) (fun hge2=>?_)
 · have hp:k0+k2<l.length:=by omega
   have hx4:=zaj w3
   have hm4:=hm3.ext hx4
   have hc4:=hc3.trans (hx4.chg _)
   generalize World.drew1 w3=w4 at *
   have hcne:cur≠[]:=fun e=>by rw [e] at hl3;simp at hl3;omega
   obtain ⟨b',o',cap',xs',hv',hb',_,_,hcc',hrr',hww'⟩:=zc5 hm4 hcne
   simp only [Value.slice.injEq,Option.some.injEq,Addr.mk.injEq] at hv'
   obtain ⟨⟨rfl,rfl,_⟩,_,rfl⟩:=hv'
   have hat:∀ i (hi:i<cur.length),At w4 b (o+i*3) cur[i]:=fun i hi=>hcc'.at hrr' hi
   have hget:∀ i (hi:i<l.length) (hki:k≤i),cur[i]'(by omega)=l[i]:=fun i hi hki=>by
     have:=hrest i hki
     rw [List.getElem?_eq_getElem (by omega),List.getElem?_eq_getElem hi] at this
     exact Option.some.inj this
   have hA3:=hat (k0+k2) (by omega)
   have hA4:=hat (k0+k2-1) (by omega)
   rw [hget _ hp (by omega)] at hA3
   rw [hget _ (by omega) (by omega)] at hA4
   refine zkf (k:=k2) u40 zdd rfl (by omega) ?_
   rw [show o+k0*3+k2*3=o+(k0+k2)*3 by omega]
   refine zab zdd hA3 (Ext.refl _) fun v38 h38=>?_
   refine za2 (by unfold I64;omega) ?_
   rw [show ((k2:Int)-1)=((k2-1:Nat):Int) by omega]
   refine zkf (k:=k2-1) u40 zdd rfl (by omega) ?_
   rw [show o+k0*3+(k2-1)*3=o+(k0+k2-1)*3 by omega]
   refine zab zdd hA4 (Ext.refl _) fun v43 h43=>?_
   refine ziB h38 h43 ?_
   have hdt:=zkh (l:=l) (k:=k0+k2) (by omega) hp
   refine br (fun hne2=>?_) (fun heq2=>?_)
   · refine zkf (k:=k2) u40 zdd rfl (by omega) ?_
     rw [show o+k0*3+k2*3=o+(k0+k2)*3 by omega]
     refine zab zdd hA3 (Ext.refl _) fun v50 h50=>?_
     obtain ⟨F5,cs5,hr5,hv5⟩:=h50
     have hF5:=Flat.flat hr5
     subst hF5
     refine zqv (α:=DRace) u40 zdd hm4 (k:=k) (by omega) ⟨cs5,hr5,hv5⟩ fun w5 hc5 hm5=>?_
     refine zah (by omega) ?_
     refine zah (by omega) ?_
     refine ⟨mk2-1,by omega,k2+1,by omega,k+1,_,rfl,hc4.trans hc5,hm5,by simp [hl3],by omega,by omega,by omega,by omega,?_,fun j hj=>?_⟩
     · rw [show k0+(k2+1)=k0+k2+1 by omega,hdt,if_neg hne2,←htk]
       rw [List.take_succ_eq_append_getElem (by simp;omega),List.getElem_set_self,List.take_set_of_le (Nat.le_refl _)]
     rw [List.getElem?_set_ne (by omega)]
     exact hrest j (by omega)
   have heq2:=Decidable.not_not.1 heq2
   refine zah (by omega) ?_
   refine ⟨mk2-1,by omega,k2+1,by omega,k,cur,rfl,hc4,hm4,hl3,by omega,by omega,hk0,by omega,?_,hrest⟩
   rw [show k0+(k2+1)=k0+k2+1 by omega,hdt,if_pos heq2,htk]
 have hk2:k0+k2=l.length:=by omega
 rw [hk2,List.take_length] at htk
 refine znv (α:=DRace) u40 zdd (by omega) h1 ?_
 refine zpM (α:=DRace) u40 ztS hm3 hl3 (by omega) (by omega) h1 fun w5 hc5 hm5=>?_
 refine zpL (α:=DRace) u40 zdd (by omega) h1 ?_
 rw [htk] at hm5
 exact ⟨(hc3.trans hc5).toI hF,[b],hm5,hF⟩
theorem zpN {w W:World} {v:Value} {l:List DRace} (h:Is W v l) (e:Ext W w) (hn:l.length≤1073741824) :
   CALL Tryz.prog 200 [v] w fun r w'=>Ext w w'∧Own w.heap.size w' r l:=by
 refine F200_call ?_
 unfold F200
 obtain ⟨a,cap,Fi,xs,rfl,h1,h2,h3,h4⟩:=zcq h
 refine zkL u40 ?_
 refine zcM (fun hnil=>?_) (fun _=>?_)
 · have:l=[]:=by
     rcases h4 with h4 | ⟨b,o,rfl,_⟩
     · exact h4
     simp at hnil
   subst this
   exact ⟨Ext.refl w,zfD rfl⟩
 refine zaK (α:=DRace) u40 zdd fun a5 w1 hx1 r5=>?_
 have hs1:=hx1.size
 refine zd8 (α:=DRace) u40 zdd ztf r5 (Nat.le_refl _) h (e.trans hx1) (by rw [zam];simp;omega) (by simp;omega) fun v7 w2 hc2 r7=>?_
 rw [List.nil_append] at r7
 exact ⟨Ext.chgI hx1 hc2 (by omega),r7.own.own.mono (by omega)⟩
theorem zqY {w:World} {lo hi:Nat} {v:Value} {l:List DRace} (h:OwnI lo hi w v l) :
   CALL Tryz.prog 203 [v] w fun r w'=>Ext w w'∧OwnI lo hi w' r l:=by
 obtain ⟨F,hM,hF⟩:=h
 refine F203_call ?_
 unfold F203
 refine zae u40 hM.is ?_
 refine zae u40 hM.is ?_
 by_cases hne:l=[]
 · subst hne
   obtain ⟨a,cap,Fi,xs,rfl,h1,h2,h3,h4⟩:=zcq hM.is
   refine znw (α:=DRace) (k:=0) (j:=0) u40 zdd (Nat.le_refl _) h1 fun a' _=>⟨Ext.refl w,zct a'⟩
 obtain ⟨b,o,cap,xs,rfl,rfl,h1,h2,hc,hr,hw⟩:=zc5 hM hne
 refine znw (α:=DRace) (k:=l.length) (j:=l.length) u40 zdd (Nat.le_refl _) h1 fun a' ha=>?_
 rw [ha (fun e=>hne (List.eq_nil_of_length_eq_zero e))]
 exact ⟨Ext.refl w,[b],zeE (Nat.le_refl _) (by omega) hc hr hw,hF⟩
end Go.Proofs.YtdmailcgaekimaaGreat
namespace Go.Sh
open Rep (rep)
instance:RepZ Raw:=⟨⟨.slice none 0 0⟩,[.slice none 0 0],fun _=>⟨rfl,rfl,rfl⟩⟩
abbrev RIns:=RV DIns 117
structure DEm where
 a:Raw
 b:Raw
 c:Raw
 ins:RIns
theorem DEm.ext_iff {x y:DEm}:x=y↔(x.a=y.a∧x.b=y.b∧x.c=y.c∧x.ins=y.ins):=⟨fun h=>by rw [h];exact ⟨rfl,rfl,rfl,rfl⟩,fun h=>by obtain ⟨h0,h1,h2,h3⟩:=h;cases x;cases y;simp only at h0 h1 h2 h3;simp only [h0,h1,h2,h3]⟩
instance:Rep DEm:=Rep.via fun x=>(x.a,x.b,x.c,x.ins)
theorem zki {w:World} {b o:Nat} {x:DEm} (h:At w b o x):At w b (o+3) x.ins:=zaP (α:=Raw) (β:=RIns) (p:=(x.c,x.ins)) (zaP (α:=Raw) (β:=Raw×RIns) (p:=(x.b,x.c,x.ins)) (zaP (α:=Raw) (β:=Raw×Raw×RIns) (p:=(x.a,x.b,x.c,x.ins)) h))
instance:RepZ DEm:=⟨⟨(RepZ.zv:Raw),(RepZ.zv:Raw),(RepZ.zv:Raw),(RepZ.zv:RIns)⟩,RepZ.zc (Raw×Raw×Raw×RIns),fun w=>RepZ.zr (α:=Raw×Raw×Raw×RIns) w⟩
theorem zoh {γ:Type} {H:List Nat→World→γ→Prop} {F:List Nat} {w:World} {b o:Nat} {G:List Nat} {x:DEm} {upd:DEm→γ} (h:Lens H F w b o G x upd) :
   ∃ G1,Lens H F w b (o+0) G1 x.a (fun y=>upd ⟨y,x.b,x.c,x.ins⟩):=by
 have h':Lens H F w b o G (x.a,x.b,x.c,x.ins) (fun p:Raw×Raw×Raw×RIns=>upd ⟨p.1,p.2.1,p.2.2.1,p.2.2.2⟩):=⟨h.here,h.sub,fun w' G' y' hc hO hs=>h.back w' G' _ hc hO hs⟩
 obtain ⟨G0,h'⟩:=h'.fst
 exact ⟨_,h'⟩
theorem zoi {γ:Type} {H:List Nat→World→γ→Prop} {F:List Nat} {w:World} {b o:Nat} {G:List Nat} {x:DEm} {upd:DEm→γ} (h:Lens H F w b o G x upd) :
   ∃ G1,Lens H F w b (o+1) G1 x.b (fun y=>upd ⟨x.a,y,x.c,x.ins⟩):=by
 have h':Lens H F w b o G (x.a,x.b,x.c,x.ins) (fun p:Raw×Raw×Raw×RIns=>upd ⟨p.1,p.2.1,p.2.2.1,p.2.2.2⟩):=⟨h.here,h.sub,fun w' G' y' hc hO hs=>h.back w' G' _ hc hO hs⟩
 obtain ⟨G0,h'⟩:=h'.snd
 obtain ⟨G1,h'⟩:=h'.fst
 exact ⟨_,h'⟩
theorem zg8 {γ:Type} {H:List Nat→World→γ→Prop} {F:List Nat} {w:World} {b o:Nat} {G:List Nat} {x:DEm} {upd:DEm→γ} (h:Lens H F w b o G x upd) :
   ∃ G1,Lens H F w b (o+3) G1 x.ins (fun y=>upd ⟨x.a,x.b,x.c,y⟩):=by
 have h':Lens H F w b o G (x.a,x.b,x.c,x.ins) (fun p:Raw×Raw×Raw×RIns=>upd ⟨p.1,p.2.1,p.2.2.1,p.2.2.2⟩):=⟨h.here,h.sub,fun w' G' y' hc hO hs=>h.back w' G' _ hc hO hs⟩
 obtain ⟨G0,h'⟩:=h'.snd
 obtain ⟨G1,h'⟩:=h'.snd
 obtain ⟨G2,h'⟩:=h'.snd
 exact ⟨_,h'⟩
section
variable {P:Program} {w w':World} {lo hi:Nat}
theorem zgw {op arg to:Int} {t0 t1 t2 t3:Value} {t:DTerm} (h0:I64 op) (h1:I64 arg) (h2:I64 to) (ht:OwnI lo hi w (.agg #[t0,t1,t2,t3]) t):OwnI lo hi w (.agg #[.int .i64 op,.int .i64 arg,t0,t1,t2,t3,.int .i64 to]) (⟨op,arg,t,to⟩:DIns):=by
 obtain ⟨F,⟨⟨cs,hr,hv⟩,hnd,hw⟩,hF⟩:=ht
 have hcs:cs=[t0,t1,t2,t3]:=by
   simp only [mkv,Rep.agg,cond_true,Value.agg.injEq] at hv
   have:=congrArg Array.toList hv
   simpa using this.symm
 subst hcs
 refine ⟨F,⟨⟨[.int .i64 op,.int .i64 arg,t0,t1,t2,t3,.int .i64 to],?_,rfl⟩,hnd,hw⟩,hF⟩
 have:=zaC (F:=[]) (c1:=[.int .i64 op]) (show rep [] w [.int .i64 op] op from ⟨rfl,rfl,h0⟩) (zaC (F:=[]) (c1:=[.int .i64 arg]) (show rep [] w [.int .i64 arg] arg from ⟨rfl,rfl,h1⟩) (zaC hr (show rep [] w [.int .i64 to] to from ⟨rfl,rfl,h2⟩)))
 simp only [List.nil_append,List.append_nil] at this
 exact this
theorem zss {X:Nat→Prop} {t g:Nat} {v:Value} {K:Value→Prop} (h:Var P t w g v) (hX:¬X g) (k:K v):RDX P X (Instr.loadAt t (.pointer (some ⟨g,0,none⟩))) w K:=by
 refine ⟨v,fun w' hx=>?_,k⟩
 obtain ⟨u,h1,h2⟩:=zan (P:=P) (K:=fun u=>u=v) (h.keep (hx.block g h.lt hX)) (Ext.refl w') rfl
 subst h2
 exact h1 w' (Ext.refl w')
theorem zmA {α β:Type} [Rep α] [Rep β] {e b o g:Nat} {F G:List Nat} {t by_:Nat} {x:RV β e} {upd:RV β e→α} {w2:World} {v':Value} {l':List β} {G':List Nat} {K:World→Prop} (ht:tyI P t=some (1,by_,false)) (hL:Lens (VH g) (g :: F) w b o G x upd) (hlt:∀ c∈g :: F,c<w.heap.size) (hc:Chg G w w2)
   (hR:RowG G' e w2 v' l') (hN:G'.Nodup) (hs:∀ c∈G',c∈G∨c∉g :: F)
   (k:∀ w3,Chg (b :: G) w w3→(∃ F',OAt F' w3 g 0 (upd ⟨v',l'⟩)∧∀ c∈F',c∈g :: F∨c∈G')→K w3):OPU P (Instr.storeAt t (.pointer (some ⟨b,o,none⟩)) v') w2 K:=by
 obtain ⟨cs,⟨rfl,hrow⟩,hr,hn,hw,hb,hwb⟩:=hL.here
 have hbl:b<w.heap.size:=hlt b (hL.sub b (by simp))
 have hbk:w2.heap[b]?=w.heap[b]?:=hc.block b hbl hb
 have hwb2:∃ c e,w2.heap[b]?=some (.cells c e (0,0)):=by obtain ⟨c,e,h⟩:=hwb;exact ⟨c,e,by rw [hbk];exact h⟩
 have hbG':b∉G':=fun hm=>by
   rcases hs b hm with h | h
   · exact hb h
   exact h (hL.sub b (by simp))
 refine zj9 ht hwb2 (zaY hr hbk) hrow.one hR.one fun w3 hc3 hr3=>?_
 have hcat:ChgAt b o 1 G w w3:=by
   refine ⟨(hc.mono (by simp +contextual)).trans (hc3.chg.mono (by simp +contextual)),fun c e hcc=>?_⟩
   obtain ⟨c',h1,h2⟩:=hc3.cell c e (by rw [hbk];exact hcc)
   exact ⟨c',h1,h2⟩
 have hkeep:∀ c∈G',w3.heap[c]?=w2.heap[c]?:=fun c hcm=>hc3.chg.block c (hR.lt c hcm) (by simp;exact fun e=>hbG' (e▸hcm))
 obtain ⟨c',e',hc'⟩:=hwb2
 obtain ⟨c'',hc'',_⟩:=hc3.cell c' e' hc'
 obtain ⟨F',h1,h2⟩:=hL.back w3 G' ⟨v',l'⟩ hcat ⟨[v'],⟨rfl,hR.keep hkeep⟩,hr3,hN,(hR.keep hkeep).wr,hbG',c'',e',hc''⟩ hs
 exact k w3 hcat.chg ⟨F',h1,h2⟩
end
end Go.Sh
namespace Go.Proofs.YtdmailcgaekimaaGreat
open Go Go.Sh Go.Proofs
open Rep (rep)
def F114 (a0 a1:Value) (w:World) (R:VW):Prop:=
 oP (Instr.box 117 a1) w fun x3 w=>
 (fun w=>XR fun X=>NIL a0 <|
 RDX tp X (Instr.fieldAt 137 a0 1) w fun x8=>
 RDX tp X (Instr.loadAt 26 x8) w fun x9=>
 RDX tp X (Instr.loadAt 117 x3) w fun x10=>
 (fun w_=>oP (Instr.buildSlice 26 1 #[(0,x10)]) w_ fun x11 w=>
 ExtX X w_ w ∧
 ((fun w_=>oP (Builtin.append_ #[26,26] 26 [x9,x11].toArray) w_ fun x12 w=>
 ExtX X w_ w ∧
 (NIL a0 <|
 RDX tp X (Instr.fieldAt 137 a0 1) w fun x14=>
 oS 26 x14 x12 w fun w=>
 NIL a0 <|
 rF 137 a0 1 w fun x17=>
 rL 26 x17 w fun x18=>
 rN 26 3 x18 w fun x19=>
 rB .sub 3 T0 U0 x19 (iV 1) w fun x20=>
 R x20 w)) w)) w) (World.drew1 w)
def cfg114:Cfg:={ ext:=extL,joins:=[],loops:=[],draws:=[(1,[0,1,2,3,4,5,6,7,8,9,10],192)],pars:=[],xs:=[1] }
theorem F114_call {a0 a1:Value} {w:World} {R:VW} (h:F114 a0 a1 w R):cL 114 [a0,a1] w R:=co (g:=cfg114) Tryz.func114 (by kernel_rfl) (by kernel_rfl) (by kernel_rfl) h
section
variable {w:World} {lo hi:Nat} {K:Value→Prop}
theorem zmB {a b:Int} {u:Value} {t:DTerm} (ha:I64 a) (hb:I64 b) (hu:OwnI lo hi w u t) (k:∀ v,OwnI lo hi w v (⟨a,b,t,0⟩:DIns)→K v):RD Tryz.prog (Instr.build 117 #[(0,.int .i64 a),(1,.int .i64 b),(2,u)]) w K:=by
 obtain ⟨p,q,rfl⟩:=zfm hu.is
 exact zaH (cells:=#[.int .i64 a,.int .i64 b,.int .i64 t.kind,.int .i64 t.num,.string t.name,.slice p t.kids.length q,.int .i64 0]) (by kernel_rfl) (k _ (zgw ha hb zgn hu))
theorem zjp {a:Int} {u:Value} {t:DTerm} (ha:I64 a) (hu:OwnI lo hi w u t) (k:∀ v,OwnI lo hi w v (⟨a,0,t,0⟩:DIns)→K v):RD Tryz.prog (Instr.build 117 #[(0,.int .i64 a),(2,u)]) w K:=by
 obtain ⟨p,q,rfl⟩:=zfm hu.is
 exact zaH (cells:=#[.int .i64 a,.int .i64 0,.int .i64 t.kind,.int .i64 t.num,.string t.name,.slice p t.kids.length q,.int .i64 0]) (by kernel_rfl) (k _ (zgw ha zgn zgn hu))
theorem zft {a b:Int} (ha:I64 a) (hb:I64 b) (k:∀ v,OwnI lo hi w v (⟨a,b,term0,0⟩:DIns)→K v):RD Tryz.prog (Instr.build 117 #[(0,.int .i64 a),(1,.int .i64 b)]) w K:=
 zaH (cells:=#[.int .i64 a,.int .i64 b,.int .i64 0,.int .i64 0,.string nO,.slice none 0 0,.int .i64 0]) (by kernel_rfl) (k _ (zgw ha hb zgn zdt))
theorem zoj {a b:Int} (ha:I64 a) (hb:I64 b) (k:∀ v,OwnI lo hi w v (⟨a,0,term0,b⟩:DIns)→K v):RD Tryz.prog (Instr.build 117 #[(0,.int .i64 a),(3,.int .i64 b)]) w K:=
 zaH (cells:=#[.int .i64 a,.int .i64 0,.int .i64 0,.int .i64 0,.string nO,.slice none 0 0,.int .i64 b]) (by kernel_rfl) (k _ (zgw ha zgn hb zdt))
theorem ziC {a:Int} (ha:I64 a) (k:∀ v,OwnI lo hi w v (⟨a,0,term0,0⟩:DIns)→K v):RD Tryz.prog (Instr.build 117 #[(0,.int .i64 a)]) w K:=
 zaH (cells:=#[.int .i64 a,.int .i64 0,.int .i64 0,.int .i64 0,.string nO,.slice none 0 0,.int .i64 0]) (by kernel_rfl) (k _ (zgw ha zgn zgn zdt))
end
def EmF (W:World) (g:Nat) (p:DProg) (L:List DIns) (F:List Nat) (w:World):Prop:=
 ∃ c0 c1 c2 rv,Is W (.agg #[c0,c1,c2]) p∧OAt F w g 0 (⟨⟨c0⟩,⟨c1⟩,⟨c2⟩,⟨rv,L⟩⟩:DEm)∧Ext W w∧W.heap.size≤g∧∀ c∈F,W.heap.size≤c
section
variable {W w w':World} {g:Nat} {p:DProg} {L:List DIns} {F:List Nat}
theorem EmF.ext (h:EmF W g p L F w) (hx:Ext w w'):EmF W g p L F w':=by
 obtain ⟨c0,c1,c2,rv,h1,h2,h3,h4⟩:=h;exact ⟨c0,c1,c2,rv,h1,h2.ext hx,h3.trans hx,h4⟩
theorem EmF.old (h:EmF W g p L F w):Ext W w:=by obtain ⟨c0,c1,c2,rv,h1,h2,h3,h4⟩:=h;exact h3
theorem EmF.lt (h:EmF W g p L F w):g<w.heap.size∧(∀ c∈F,c<w.heap.size)∧W.heap.size≤g∧g∉F∧∀ c∈F,W.heap.size≤c:=by
 obtain ⟨c0,c1,c2,rv,h1,h2,h3,h4,h5⟩:=h
 have:=h2.lts
 obtain ⟨_,_,_,_,_,h6,_⟩:=h2
 exact ⟨this g (by simp),fun c hc=>this c (by simp [hc]),h4,h6,h5⟩
theorem EmF.keep (h:EmF W g p L F w) (hk:∀ c∈g :: F,w'.heap[c]?=w.heap[c]?) (hx:Ext W w'):EmF W g p L F w':=by
 obtain ⟨c0,c1,c2,rv,h1,h2,h3,h4⟩:=h;exact ⟨c0,c1,c2,rv,h1,h2.keep hk,hx,h4⟩
theorem zgx {c0 c1 c2:Value} (h:Is W (.agg #[c0,c1,c2]) p):Is W c0 p.globals∧Is W c1 p.locks∧Is W c2 p.procs:=by
 obtain ⟨F,cs,hr,hv⟩:=h
 have hcs:cs=[c0,c1,c2]:=by
   simp only [mkv,Rep.agg,cond_true,Value.agg.injEq] at hv
   have:=congrArg Array.toList hv
   simpa using this.symm
 subst hcs
 obtain ⟨F1,F2,x1,x2,rfl,hx,h1,F3,F4,x3,x4,rfl,hx2,h2,h3⟩:=hr
 have e1:∃ a,x1=[a]:=by obtain ⟨a,cap,Fi,xs,rfl,_⟩:=h1;exact ⟨_,rfl⟩
 have e2:∃ a,x3=[a]:=by obtain ⟨a,cap,Fi,xs,rfl,_⟩:=h2;exact ⟨_,rfl⟩
 have e3:∃ a,x4=[a]:=by obtain ⟨a,cap,Fi,xs,rfl,_⟩:=h3;exact ⟨_,rfl⟩
 obtain ⟨a1,rfl⟩:=e1
 obtain ⟨a2,rfl⟩:=e2
 obtain ⟨a3,rfl⟩:=e3
 subst hx2
 simp only [List.cons_append,List.nil_append,List.cons.injEq,and_true] at hx
 obtain ⟨rfl,rfl,rfl⟩:=hx
 exact ⟨⟨F1,_,h1,rfl⟩,⟨F3,_,h2,rfl⟩,⟨F4,_,h3,rfl⟩⟩
theorem ztt {K:Value→Prop} (h:EmF W g p L F w) (k:∀ v,Is W v p.globals→K v) :
   RD Tryz.prog (Instr.fieldAt 137 (.pointer (some ⟨g,0,none⟩)) 0) w fun x26=>RD Tryz.prog (Instr.fieldAt 64 x26 0) w fun x27=>RD Tryz.prog (Instr.loadAt 24 x27) w fun x28=>K x28:=by
 obtain ⟨c0,c1,c2,rv,h1,h2,h3,h4,h5⟩:=h
 obtain ⟨G1,hL⟩:=zoh (Lens.var h2)
 obtain ⟨cs,⟨_,rfl,_⟩,hr,_⟩:=hL.here
 refine zaa zl7 ?_
 refine zaa zi9 ?_
 exact zcr zcP hr (k _ (zgx h1).1)
theorem zrz {K:Value→Prop} (h:EmF W g p L F w) (k:∀ v,Is W v p.locks→K v) :
   RD Tryz.prog (Instr.fieldAt 137 (.pointer (some ⟨g,0,none⟩)) 0) w fun x26=>RD Tryz.prog (Instr.fieldAt 64 x26 1) w fun x27=>RD Tryz.prog (Instr.loadAt 24 x27) w fun x28=>K x28:=by
 obtain ⟨c0,c1,c2,rv,h1,h2,h3,h4,h5⟩:=h
 obtain ⟨G1,hL⟩:=zoi (Lens.var h2)
 obtain ⟨cs,⟨_,rfl,_⟩,hr,_⟩:=hL.here
 refine zaa zl7 ?_
 refine zaa zja ?_
 exact zcr zcP hr (k _ (zgx h1).2.1)
theorem zrA {K:Value→Prop} (h:EmF W g p L F w) (k:∀ v,Is W v p→K v) :
   RD Tryz.prog (Instr.fieldAt 137 (.pointer (some ⟨g,0,none⟩)) 0) w fun x42=>RD Tryz.prog (Instr.loadAt 64 x42) w fun x43=>K x43:=by
 obtain ⟨c0,c1,c2,rv,h1,h2,h3,h4,h5⟩:=h
 refine zaa zl7 ?_
 obtain ⟨F1,cs1,hc1,hr1⟩:=h1
 have hcs:cs1=[c0,c1,c2]:=by
   simp only [mkv,Rep.agg,cond_true,Value.agg.injEq] at hr1
   have:=congrArg Array.toList hr1
   simpa using this.symm
 subst hcs
 obtain ⟨cs,hrr,hrg,_⟩:=h2
 obtain ⟨F2,F3,x1,x2,_,rfl,⟨_,rfl,_⟩,F4,F5,x3,x4,_,rfl,⟨_,rfl,_⟩,F6,F7,x5,x6,_,rfl,⟨_,rfl,_⟩,_⟩:=hrr
 have hr3:w.rangeAt g 0 [c0,c1,c2]:=by
   have:([c0]++([c1]++([c2]++x6)))=[c0,c1,c2]++x6:=rfl
   rw [this] at hrg
   exact (zaB hrg).1
 have hat:At w g (0+0) p:=⟨F1,_,zbV hc1 h3,hr3⟩
 have hatB:AtB W w g (0+0) p:=⟨F1,_,hc1,hr3⟩
 exact zdB zh4 hatB h3 (Ext.refl w) fun v hv=>k v hv
theorem zgy {lo hi:Nat} {u:Value} {x:DIns} (h:EmF W g p L F w) (hx:OwnI lo hi w u x) (hgl:g<lo) (hFl:∀ c∈F,c<lo) (hlo:lo≤w.heap.size) (hL:L.length≤1000000) :
   CALL Tryz.prog 114 [.pointer (some ⟨g,0,none⟩),u] w fun r w'=>r=.int .i64 (L.length:Int)∧Chg (g :: F) w w'∧∃ F',EmF W g p (L++[x]) F' w'∧∀ c∈F',c∈F∨lo≤c:=by
 obtain ⟨e1,e2,e3,e4,e5⟩:=h.lt
 obtain ⟨GX,hMX,hGX⟩:=hx
 refine F114_call ?_
 unfold F114
 refine zal zbS rfl hMX.is (Ext.refl w) fun w1 hx1 hA1 hV1=>?_
 have hs1:=hx1.size
 have hx2:=zaj w1
 have hs2:=hx2.size
 have hV2:=hV1.ext hx2
 have hx12:=hx1.trans hx2
 generalize World.drew1 w1=w2 at *
 have hM2:=hMX.ext hx12
 obtain ⟨c0,c1,c2,rv,h1,h2,h3,h4,h5⟩:=h.ext hx12
 obtain ⟨G1,hL1⟩:=zg8 (Lens.var h2)
 obtain ⟨cs1,⟨rfl,hrow⟩,hr1,hnG,_,hg1,_⟩:=hL1.here
 have hGF:∀ c∈G1,c∈F:=fun c hc=>by
   rcases List.mem_cons.1 (hL1.sub c (by simp [hc])) with e | h
   · exact absurd (e▸hc) hg1
   exact h
 have hlts:=h2.lts
 refine XR.mk (fun c=>c∈F) ?_
 refine NIL.mk rfl ?_
 refine zeB zfH ?_
 refine zeC zdN hr1 (fun h=>e4 h) ?_
 refine zss hV2 (fun h=>by have:=e2 _ h;omega) ?_
 refine zfr (β:=DIns) (G:=G1) u26 zbS zuu ztT (by decide) hrow hnG hM2 (fun c hc hc'=>by have:=hGX c hc;have:=hFl c (hGF c hc');omega) (by rw [zam];show L.length+1≤_;omega) (by show (L.length+1)*_≤_;omega) (fun w3 v12 w4 G' hx3 hc4 hR4 hN4 hs4=>?_) fun s' w3 hx3 h=>⟨hx3.toX,h⟩
 have hs3:=hx3.size
 refine ⟨hc4.toX (fun c hc=>hGF c hc),?_⟩
 refine NIL.mk rfl ?_
 refine zeB zfH ?_
 have hc24:Chg G1 w2 w4:=(hx3.chg G1).trans hc4
 refine zmA zdN hL1 hlts hc24 hR4 hN4 (fun c hc=>?_) fun w5 hc5 ⟨F',hO5,hF5⟩=>?_
 · rcases hs4 c hc with h | h | h
   · exact .inl h
   · refine .inr fun hm=>?_
     have:=hGX c h
     rcases List.mem_cons.1 hm with e | hm
     · omega
     have:=hFl c hm;omega
   exact .inr fun hm=>by have:=hlts c hm;omega
 have hgF5:g∉F':=by obtain ⟨_,_,_,_,_,hn,_⟩:=hO5;exact hn
 have hc25:Chg (g :: F) w w5:=(hx12.chg _).trans (hc5.mono fun c hc=>by
   rcases List.mem_cons.1 hc with rfl | hc
   · simp
   simp [hGF c hc])
 refine NIL.mk rfl ?_
 refine zaa zfH ?_
 refine zab (α:=RIns) zdN (zki hO5.at) (Ext.refl w5) fun v18 k18=>?_
 obtain ⟨q18,h18⟩:=zmm k18
 have q18:v18=v12:=q18
 have h18:Is w5 v12 (L++[x]):=h18
 rw [q18]
 refine zae u26 h18 ?_
 have hln:((L++[x]).length:Int)=(L.length:Int)+1:=by simp
 refine za2 (by show I64 (((L++[x]).length:Int)-1);rw [hln];unfold I64;omega) ?_
 refine ⟨?_,hc25,F',⟨c0,c1,c2,v12,h1,hO5,h.old.chgL hc25 (fun c hc=>?_),h4,fun c hc=>?_⟩,fun c hc=>?_⟩
 · show Value.int .i64 (((L++[x]).length:Int)-1)=_
   rw [hln];congr 1;omega
 · rcases List.mem_cons.1 hc with rfl | hc
   · exact h4
   exact e5 c hc
 · rcases hF5 c hc with h | h
   · rcases List.mem_cons.1 h with rfl | h
     · exact absurd hc hgF5
     exact e5 c h
   rcases hs4 c h with h | h | h
   · exact e5 c (hGF c h)
   · have:=hGX c h;omega
   omega
 rcases hF5 c hc with h | h
 · rcases List.mem_cons.1 h with rfl | h
   · exact absurd hc hgF5
   exact .inl h
 rcases hs4 c h with h | h | h
 · exact .inl (hGF c h)
 · exact .inr (hGX c h).1
 exact .inr (by omega)
theorem zhO {A R:List DIns} {y:DIns} {k:Nat} {K:World→Prop} (h:EmF W g p (A++y :: R) F w) (hk:A.length=k) (hL:(A++y :: R).length≤1000000)
   (kk:∀ w' F',Chg (g :: F) w w'→EmF W g p (A++(⟨y.op,y.arg,y.term,((A++y :: R).length:Int)⟩:DIns) :: R) F' w'→(∀ c∈F',c∈F)→K w') :
   NIL (.pointer (some ⟨g,0,none⟩))<|RD Tryz.prog (Instr.fieldAt 137 (.pointer (some ⟨g,0,none⟩)) 1) w fun x110=>RD Tryz.prog (Instr.loadAt 26 x110) w fun x111=>
     NIL (.pointer (some ⟨g,0,none⟩))<|RD Tryz.prog (Instr.fieldAt 137 (.pointer (some ⟨g,0,none⟩)) 1) w fun x115=>RD Tryz.prog (Instr.loadAt 26 x115) w fun x116=>
     RD Tryz.prog (Builtin.len_ #[26] 3 [x116].toArray) w fun x117=>RD Tryz.prog (Instr.indexAt 26 x111 (.int .i64 (k:Int))) w fun x118=>RD Tryz.prog (Instr.fieldAt 117 x118 3) w fun x119=>
     OPU Tryz.prog (Instr.storeAt 3 x119 x117) w fun w=>K w:=by
 obtain ⟨e1,e2,e3,e4,e5⟩:=h.lt
 obtain ⟨c0,c1,c2,rv,h1,h2,h3,h4,h5⟩:=h
 have hlts:=h2.lts
 have hkl:k<(A++y :: R).length:=by simp;omega
 obtain ⟨G1,hL1⟩:=zg8 (Lens.var h2)
 obtain ⟨cs1,⟨rfl,hrow⟩,hr1,_⟩:=hL1.here
 obtain ⟨b2,a2,cap2,G2,hv2,hG21,hL2⟩:=hL1.elemV (k:=k) hkl
 refine NIL.mk rfl ?_
 refine zaa zfH ?_
 refine zcr zdN hr1 ?_
 refine NIL.mk rfl ?_
 refine zaa zfH ?_
 refine zcr zdN hr1 ?_
 refine zae u26 (show Is w rv (A++y :: R) from hrow.own.is) ?_
 refine zkf u26 zbS hv2 hkl ?_
 obtain ⟨G3,hL3⟩:=zl3 hL2
 refine zaa zdY ?_
 refine zf9 ty3 hL3 (zcK (by unfold I64;omega)) (by simp) fun w' hc ⟨F',hO,hF'⟩=>?_
 have hgF':g∉F':=by obtain ⟨_,_,_,_,_,hn,_⟩:=hO;exact hn
 have hF:∀ c∈F',c∈F:=fun c hcm=>by
   rcases hF' c hcm with h | h
   · rcases List.mem_cons.1 h with rfl | h
     · exact absurd hcm hgF'
     exact h
   simp at h
 refine kk w' F' hc ⟨c0,c1,c2,rv,h1,?_,h3.chgL hc fun c hcm=>?_,h4,fun c hcm=>e5 c (hF c hcm)⟩ hF
 · have hO:OAt F' w' g 0 (⟨⟨c0⟩,⟨c1⟩,⟨c2⟩,⟨rv,(A++y :: R).set k ⟨((A++y :: R)[k]'hkl).op,((A++y :: R)[k]'hkl).arg,((A++y :: R)[k]'hkl).term,((A++y :: R).length:Int)⟩⟩⟩:DEm):=hO
   rw [zkb hk,zg6 hk hkl] at hO
   exact hO
 rcases List.mem_cons.1 hcm with rfl | hcm
 · exact e3
 exact e5 c hcm
end
def F113 (a0 a1:Value) (w:World) (R:VW):Prop:=
 LOOPI [4] [(iV 0)] w fun u1 w next1=>
 rN 66 3 a1 w fun x11=>
 rC (u1 4) x11 w fun x12=>
 BR x12
 (rX 66 a1 (u1 4) w fun x17=>
 rL 81 x17 w fun x18=>
 oP (Instr.alloc 81 true (.tuple #[])) w fun x5 w=>
 oS 81 x5 x18 w fun w=>
 rF 81 x5 0 w fun x19=>
 rL 3 x19 w fun x20=>
 rB .eql 3 T0 U0 x20 (iV 1) w fun x22=>
 BR x22
 ((fun w=>NIL a0 <|
 rF 137 a0 0 w fun x26=>
 rF 64 x26 0 w fun x27=>
 rL 24 x27 w fun x28=>
 rF 81 x5 1 w fun x29=>
 rL 9 x29 w fun x30=>
 rF 81 x5 2 w fun x32=>
 rL 78 x32 w fun x33=>
 (fun w_=>cL 192 [x28,x30] w_ fun x31 w=>
 Ext w_ w ∧
 (fun w_=>cL 193 [x33] w_ fun x34 w=>
 Ext w_ w ∧
 rD (Instr.build 117 #[(0,(iV 1)),(1,x31),(2,x34)]) w fun x35=>
 cL 114 [a0,x35] w fun x36 w=>
 rA (u1 4) (iV 1) w fun x14=>
 next1 [x14] w) w) w) (World.drew1 w))
 (rB .eql 3 T0 U0 x20 (iV 4) w fun x38=>
 BR x38
 ((fun w=>NIL a0 <|
 rF 137 a0 0 w fun x42=>
 rL 64 x42 w fun x43=>
 rF 81 x5 1 w fun x44=>
 rL 9 x44 w fun x45=>
 (fun w_=>cL 191 [x43,x45] w_ fun x46 w=>
 Ext w_ w ∧
 rD (Instr.build 117 #[(0,(iV 4)),(1,x46)]) w fun x47=>
 cL 114 [a0,x47] w fun x48 w=>
 rA (u1 4) (iV 1) w fun x14=>
 next1 [x14] w) w) (World.drew1 w))
 (rB .eql 3 T0 U0 x20 (iV 5) w fun x50=>
 BR x50
 ((fun w=>NIL a0 <|
 rF 137 a0 0 w fun x54=>
 rL 64 x54 w fun x55=>
 rF 81 x5 1 w fun x56=>
 rL 9 x56 w fun x57=>
 (fun w_=>cL 191 [x55,x57] w_ fun x58 w=>
 Ext w_ w ∧
 rD (Instr.build 117 #[(0,(iV 5)),(1,x58)]) w fun x59=>
 cL 114 [a0,x59] w fun x60 w=>
 rA (u1 4) (iV 1) w fun x14=>
 next1 [x14] w) w) (World.drew1 w))
 (rB .eql 3 T0 U0 x20 (iV 6) w fun x62=>
 BR x62
 ((fun w=>NIL a0 <|
 rF 137 a0 0 w fun x66=>
 rF 64 x66 1 w fun x67=>
 rL 24 x67 w fun x68=>
 rF 81 x5 1 w fun x69=>
 rL 9 x69 w fun x70=>
 (fun w_=>cL 192 [x68,x70] w_ fun x71 w=>
 Ext w_ w ∧
 rD (Instr.build 117 #[(0,(iV 6)),(1,x71)]) w fun x72=>
 cL 114 [a0,x72] w fun x73 w=>
 rA (u1 4) (iV 1) w fun x14=>
 next1 [x14] w) w) (World.drew1 w))
 (rB .eql 3 T0 U0 x20 (iV 7) w fun x75=>
 BR x75
 ((fun w=>NIL a0 <|
 rF 137 a0 0 w fun x79=>
 rF 64 x79 1 w fun x80=>
 rL 24 x80 w fun x81=>
 rF 81 x5 1 w fun x82=>
 rL 9 x82 w fun x83=>
 (fun w_=>cL 192 [x81,x83] w_ fun x84 w=>
 Ext w_ w ∧
 rD (Instr.build 117 #[(0,(iV 7)),(1,x84)]) w fun x85=>
 cL 114 [a0,x85] w fun x86 w=>
 rA (u1 4) (iV 1) w fun x14=>
 next1 [x14] w) w) (World.drew1 w))
 (rB .eql 3 T0 U0 x20 (iV 8) w fun x88=>
 BR x88
 (rD (Instr.build 117 #[(0,(iV 8))]) w fun x90=>
 cL 114 [a0,x90] w fun x91 w=>
 rA (u1 4) (iV 1) w fun x14=>
 next1 [x14] w)
 (rB .eql 3 T0 U0 x20 (iV 3) w fun x93=>
 BR x93
 (rF 81 x5 2 w fun x95=>
 rL 78 x95 w fun x96=>
 cL 193 [x96] w fun x97 w=>
 rD (Instr.build 117 #[(0,(iV 2)),(2,x97)]) w fun x98=>
 cL 114 [a0,x98] w fun x99 w=>
 rF 81 x5 3 w fun x101=>
 rL 66 x101 w fun x102=>
 cL 113 [a0,x102] w fun x103 w=>
 rD (Instr.build 117 #[(0,(iV 3)),(3,x99)]) w fun x106=>
 cL 114 [a0,x106] w fun x107 w=>
 (fun w=>NIL a0 <|
 rF 137 a0 1 w fun x110=>
 rL 26 x110 w fun x111=>
 NIL a0 <|
 rF 137 a0 1 w fun x115=>
 rL 26 x115 w fun x116=>
 rN 26 3 x116 w fun x117=>
 rX 26 x111 x99 w fun x118=>
 rF 117 x118 3 w fun x119=>
 oS 3 x119 x117 w fun w=>
 rA (u1 4) (iV 1) w fun x14=>
 next1 [x14] w) (World.drew1 w))
 (rB .eql 3 T0 U0 x20 (iV 2) w fun x121=>
 BR x121
 (rF 81 x5 2 w fun x123=>
 rL 78 x123 w fun x124=>
 cL 193 [x124] w fun x125 w=>
 rD (Instr.build 117 #[(0,(iV 2)),(2,x125)]) w fun x126=>
 cL 114 [a0,x126] w fun x127 w=>
 rF 81 x5 3 w fun x129=>
 rL 66 x129 w fun x130=>
 cL 113 [a0,x130] w fun x131 w=>
 rF 81 x5 4 w fun x132=>
 rL 66 x132 w fun x133=>
 rN 66 3 x133 w fun x134=>
 rB .gtr 3 T0 U0 x134 (iV 0) w fun x135=>
 BR x135
 (rD (Instr.build 117 #[(0,(iV 3))]) w fun x137=>
 cL 114 [a0,x137] w fun x138 w=>
 (fun w=>NIL a0 <|
 rF 137 a0 1 w fun x141=>
 rL 26 x141 w fun x142=>
 NIL a0 <|
 rF 137 a0 1 w fun x146=>
 rL 26 x146 w fun x147=>
 rN 26 3 x147 w fun x148=>
 rX 26 x142 x127 w fun x149=>
 rF 117 x149 3 w fun x150=>
 oS 3 x150 x148 w fun w=>
 rF 81 x5 4 w fun x152=>
 rL 66 x152 w fun x153=>
 cL 113 [a0,x153] w fun x154 w=>
 (fun w=>NIL a0 <|
 rF 137 a0 1 w fun x157=>
 rL 26 x157 w fun x158=>
 NIL a0 <|
 rF 137 a0 1 w fun x162=>
 rL 26 x162 w fun x163=>
 rN 26 3 x163 w fun x164=>
 rX 26 x158 x138 w fun x165=>
 rF 117 x165 3 w fun x166=>
 oS 3 x166 x164 w fun w=>
 rA (u1 4) (iV 1) w fun x14=>
 next1 [x14] w) (World.drew1 w)) (World.drew1 w))
 ((fun w=>NIL a0 <|
 rF 137 a0 1 w fun x169=>
 rL 26 x169 w fun x170=>
 NIL a0 <|
 rF 137 a0 1 w fun x174=>
 rL 26 x174 w fun x175=>
 rN 26 3 x175 w fun x176=>
 rX 26 x170 x127 w fun x177=>
 rF 117 x177 3 w fun x178=>
 oS 3 x178 x176 w fun w=>
 rA (u1 4) (iV 1) w fun x14=>
 next1 [x14] w) (World.drew1 w)))
 (rA (u1 4) (iV 1) w fun x14=>
 next1 [x14] w)))))))))
 (R (Value.tuple #[]) w)
def cfg113:Cfg:=⟨extL,[],[(1,766247770432944429179173513575154591809369561091801072,[4])],[(6,[0,1,2,3,4,5,6,7,9,10,8,11,12,13],2304),(8,[0,1,2,3,4,5,6,7,8,9],128),(10,[0,1,2,3,4,5,6,7,8,9],128),(12,[0,1,2,3,4,5,6,7,8,9,10],256),(14,[0,1,2,3,4,5,6,7,8,9,10],256),(21,[0,1,2,3,4,5,6,7,8,9,10,11,12],0),(27,[0,1,2,3,4,5,6,7,8,9,10,11,12],0),(29,[0,1,2,3,4,5,6,7,8,9,10,11,12],0),(30,[0,1,2,3,4,5,6,7,8,9,10,11,12],0)],[],[],[]⟩
theorem F113_call {a0 a1:Value} {w:World} {R:VW} (h:F113 a0 a1 w R):cL 113 [a0,a1] w R:=co (g:=cfg113) Tryz.func113 (by kernel_rfl) (by kernel_rfl) (by kernel_rfl) h
theorem zeG (G L P:List ByteArray) (x:DStmt) (a:Nat):emS G L P x a =
   if x.kind=1 then [⟨1,plc x.name G,x.term,0⟩]
   else if x.kind=4 then [⟨4,plc x.name P,term0,0⟩]
   else if x.kind=5 then [⟨5,plc x.name P,term0,0⟩]
   else if x.kind=6 then [⟨6,plc x.name L,term0,0⟩]
   else if x.kind=7 then [⟨7,plc x.name L,term0,0⟩]
   else if x.kind=8 then [⟨8,0,term0,0⟩]
   else if x.kind=3 then ⟨2,0,x.term,((a+1+(emL G L P x.body (a+1)).length+1:Nat):Int)⟩ :: (emL G L P x.body (a+1)++[⟨3,0,term0,(a:Int)⟩])
   else if x.kind=2 then
     (if x.els.length=0 then ⟨2,0,x.term,((a+1+(emL G L P x.body (a+1)).length:Nat):Int)⟩ :: emL G L P x.body (a+1)
     else ⟨2,0,x.term,((a+1+(emL G L P x.body (a+1)).length+1:Nat):Int)⟩ :: (emL G L P x.body (a+1) ++
       (⟨3,0,term0,((a+1+(emL G L P x.body (a+1)).length+1+(emL G L P x.els (a+1+(emL G L P x.body (a+1)).length+1)).length:Nat):Int)⟩ :: emL G L P x.els (a+1+(emL G L P x.body (a+1)).length+1))))
   else []:=by cases x;rw [emS];rfl
section
variable (G L P:List ByteArray)
mutual
theorem zpO:∀ (x:DStmt) (a:Nat),(emS G L P x a).length≤2*szS x
  | .mk k n t b e,a=>by
    have h1:=zg9 b (a+1)
    have h2:=zg9 e (a+1+(emL G L P b (a+1)).length+1)
    rw [emS,szS]
    repeat' split
    all_goals simp only [List.length_cons,List.length_nil,List.length_append];omega
theorem zg9:∀ (l:List DStmt) (a:Nat),(emL G L P l a).length≤2*szL l
  | [],a=>by rw [emL];simp
  | x :: l,a=>by
    have h1:=zpO x a
    have h2:=zg9 l (a+(emS G L P x a).length)
    rw [emL,szL,List.length_append];omega
end
end
theorem zst (x:DStmt):szS x=1+szL x.body+szL x.els:=by cases x;rw [szS];rfl
theorem zc8 {g:Nat} {F F1:List Nat} {w w1 w2:World} (h:Chg (g :: F) w w1) (k:Chg (g :: F1) w1 w2) (hF:∀ c∈F1,c∈F∨w.heap.size≤c):Chg (g :: F) w w2:=
 ⟨k.os.trans h.os,k.tape.trans h.tape,k.output.trans h.output,Nat.le_trans h.size k.size,fun b hb hn=>(k.block b (Nat.lt_of_lt_of_le hb h.size) fun hm=>by
   simp only [List.mem_cons,not_or] at hn
   rcases List.mem_cons.1 hm with e | hm
   · exact hn.1 e
   rcases hF b hm with h | h
   · exact hn.2 h
   omega).trans (h.block b hb hn)⟩
theorem ztu {W w:World} {b:Nat} {x:DStmt} (h:AtB W w b 0 x):AtB W w b (0+6) x.body:=by
 obtain ⟨F,cs,hr,hc⟩:=h
 have h:AtB W w b 0 x.tup:=⟨F,cs,zdM.1 hr,hc⟩
 exact h.snd.snd.snd.fst
theorem ztv {W w:World} {b:Nat} {x:DStmt} (h:AtB W w b 0 x):AtB W w b (0+7) x.els:=by
 obtain ⟨F,cs,hr,hc⟩:=h
 have h:AtB W w b 0 x.tup:=⟨F,cs,zdM.1 hr,hc⟩
 exact h.snd.snd.snd.snd
theorem znx {W:World} {v:Value} {p:DProg} (h:Is W v p):p.procs.length≤9223372036854775807:=by
 obtain ⟨F,cs,hr,hv⟩:=h
 obtain ⟨F1,F2,x1,x2,rfl,hx,h1,F3,F4,x3,x4,rfl,hx2,h2,h3⟩:=hr
 obtain ⟨a,cap,Fi,xs,_,q1,q2,_⟩:=h3
 have q1:p.procs.length≤cap:=q1
 rw [zam] at q2
 omega
def zmC (c:Scp) (n:Nat) (l:List DStmt):Prop:=∀ {W w:World} {g:Nat} {p:DProg} {L:List DIns} {F:List Nat} {v:Value},EmF W g p L F w→Is W v l→(∀ x∈l,StR c n x)→L.length+2*szL l≤1000000 →
 CALL Tryz.prog 113 [.pointer (some ⟨g,0,none⟩),v] w fun r w'=>Chg (g :: F) w w'∧∃ F',EmF W g p (L++emL p.globals p.locks (p.procs.map DProc.name) l L.length) F' w'∧∀ c∈F',c∈F∨w.heap.size≤c
def zum (W w:World) (g:Nat) (p:DProg) (L:List DIns) (F:List Nat) (l:List DStmt) (k:Nat) (us:List Value) (w':World):Prop:=
 us=[.int .i64 (k:Int)]∧∃ L1 F1,k≤l.length∧L++emL p.globals p.locks (p.procs.map DProc.name) l L.length=L1++emL p.globals p.locks (p.procs.map DProc.name) (l.drop k) L1.length∧L1.length+2*szL (l.drop k)≤1000000 ∧
   Chg (g :: F) w w'∧EmF W g p L1 F1 w'∧∀ c∈F1,c∈F∨w.heap.size≤c
theorem zgz {c:Scp} {n:Nat} {l:List DStmt} (ih:∀ m l,m+1=n→zmC c m l) (inil:∀ m,zmC c m []):zmC c n l:=by
 intro W w g p L F v hE h hs hlen
 have hln:=zaf h
 obtain ⟨-,e2,e3,e4,e5⟩:=hE.lt
 have e1:=hE.lt.1
 refine F113_call ?_
 unfold F113
 refine zaE l.length (zum W w g p L F l) 0 (Nat.zero_le _) ⟨rfl,L,F,Nat.zero_le _,by simp,by simpa using hlen,Chg.refl _ _,hE,fun c hc=>.inl hc⟩ ?_
 rintro k m u w1 hkm ⟨hu,L1,F1,hkl,heq,hlen1,hc1,hE1,hF1⟩
 simp only [List.map_cons,List.map_nil,List.cons.injEq,and_true] at hu
 rw [hu]
 have hsz1:=hc1.size
 refine zae u66 h ?_
 refine zai ?_
 refine br (fun hlt=>?_) (fun hge=>?_)
 rotate_left
 · have hk:k=l.length:=by omega
   subst hk
   rw [List.drop_length,emL,List.append_nil] at heq
   rw [heq]
   exact ⟨hc1,F1,hE1,hF1⟩
 have hk:k<l.length:=by omega
 obtain ⟨x,hx⟩:∃ x,x=l[k]:=⟨_,rfl⟩
 have hxs:StR c n x:=by rw [hx];exact hs _ (List.getElem_mem hk)
 have hdr:l.drop k=x :: l.drop (k+1):=by rw [hx];exact List.drop_eq_getElem_cons hk
 rw [hdr,emL] at heq
 rw [hdr,szL] at hlen1
 have hel:=zpO p.globals p.locks (p.procs.map DProc.name) x L1.length
 have hszx:=zst x
 have hfin:∀ w' F2,Chg (g :: F) w w'→EmF W g p (L1++emS p.globals p.locks (p.procs.map DProc.name) x L1.length) F2 w'→(∀ c∈F2,c∈F∨w.heap.size≤c) →
     ∃ m',m'<m∧∃ k',k'+m'=l.length∧zum W w g p L F l k' [.int .i64 ((k+1:Nat):Int)] w':=fun w' F2 hc hE hF=>
   ⟨m-1,by omega,k+1,by omega,rfl,_,F2,by omega,by rw [heq,List.length_append,List.append_assoc],by rw [List.length_append];omega,hc,hE,hF⟩
 obtain ⟨f1,f2,f3,f4,f5⟩:=hE1.lt
 have hW1:=hE1.old
 refine zad u66 zc6 h hk fun b17 o17 hA17=>?_
 rw [←hx] at hA17
 refine zab zc6 hA17 hW1 fun v18 h18=>?_
 refine zeY zsY rfl zc6 rfl h18 hW1 fun w2 hx2 hA5 hV5=>?_
 have hs2:=hx2.size
 have hg5:=hV5.lt
 have hE2:=hE1.ext hx2
 have hB5:=zl9 h18 hV5 rfl
 have hc2:Chg (g :: F) w w2:=hc1.trans (hx2.chg _)
 have hkind:(x.kind=1∨x.kind=2∨x.kind=3)→TmR c.gl x.term:=fun hq=>by
   have h0:St0 c x→TmR c.gl x.term:=fun q=>by
     rcases q with q | q | q | q
     · exact q.2.2.1
     · have:=q.1;omega
     · have:=q.1;omega
     have:=q.1;omega
   cases n with
   | zero=>exact h0 hxs.zero
   | succ n=>
     rcases hxs.succ with q | ⟨_,_,h3,_⟩
     · exact h0 q
     exact h3
 have hkid:∃ q,(∀ y∈x.body,StR c q y)∧(∀ y∈x.els,StR c q y)∧zmC c q x.body∧zmC c q x.els:=by
   have h0:St0 c x→x.body=[]∧x.els=[]:=fun h=>by rcases h with q | q | q | q<;>exact ⟨q.2.2.2.1,q.2.2.2.2⟩
   cases n with
   | zero=>
     obtain ⟨h1,h2⟩:=h0 hxs.zero
     rw [h1,h2]
     exact ⟨0,by simp,by simp,inil 0,inil 0⟩
   | succ n=>
     rcases hxs.succ with q | ⟨_,_,_,h4,h5⟩
     · obtain ⟨h1,h2⟩:=h0 q
       rw [h1,h2]
       exact ⟨0,by simp,by simp,inil 0,inil 0⟩
     exact ⟨n,h4,h5,ih n _ rfl,ih n _ rfl⟩
 obtain ⟨q,hqb,hqe,ihb,ihe⟩:=hkid
 have hat2:=hB5.at hE2.old
 refine zaa zeR ?_
 refine zac ty3 (zb4 hat2) (Ext.refl _) fun hI20=>?_
 -- an instruction of one's own behind what there is
 have hput:∀ {w3:World} {lo hi:Nat} {u:Value} {y:DIns} {K:Value→World→Prop},Ext w2 w3→OwnI lo hi w3 u y→w1.heap.size≤lo→lo≤w3.heap.size →
     (∀ w4 F4,Chg (g :: F) w w4→EmF W g p (L1++[y]) F4 w4→(∀ c∈F4,c∈F1∨w1.heap.size≤c)→AtB W w4 w1.heap.size 0 x→w1.heap.size<w4.heap.size→w1.heap.size∉F4∨lo≤w1.heap.size→K (.int .i64 (L1.length:Int)) w4)→CALL Tryz.prog 114 [.pointer (some ⟨g,0,none⟩),u] w3 K:=by
   intro w3 lo hi u y K hx3 ho h1 h2 hK
   have hs3:=hx3.size
   refine (zgy (hE2.ext hx3) ho (by omega) (fun c hc=>by have:=f2 c hc;omega) h2 (by omega)).mono ?_
   rintro _ w4 ⟨rfl,hc4,F4,hE4,hF4⟩
   have hs4:=hc4.size
   refine hK w4 F4 (zc8 (hc2.trans (hx3.chg _)) hc4 hF1) hE4 (fun c hc=>(hF4 c hc).imp id fun h=>by omega) ((hB5.ext hx3).keep (hc4.block _ (by omega) fun hm=>?_)) (by omega) ?_
   · rcases List.mem_cons.1 hm with e | hm
     · omega
     have:=f2 _ hm;omega
   rcases Nat.lt_or_ge w1.heap.size lo with hl | hl
   · refine .inl fun hm=>?_
     rcases hF4 _ hm with h | h
     · have:=f2 _ h;omega
     omega
   exact .inr hl
 refine zag ?_
 refine br (fun k1=>?_) (fun k1=>?_)
 · have hx3:=zaj w2
   have hE3:=hE2.ext hx3
   refine NIL.mk rfl ?_
   refine ztt hE3 fun v28 h28=>?_
   refine zaa zcS ?_
   refine zao ty9 (za8 hat2) hx3 fun hS=>?_
   refine zaa zhq ?_
   refine zab zcs (zcz hat2) hx3 fun v33 h33=>?_
   refine (zbJ h28 hE3.old).mono ?_
   rintro _ w4 ⟨hx4,rfl⟩
   refine ⟨hx4,?_⟩
   have hw24:=(hkind (.inl k1)).2.2
   refine (zg7 _ h33 (hx3.trans hx4) (by omega)).mono ?_
   rintro v34 w5 ⟨hx5,o34⟩
   have o34:=o34.toI
   have hs3:=hx3.size
   have hs4:=hx4.size
   have hs5:=hx5.size
   refine ⟨hx5,?_⟩
   have hpl:=zia (s:=x.name) (l:=p.globals)
   have hpl2:=zaf h28
   refine zmB (by unfold I64;omega) (by unfold I64;omega) o34 fun v35 o35=>?_
   refine hput (hx3.trans (hx4.trans hx5)) o35 (by omega) (by omega) fun w6 F6 hc6 hE6 hF6 _ _ _=>?_
   refine zah (by omega) ?_
   refine hfin w6 F6 hc6 ?_ fun c hc=>(hF6 c hc).elim (hF1 c) fun h=>.inr (by omega)
   rw [zeG,if_pos k1];exact hE6
 refine zag ?_
 refine br (fun k4=>?_) (fun k4=>?_)
 · have hx3:=zaj w2
   have hE3:=hE2.ext hx3
   have hs3:=hx3.size
   refine NIL.mk rfl ?_
   refine zrA hE3 fun v28 h28=>?_
   refine zaa zcS ?_
   refine zao ty9 (za8 hat2) hx3 fun hS=>?_
   refine (ziz h28 hE3.old).mono ?_
   rintro _ w4 ⟨hx4,rfl⟩
   have hs4:=hx4.size
   refine ⟨hx4,?_⟩
   have hpl:=zia (s:=x.name) (l:=p.procs.map DProc.name)
   have hpl2:p.procs.length≤9223372036854775807:=znx h28
   rw [List.length_map] at hpl
   refine zft (lo:=w4.heap.size) (hi:=w4.heap.size) (by unfold I64;omega) (by unfold I64;omega) fun v35 o35=>?_
   refine hput (hx3.trans hx4) o35 (by omega) (by omega) fun w6 F6 hc6 hE6 hF6 _ _ _=>?_
   refine zah (by omega) ?_
   refine hfin w6 F6 hc6 ?_ fun c hc=>(hF6 c hc).elim (hF1 c) fun h=>.inr (by omega)
   rw [zeG,if_neg k1,if_pos k4];exact hE6
 refine zag ?_
 refine br (fun k5=>?_) (fun k5=>?_)
 · have hx3:=zaj w2
   have hE3:=hE2.ext hx3
   have hs3:=hx3.size
   refine NIL.mk rfl ?_
   refine zrA hE3 fun v28 h28=>?_
   refine zaa zcS ?_
   refine zao ty9 (za8 hat2) hx3 fun hS=>?_
   refine (ziz h28 hE3.old).mono ?_
   rintro _ w4 ⟨hx4,rfl⟩
   have hs4:=hx4.size
   refine ⟨hx4,?_⟩
   have hpl:=zia (s:=x.name) (l:=p.procs.map DProc.name)
   have hpl2:p.procs.length≤9223372036854775807:=znx h28
   rw [List.length_map] at hpl
   refine zft (lo:=w4.heap.size) (hi:=w4.heap.size) (by unfold I64;omega) (by unfold I64;omega) fun v35 o35=>?_
   refine hput (hx3.trans hx4) o35 (by omega) (by omega) fun w6 F6 hc6 hE6 hF6 _ _ _=>?_
   refine zah (by omega) ?_
   refine hfin w6 F6 hc6 ?_ fun c hc=>(hF6 c hc).elim (hF1 c) fun h=>.inr (by omega)
   rw [zeG,if_neg k1,if_neg k4,if_pos k5];exact hE6
 refine zag ?_
 refine br (fun k6=>?_) (fun k6=>?_)
 · have hx3:=zaj w2
   have hE3:=hE2.ext hx3
   have hs3:=hx3.size
   refine NIL.mk rfl ?_
   refine zrz hE3 fun v28 h28=>?_
   refine zaa zcS ?_
   refine zao ty9 (za8 hat2) hx3 fun hS=>?_
   refine (zbJ h28 hE3.old).mono ?_
   rintro _ w4 ⟨hx4,rfl⟩
   have hs4:=hx4.size
   refine ⟨hx4,?_⟩
   have hpl:=zia (s:=x.name) (l:=p.locks)
   have hpl2:=zaf h28
   refine zft (lo:=w4.heap.size) (hi:=w4.heap.size) (by unfold I64;omega) (by unfold I64;omega) fun v35 o35=>?_
   refine hput (hx3.trans hx4) o35 (by omega) (by omega) fun w6 F6 hc6 hE6 hF6 _ _ _=>?_
   refine zah (by omega) ?_
   refine hfin w6 F6 hc6 ?_ fun c hc=>(hF6 c hc).elim (hF1 c) fun h=>.inr (by omega)
   rw [zeG,if_neg k1,if_neg k4,if_neg k5,if_pos k6];exact hE6
 refine zag ?_
 refine br (fun k7=>?_) (fun k7=>?_)
 · have hx3:=zaj w2
   have hE3:=hE2.ext hx3
   have hs3:=hx3.size
   refine NIL.mk rfl ?_
   refine zrz hE3 fun v28 h28=>?_
   refine zaa zcS ?_
   refine zao ty9 (za8 hat2) hx3 fun hS=>?_
   refine (zbJ h28 hE3.old).mono ?_
   rintro _ w4 ⟨hx4,rfl⟩
   have hs4:=hx4.size
   refine ⟨hx4,?_⟩
   have hpl:=zia (s:=x.name) (l:=p.locks)
   have hpl2:=zaf h28
   refine zft (lo:=w4.heap.size) (hi:=w4.heap.size) (by unfold I64;omega) (by unfold I64;omega) fun v35 o35=>?_
   refine hput (hx3.trans hx4) o35 (by omega) (by omega) fun w6 F6 hc6 hE6 hF6 _ _ _=>?_
   refine zah (by omega) ?_
   refine hfin w6 F6 hc6 ?_ fun c hc=>(hF6 c hc).elim (hF1 c) fun h=>.inr (by omega)
   rw [zeG,if_neg k1,if_neg k4,if_neg k5,if_neg k6,if_pos k7];exact hE6
 refine zag ?_
 refine br (fun k8=>?_) (fun k8=>?_)
 · refine ziC (lo:=w2.heap.size) (hi:=w2.heap.size) (by unfold I64;omega) fun v35 o35=>?_
   refine hput (Ext.refl w2) o35 (by omega) (by omega) fun w6 F6 hc6 hE6 hF6 _ _ _=>?_
   refine zah (by omega) ?_
   refine hfin w6 F6 hc6 ?_ fun c hc=>(hF6 c hc).elim (hF1 c) fun h=>.inr (by omega)
   rw [zeG,if_neg k1,if_neg k4,if_neg k5,if_neg k6,if_neg k7,if_pos k8];exact hE6
 have hlb:=zg9 p.globals p.locks (p.procs.map DProc.name) x.body (L1.length+1)
 refine zag ?_
 refine br (fun k3=>?_) (fun k3=>?_)
 · refine zaa zhq ?_
   refine zab zcs (zcz hat2) (Ext.refl _) fun v96 h96=>?_
   have hw24:=(hkind (.inr (.inr k3))).2.2
   refine (zg7 _ h96 (Ext.refl _) (by omega)).mono ?_
   rintro v97 w4 ⟨hx4,o97⟩
   have o97:=o97.toI
   have hs4:=hx4.size
   refine zjp (by unfold I64;omega) o97 fun v98 o98=>?_
   refine hput hx4 o98 (by omega) (by omega) fun w5 F5 hc5 hE5 hF5 hB5' hg5' _=>?_
   refine zaa zeS ?_
   refine zdB zfY (ztu hB5') hE5.old (Ext.refl _) fun v102 h102=>?_
   refine (ihb hE5 h102 hqb (by simp;omega)).mono ?_
   rintro r103 w6 ⟨hc6,F6,hE6,hF6⟩
   have hs5:=hc5.size
   have hs6:=hc6.size
   obtain ⟨z1,z2,z3,z4,z5⟩:=hE6.lt
   refine zoj (lo:=w6.heap.size) (hi:=w6.heap.size) (by unfold I64;omega) (by unfold I64;omega) fun v106 o106=>?_
   refine (zgy hE6 o106 z1 z2 (Nat.le_refl _) (by simp;omega)).mono ?_
   rintro r107 w7 ⟨-,hc7,F7,hE7,hF7⟩
   have hs7:=hc7.size
   have hx8:=zaj w7
   have e7:L1++[(⟨2,0,x.term,0⟩:DIns)]++emL p.globals p.locks (p.procs.map DProc.name) x.body (L1++[(⟨2,0,x.term,0⟩:DIns)]).length++[⟨3,0,term0,(L1.length:Int)⟩] =
       L1++(⟨2,0,x.term,0⟩:DIns) :: (emL p.globals p.locks (p.procs.map DProc.name) x.body (L1.length+1)++[⟨3,0,term0,(L1.length:Int)⟩]):=by simp
   rw [e7] at hE7
   have hF6':∀ c∈F6,c∈F∨w.heap.size≤c:=fun c hc=>(hF6 c hc).elim (fun h=>(hF5 c h).elim (hF1 c) fun h=>.inr (by omega)) fun h=>.inr (by omega)
   have hF7':∀ c∈F7,c∈F∨w.heap.size≤c:=fun c hc=>(hF7 c hc).elim (hF6' c) fun h=>.inr (by omega)
   have hc07:=zc8 (zc8 hc5 hc6 fun c hc=>(hF5 c hc).elim (hF1 c) fun h=>.inr (by omega)) hc7 hF6'
   refine zhO (hE7.ext hx8) rfl (by simp;omega) fun w9 F9 hc9 hE9 hF9=>?_
   refine zah (by omega) ?_
   refine hfin w9 F9 (zc8 (hc07.trans (hx8.chg _)) hc9 hF7') ?_ fun c hc=>hF7' c (hF9 c hc)
   rw [zeG,if_neg k1,if_neg k4,if_neg k5,if_neg k6,if_neg k7,if_neg k8,if_pos k3]
   have:((L1++(⟨2,0,x.term,0⟩:DIns) :: (emL p.globals p.locks (p.procs.map DProc.name) x.body (L1.length+1)++[⟨3,0,term0,(L1.length:Int)⟩])).length:Int)=((L1.length+1+(emL p.globals p.locks (p.procs.map DProc.name) x.body (L1.length+1)).length+1:Nat):Int):=by
     simp only [List.length_append,List.length_cons,List.length_nil];omega
   rw [this] at hE9
   exact hE9
 refine zag ?_
 refine br (fun k2=>?_) (fun k2=>?_)
 rotate_left
 · exfalso
   have h0:St0 c x→False:=fun q=>by rcases q with q | q | q | q<;>(have:=q.1;omega)
   cases n with
   | zero=>exact h0 hxs.zero
   | succ n=>
     rcases hxs.succ with q | ⟨q,_⟩
     · exact h0 q
     omega
 refine zaa zhq ?_
 refine zab zcs (zcz hat2) (Ext.refl _) fun v124 h124=>?_
 have hw24:=(hkind (.inr (.inl k2))).2.2
 refine (zg7 _ h124 (Ext.refl _) (by omega)).mono ?_
 rintro v125 w4 ⟨hx4,o125⟩
 have o125:=o125.toI
 have hs4:=hx4.size
 refine zjp (by unfold I64;omega) o125 fun v126 o126=>?_
 refine hput hx4 o126 (by omega) (by omega) fun w5 F5 hc5 hE5 hF5 hB5' hg5' hgF5=>?_
 have hgF5:w1.heap.size∉F5:=hgF5.elim id fun h=>by omega
 have hs5:=hc5.size
 refine zaa zeS ?_
 refine zdB zfY (ztu hB5') hE5.old (Ext.refl _) fun v130 h130=>?_
 refine (ihb hE5 h130 hqb (by simp;omega)).mono ?_
 rintro r131 w6 ⟨hc6,F6,hE6,hF6⟩
 have hs6:=hc6.size
 have hB6:=hB5'.keep (hc6.block _ hg5' fun hm=>by
   rcases List.mem_cons.1 hm with e | hm
   · omega
   exact hgF5 hm)
 obtain ⟨z1,z2,z3,z4,z5⟩:=hE6.lt
 have hF5':∀ c∈F5,c∈F∨w.heap.size≤c:=fun c hc=>(hF5 c hc).elim (hF1 c) fun h=>.inr (by omega)
 have hF6':∀ c∈F6,c∈F∨w.heap.size≤c:=fun c hc=>(hF6 c hc).elim (hF5' c) fun h=>.inr (by omega)
 have hc06:=zc8 hc5 hc6 hF5'
 have e6:L1++[(⟨2,0,x.term,0⟩:DIns)]++emL p.globals p.locks (p.procs.map DProc.name) x.body (L1++[(⟨2,0,x.term,0⟩:DIns)]).length =
     L1++(⟨2,0,x.term,0⟩:DIns) :: emL p.globals p.locks (p.procs.map DProc.name) x.body (L1.length+1):=by simp
 rw [e6] at hE6
 obtain ⟨B,hB⟩:∃ B,B=emL p.globals p.locks (p.procs.map DProc.name) x.body (L1.length+1):=⟨_,rfl⟩
 rw [←hB] at hE6 hlb
 refine zaa zdP ?_
 refine zdB zfY (ztv hB6) hE6.old (Ext.refl _) fun v133 h133=>?_
 refine zae u66 h133 ?_
 refine zb0 ?_
 refine br (fun ke=>?_) (fun ke=>?_)
 · refine ziC (lo:=w6.heap.size) (hi:=w6.heap.size) (by unfold I64;omega) fun v137 o137=>?_
   refine (zgy hE6 o137 z1 z2 (Nat.le_refl _) (by simp;omega)).mono ?_
   rintro r138 w7 ⟨h138,hc7,F7,hE7,hF7⟩
   rw [h138]
   have hs7:=hc7.size
   have hx8:=zaj w7
   have hs8:=hx8.size
   have e7:L1++(⟨2,0,x.term,0⟩:DIns) :: B++[⟨3,0,term0,0⟩]=L1++(⟨2,0,x.term,0⟩:DIns) :: (B++[⟨3,0,term0,0⟩]):=by simp
   rw [e7] at hE7
   have hF7':∀ c∈F7,c∈F∨w.heap.size≤c:=fun c hc=>(hF7 c hc).elim (hF6' c) fun h=>.inr (by omega)
   have hc07:=zc8 hc06 hc7 hF6'
   have hgF6:w1.heap.size∉F6:=fun hm=>(hF6 _ hm).elim hgF5 fun h=>by omega
   have hgF7:w1.heap.size∉F7:=fun hm=>(hF7 _ hm).elim hgF6 fun h=>by omega
   have hB7:=hB6.keep (hc7.block _ (by omega) fun hm=>by
     rcases List.mem_cons.1 hm with e | hm
     · omega
     exact hgF6 hm)
   refine zhO (hE7.ext hx8) rfl (by simp;omega) fun w9 F9 hc9 hE9 hF9=>?_
   have hs9:=hc9.size
   have hB9:=(hB7.ext hx8).keep (hc9.block _ (by omega) fun hm=>by
     rcases List.mem_cons.1 hm with e | hm
     · omega
     exact hgF7 hm)
   refine zaa zdP ?_
   refine zdB zfY (ztv hB9) hE9.old (Ext.refl _) fun v153 h153=>?_
   obtain ⟨y0,hy0⟩:∃ y0:DIns,y0=⟨2,0,x.term,((L1++(⟨2,0,x.term,0⟩:DIns) :: (B++[⟨3,0,term0,0⟩])).length:Int)⟩:=⟨_,rfl⟩
   have hE9:EmF W g p (L1++y0 :: (B++[⟨3,0,term0,0⟩])) F9 w9:=by rw [hy0];exact hE9
   refine (ihe hE9 h153 hqe (by simp;omega)).mono ?_
   rintro r154 w10 ⟨hc10,F10,hE10,hF10⟩
   have hF9':∀ c∈F9,c∈F∨w.heap.size≤c:=fun c hc=>hF7' c (hF9 c hc)
   have hF10':∀ c∈F10,c∈F∨w.heap.size≤c:=fun c hc=>(hF10 c hc).elim (hF9' c) fun h=>.inr (by omega)
   have hc010:=zc8 (zc8 (hc07.trans (hx8.chg _)) hc9 hF7') hc10 hF9'
   have hx11:=zaj w10
   have hle:=zg9 p.globals p.locks (p.procs.map DProc.name) x.els (L1++y0 :: (B++[⟨3,0,term0,0⟩])).length
   have hn9:(L1++y0 :: (B++[(⟨3,0,term0,0⟩:DIns)])).length=L1.length+1+B.length+1:=by simp only [List.length_append,List.length_cons,List.length_nil];omega
   rw [hn9] at hE10 hle
   obtain ⟨E,hEe⟩:∃ E,E=emL p.globals p.locks (p.procs.map DProc.name) x.els (L1.length+1+B.length+1):=⟨_,rfl⟩
   rw [←hEe] at hE10 hle
   have e10:L1++y0 :: (B++[(⟨3,0,term0,0⟩:DIns)])++E=(L1++y0 :: B)++(⟨3,0,term0,0⟩:DIns) :: E:=by simp
   rw [e10] at hE10
   refine zhO (hE10.ext hx11) (by simp) (by simp only [List.length_append,List.length_cons];omega) fun w12 F12 hc12 hE12 hF12=>?_
   refine zah (by omega) ?_
   refine hfin w12 F12 (zc8 (hc010.trans (hx11.chg _)) hc12 hF10') ?_ fun c hc=>hF10' c (hF12 c hc)
   rw [zeG,if_neg k1,if_neg k4,if_neg k5,if_neg k6,if_neg k7,if_neg k8,if_neg k3,if_pos k2,if_neg (by omega),←hB,←hEe]
   have q1:y0=⟨2,0,x.term,((L1.length+1+B.length+1:Nat):Int)⟩:=by
     rw [hy0];congr 1
     simp only [List.length_append,List.length_cons,List.length_nil];omega
   have q2:(((L1++y0 :: B)++(⟨3,0,term0,0⟩:DIns) :: E).length:Int)=((L1.length+1+B.length+1+E.length:Nat):Int):=by
     simp only [List.length_append,List.length_cons,List.length_nil];omega
   rw [q2,q1] at hE12
   simpa using hE12
 have hx8:=zaj w6
 refine zhO (hE6.ext hx8) rfl (by simp;omega) fun w9 F9 hc9 hE9 hF9=>?_
 refine zah (by omega) ?_
 refine hfin w9 F9 (zc8 (hc06.trans (hx8.chg _)) hc9 hF6') ?_ fun c hc=>hF6' c (hF9 c hc)
 rw [zeG,if_neg k1,if_neg k4,if_neg k5,if_neg k6,if_neg k7,if_neg k8,if_neg k3,if_pos k2,if_pos (by omega),←hB]
 have:((L1++(⟨2,0,x.term,0⟩:DIns) :: B).length:Int)=((L1.length+1+B.length:Nat):Int):=by
   simp only [List.length_append,List.length_cons,List.length_nil];omega
 rw [this] at hE9
 exact hE9
theorem zhw (c:Scp) (n:Nat):zmC c n []:=by
 intro W w g p L F v hE h hs hlen
 refine F113_call ?_
 unfold F113
 refine zaE 0 (fun k us w'=>us=[.int .i64 (k:Int)]∧w'=w) 0 (Nat.zero_le _) ⟨rfl,rfl⟩ ?_
 rintro k m u w1 hkm ⟨hu,rfl⟩
 simp only [List.map_cons,List.map_nil,List.cons.injEq,and_true] at hu
 rw [hu]
 refine zae u66 h ?_
 refine zai ?_
 refine br (fun hlt=>by simp at hlt;omega) (fun hge=>?_)
 exact ⟨Chg.refl _ _,F,by rw [emL,List.append_nil];exact hE,fun c hc=>.inl hc⟩
theorem ziD (c:Scp):∀ (n:Nat) (l:List DStmt),zmC c n l
 | 0,l=>zgz (n:=0) (l:=l) (fun m l h=>absurd h (by omega)) (zhw c)
 | n + 1, l => zgz (n := n + 1) (l := l) (fun m l h => by
     obtain rfl:m=n:=by omega
     exact ziD c m l) (zhw c)
theorem CodeR.f {c:DCode} (h:CodeR c):EntF c:=h.2.1.f h.1.procs8.2
def F72 (a0 a1:Value) (w:World) (R:VW):Prop:=
 oP (Instr.box 28 a0) w fun x2 w=>
 rB .geq 3 T0 U0 a1 (iV 0) w fun x6=>
 BR x6
 (rF 28 x2 4 w fun x9=>
 rL 26 x9 w fun x10=>
 rN 26 3 x10 w fun x11=>
 rC a1 x11 w fun x12=>
 R x12 w)
 (R (Value.bool false) w)
def cfg72:Cfg:=⟨extL,[],[],[],[],[],[]⟩
theorem F72_call {a0 a1:Value} {w:World} {R:VW} (h:F72 a0 a1 w R):cL 72 [a0,a1] w R:=co (g:=cfg72) Tryz.func72 (by kernel_rfl) (by kernel_rfl) (by kernel_rfl) h
theorem zdv {w:World} {v0:Value} {W0:World} {c:DCode} {a:Int}  (h0:Is W0 v0 c) (e0:Ext W0 w)  :
   CALL Tryz.prog 72 [v0,.int .i64 a] w fun r w'=>Ext w w'∧(r=.bool (decide (0≤a∧a<c.ins.length))):=by
 refine F72_call ?_
 unfold F72
 refine zal zbq rfl h0 e0 fun w1_ hx1_ hA2 hV2=>?_
 refine zb1 ?_
 refine br (fun c1=>?_) (fun c1=>?_)
 · refine zaa zba ?_
   refine zab zdN (zaq hA2) (Ext.refl w1_) fun v10 h10=>?_
   have hln11:=zaf h10
   refine zae u26 h10 ?_
   refine zai ?_
   refine ⟨hx1_,?_⟩
   simp [c1]
 refine ⟨hx1_,?_⟩
 simp [c1]
def F179 (a0 a1:Value) (w:World) (R:VW):Prop:=
 oP (Instr.box 28 a0) w fun x2 w=>
 LOOPI [5] [(iV 0)] w fun u2 w next2=>
 rA (u2 5) (iV 1) w fun x7=>
 rF 28 x2 3 w fun x8=>
 rL 25 x8 w fun x9=>
 rN 25 3 x9 w fun x10=>
 rC x7 x10 w fun x11=>
 BR x11
 (rF 28 x2 3 w fun x13=>
 rL 25 x13 w fun x14=>
 rA (u2 5) (iV 1) w fun x16=>
 rX 25 x14 x16 w fun x17=>
 rL 3 x17 w fun x18=>
 rB .leq 3 T0 T0 x18 a1 w fun x20=>
 BR x20
 (rA (u2 5) (iV 1) w fun x23=>
 next2 [x23] w)
 (R (u2 5) w))
 (R (u2 5) w)
def cfg179:Cfg:=⟨extL,[],[(2,16777184,[5])],[],[],[],[]⟩
theorem F179_call {a0 a1:Value} {w:World} {R:VW} (h:F179 a0 a1 w R):cL 179 [a0,a1] w R:=co (g:=cfg179) Tryz.func179 (by kernel_rfl) (by kernel_rfl) (by kernel_rfl) h
theorem zpP {w:World} {v0:Value} {W0:World} {c:DCode} {a:Int}  (h0:Is W0 v0 c) (e0:Ext W0 w) (hc:CodeR c) (ha:0≤a) (ha2:a<c.ins.length) :
   CALL Tryz.prog 179 [v0,.int .i64 a] w fun r w'=>Ext w w'∧(r=.int .i64 (zaL c a)):=by
 refine F179_call ?_
 unfold F179
 have hf:=hc.f
 have h8:=hc.1.procs8
 have hl:=hf.len
 refine zal zbq rfl h0 e0 fun w1_ hx1_ hA2 hV2=>?_
 refine zaE (c.entry.length-1) (fun k us w'=>us=[.int .i64 (k:Int)]∧Ext w1_ w'∧(en c k≤a)) (0) (by omega) ⟨by simp,Ext.refl w1_,by rw [hf.zero];exact ha⟩ ?_
 rintro k m2 uu2 w2_ hk2 ⟨hu,hx2_,hinv⟩
 simp only [List.map_cons,List.map_nil,List.cons.injEq,and_true] at hu
 try rw [hu]
 try clear hu
 refine zah (by omega) ?_
 refine zaa zbn ?_
 refine zab zbk (zax hA2) hx2_ fun v9 h9=>?_
 have hln10:=zaf h9
 refine zae u25 h9 ?_
 refine zai ?_
 refine br (fun c1=>?_) (fun c1=>?_)
 · refine zaa zbn ?_
   refine zab zbk (zax hA2) hx2_ fun v14 h14=>?_
   refine zah (by omega) ?_
   refine zad u25 ty3 h14 (by omega) fun b17 o17 h17=>?_
   refine zac ty3 h17 hx2_ fun hI18=>?_
   refine zcO ?_
   refine br (fun c2=>?_) (fun c2=>?_)
   · refine zah (by omega) ?_
     refine ⟨m2-1,by omega,k+1,by omega,by simp,hx2_,?_⟩
     rwa [zbU] at c2
   refine ⟨(hx1_.trans hx2_),?_⟩
   rw [zbU] at c2
   rw [hf.proc (i:=k) (by omega) hinv (by rw [hf.step (by omega)];omega)]
 refine ⟨(hx1_.trans hx2_),?_⟩
 rw [hf.proc (i:=k) (by omega) hinv (by rw [hf.last (by omega)];omega)]
def st (l:List Int) (i:Nat):Int:=l.getD i 0
theorem ze8 {l:List Int} {i:Nat} (h:i<l.length):l[i]=st l i:=by unfold st;rw [List.getD_eq_getElem?_getD,List.getElem?_eq_getElem h];rfl
def zbD (c:DCode) (l:List Int):Prop:=l.length≤8∧(∀ i,i<l.length→0≤st l i∧st l i<c.ins.length) ∧
 ∀ i,i<l.length-1→(zbo c (st l i).toNat).op=4∧zaL c (st l (i+1))=(zbo c (st l i).toNat).arg
instance (c:DCode) (l:List Int):Decidable (zbD c l):=by unfold zbD;infer_instance
def F196 (a0 a1:Value) (w:World) (R:VW):Prop:=
 oP (Instr.box 28 a0) w fun x2 w=>
 rN 25 3 a1 w fun x9=>
 rB .gtr 3 T0 U0 x9 (iV 8) w fun x10=>
 BR x10
 (R (Value.bool false) w)
 (LOOPI [5] [(iV 0)] w fun u4 w next4=>
 rN 25 3 a1 w fun x13=>
 rC (u4 5) x13 w fun x14=>
 BR x14
 ((fun w=>rX 25 a1 (u4 5) w fun x19=>
 rL 3 x19 w fun x20=>
 rF 28 x2 4 w fun x21=>
 rL 26 x21 w fun x22=>
 rN 26 3 x22 w fun x23=>
 rB .sub 3 T0 U0 x23 (iV 1) w fun x24=>
 cL 65 [x20,(iV 0),x24] w fun x25 w=>
 rD (Op.unary .not x25) w fun x26=>
 BR x26
 (R (Value.bool false) w)
 (rA (u4 5) (iV 1) w fun x16=>
 next4 [x16] w)) (World.drew1 w))
 (LOOPI [6] [(iV 0)] w fun u9 w next9=>
 rA (u9 6) (iV 1) w fun x28=>
 rN 25 3 a1 w fun x30=>
 rC x28 x30 w fun x31=>
 BR x31
 ((fun w=>rF 28 x2 4 w fun x34=>
 rL 26 x34 w fun x35=>
 rX 25 a1 (u9 6) w fun x38=>
 rL 3 x38 w fun x39=>
 rX 26 x35 x39 w fun x40=>
 rL 117 x40 w fun x41=>
 (fun w_=>oP (Instr.alloc 117 true (.tuple #[])) w_ fun x7 w=>
 Ext w_ w ∧
 (oS 117 x7 x41 w fun w=>
 (fun w=>rF 117 x7 0 w fun x42=>
 rL 3 x42 w fun x43=>
 rB .neq 3 T0 U0 x43 (iV 4) w fun x44=>
 BR x44
 (R (Value.bool false) w)
 (rL 28 x2 w fun x46=>
 rA (u9 6) (iV 1) w fun x49=>
 rX 25 a1 x49 w fun x50=>
 rL 3 x50 w fun x51=>
 rF 117 x7 1 w fun x53=>
 rL 3 x53 w fun x54=>
 (fun w_=>cL 151 [x46,x51] w_ fun x52 w=>
 Ext w_ w ∧
 rB .neq 3 T0 T0 x52 x54 w fun x55=>
 BR x55
 (R (Value.bool false) w)
 (rA (u9 6) (iV 1) w fun x33=>
 next9 [x33] w)) w)) (World.drew1 w))) w) (World.drew1 w))
 (R (Value.bool true) w)))
def cfg196:Cfg:=⟨extL,[],[(4,134215728,[5]),(9,144115187941638352,[6])],[(6,[0,1,2,3,4,5,6,7,8,9],0),(11,[0,1,2,3,4,5,6,7,8,9],256),(12,[0,1,2,3,4,5,6,7,8,9,11,12,10,13,14],1024)],[],[],[]⟩
theorem F196_call {a0 a1:Value} {w:World} {R:VW} (h:F196 a0 a1 w R):cL 196 [a0,a1] w R:=co (g:=cfg196) Tryz.func196 (by kernel_rfl) (by kernel_rfl) (by kernel_rfl) h
theorem zmD {w:World} {v0:Value} {W0:World} {c:DCode} {v1:Value} {W1:World} {l:(List Int)}  (h0:Is W0 v0 c) (e0:Ext W0 w) (h1:Is W1 v1 l) (e1:Ext W1 w)  :
   CALL Tryz.prog 196 [v0,v1] w fun r w'=>Ext w w'∧(r=.bool (decide (zbD c l))):=by
 refine F196_call ?_
 unfold F196
 have hln:=zaf h1
 refine zal zbq rfl h0 e0 fun w1_ hx1_ hA2 hV2=>?_
 have hln9:=zaf h1
 refine zae u25 h1 ?_
 refine zb0 ?_
 refine br (fun c1=>?_) (fun c1=>?_)
 · refine ⟨hx1_,?_⟩
   have:¬zbD c l:=fun h=>by have:=h.1;omega
   simp only [this,decide_false]
 refine zaE (l.length) (fun k us w'=>us=[.int .i64 (k:Int)]∧Ext w1_ w'∧(∀ i,i<k→0≤st l i∧st l i<c.ins.length)) (0) (by omega) ⟨by simp,Ext.refl w1_,fun i h=>by omega⟩ ?_
 rintro k m4 uu4 w2_ hk4 ⟨hu,hx2_,hpl⟩
 simp only [List.map_cons,List.map_nil,List.cons.injEq,and_true] at hu
 try rw [hu]
 try clear hu
 have hln13:=zaf h1
 refine zae u25 h1 ?_
 refine zai ?_
 refine br (fun c2=>?_) (fun c2=>?_)
 · have hx3_:=zaj w2_
   refine zad u25 ty3 h1 (by omega) fun b19 o19 h19=>?_
   refine zac ty3 h19 (e1.trans (hx1_.trans (hx2_.trans hx3_))) fun hI20=>?_
   refine zaa zba ?_
   refine zab zdN (zaq hA2) (hx2_.trans hx3_) fun v22 h22=>?_
   have hln23:=zaf h22
   refine zae u26 h22 ?_
   refine za2 (by unfold I64;have:=zaf h22;omega) ?_
   refine (zcw ).mono ?_
   rintro _ w4_ ⟨hx4_,rfl⟩
   refine zas ?_
   refine br (fun c3=>?_) (fun c3=>?_)
   · refine ⟨(hx1_.trans (hx2_.trans (hx3_.trans hx4_))),?_⟩
     rw [ze8] at c3
     have:¬zbD c l:=fun h=>c3 (by have:=h.2.1 k (by omega);omega)
     simp only [this,decide_false]
   refine zah (by omega) ?_
   refine ⟨m4-1,by omega,k+1,by omega,by simp,(hx2_.trans (hx3_.trans hx4_)),?_⟩
   rw [ze8] at c3
   exact zdr hpl (by omega)
 refine zaE (l.length) (fun q us w'=>us=[.int .i64 (q:Int)]∧Ext w2_ w'∧(∀ i,i<q→(zbo c (st l i).toNat).op=4∧zaL c (st l (i+1))=(zbo c (st l i).toNat).arg)) (0) (by omega) ⟨by simp,Ext.refl w2_,fun i h=>by omega⟩ ?_
 rintro q m9 uu9 w5_ hk9 ⟨hu,hx5_,hinv⟩
 simp only [List.map_cons,List.map_nil,List.cons.injEq,and_true] at hu
 try rw [hu]
 try clear hu
 refine zah (by omega) ?_
 have hln30:=zaf h1
 refine zae u25 h1 ?_
 refine zai ?_
 refine br (fun c4=>?_) (fun c4=>?_)
 · have hx6_:=zaj w5_
   refine zaa zba ?_
   refine zab zdN (zaq hA2) (hx2_.trans (hx5_.trans hx6_)) fun v35 h35=>?_
   refine zad u25 ty3 h1 (by omega) fun b38 o38 h38=>?_
   refine zac ty3 h38 (e1.trans (hx1_.trans (hx2_.trans (hx5_.trans hx6_)))) fun hI39=>?_
   rw [ze8]
   have hst:=hpl q (by omega)
   refine zat u26 zbS h35 (by omega) (by omega) fun b40 o40 h40=>?_
   refine zab zbS h40 (hx2_.trans (hx5_.trans hx6_)) fun v41 h41=>?_
   rw [zaO] at h41
   refine zrW zl5 rfl zbS rfl h41 (hx2_.trans (hx5_.trans hx6_)) fun w7_ hx7_ hA7 hV7=>?_
   have hx8_:=zaj w7_
   refine zaa za5 ?_
   refine zac ty3 (zaG hA7) hx8_ fun hI43=>?_
   refine zaM ?_
   refine br (fun c5=>?_) (fun c5=>?_)
   · refine ⟨(hx1_.trans (hx2_.trans (hx5_.trans (hx6_.trans (hx7_.trans hx8_))))),?_⟩
     have:¬zbD c l:=fun h=>c5 (h.2.2 q (by omega)).1
     simp only [this,decide_false]
   refine zan hV2 (hx2_.trans (hx5_.trans (hx6_.trans (hx7_.trans hx8_)))) ?_
   refine zah (by omega) ?_
   refine zad u25 ty3 h1 (by omega) fun b50 o50 h50=>?_
   refine zac ty3 h50 (e1.trans (hx1_.trans (hx2_.trans (hx5_.trans (hx6_.trans (hx7_.trans hx8_)))))) fun hI51=>?_
   refine zaa zbY ?_
   refine zac ty3 (za4 hA7) hx8_ fun hI54=>?_
   refine (zgQ h0 (e0.trans (hx1_.trans (hx2_.trans (hx5_.trans (hx6_.trans (hx7_.trans hx8_))))))).mono ?_
   rintro _ w9_ ⟨hx9_,rfl⟩
   refine ⟨hx9_,?_⟩
   refine zaM ?_
   refine br (fun c6=>?_) (fun c6=>?_)
   · refine ⟨(hx1_.trans (hx2_.trans (hx5_.trans (hx6_.trans (hx7_.trans (hx8_.trans hx9_)))))),?_⟩
     rw [ze8] at c6
     have:¬zbD c l:=fun h=>c6 (h.2.2 q (by omega)).2
     simp only [this,decide_false]
   refine zah (by omega) ?_
   refine ⟨m9-1,by omega,q+1,by omega,by simp,(hx5_.trans (hx6_.trans (hx7_.trans (hx8_.trans hx9_)))),?_⟩
   rw [ze8] at c6
   exact zdr hinv ⟨Decidable.not_not.1 c5,Decidable.not_not.1 c6⟩
 refine ⟨(hx1_.trans (hx2_.trans hx5_)),?_⟩
 have:zbD c l:=⟨by omega,fun i hi=>hpl i (by omega),fun i hi=>hinv i (by omega)⟩
 simp only [this,decide_true]
def F156 (a0 a1:Value) (w:World) (R:VW):Prop:=
 oP (Instr.box 28 a0) w fun x2 w=>
 rN 25 3 a1 w fun x8=>
 rB .gtr 3 T0 U0 x8 (iV 8) w fun x9=>
 BR x9
 (R (Value.bool false) w)
 (rN 25 3 a1 w fun x11=>
 LOOPI [12] [(iV 0)] w fun u4 w next4=>
 rC (u4 12) x11 w fun x13=>
 BR x13
 (rX 25 a1 (u4 12) w fun x15=>
 rL 3 x15 w fun x16=>
 rL 28 x2 w fun x17=>
 cL 72 [x17,x16] w fun x19 w=>
 rD (Op.unary .not x19) w fun x20=>
 BR x20
 (R (Value.bool false) w)
 (rA (u4 12) (iV 1) w fun x22=>
 rN 25 3 a1 w fun x24=>
 rB .eql 3 T0 T0 x22 x24 w fun x25=>
 BR x25
 (R (Value.bool true) w)
 ((fun w=>rF 28 x2 4 w fun x26=>
 rL 26 x26 w fun x27=>
 rX 26 x27 x16 w fun x29=>
 rF 117 x29 0 w fun x30=>
 rL 3 x30 w fun x31=>
 rB .neq 3 T0 U0 x31 (iV 4) w fun x32=>
 BR x32
 (R (Value.bool false) w)
 (rL 28 x2 w fun x34=>
 rA (u4 12) (iV 1) w fun x37=>
 rX 25 a1 x37 w fun x38=>
 rL 3 x38 w fun x39=>
 cL 72 [x34,x39] w fun x40 w=>
 rD (Op.unary .not x40) w fun x41=>
 BR x41
 (R (Value.bool false) w)
 (rL 28 x2 w fun x44=>
 rA (u4 12) (iV 1) w fun x47=>
 rX 25 a1 x47 w fun x48=>
 rL 3 x48 w fun x49=>
 rF 28 x2 4 w fun x51=>
 rL 26 x51 w fun x52=>
 rX 26 x52 x16 w fun x54=>
 rF 117 x54 1 w fun x55=>
 rL 3 x55 w fun x56=>
 (fun w_=>cL 179 [x44,x49] w_ fun x50 w=>
 Ext w_ w ∧
 rB .neq 3 T0 T0 x50 x56 w fun x57=>
 BR x57
 (R (Value.bool false) w)
 (rA (u4 12) (iV 1) w fun x59=>
 next4 [x59] w)) w))) (World.drew1 w))))
 (R (Value.bool true) w))
def cfg156:Cfg:=⟨extL,[],[(4,1152921504606842992,[12])],[(9,[0,1,2,3,4,5,6,7,8,9,10,11,12,13,14,15,16,17,18,19,20,21,22,23,25,26,27,28,29,30,24,31,32],16777216)],[],[],[]⟩
theorem F156_call {a0 a1:Value} {w:World} {R:VW} (h:F156 a0 a1 w R):cL 156 [a0,a1] w R:=co (g:=cfg156) Tryz.func156 (by kernel_rfl) (by kernel_rfl) (by kernel_rfl) h
theorem zkj {w:World} {v0:Value} {W0:World} {c:DCode} {v1:Value} {W1:World} {l:(List Int)}  (h0:Is W0 v0 c) (e0:Ext W0 w) (h1:Is W1 v1 l) (e1:Ext W1 w) (hc:CodeR c) :
   CALL Tryz.prog 156 [v0,v1] w fun r w'=>Ext w w'∧(r=.bool (decide (zbD c l))):=by
 refine F156_call ?_
 unfold F156
 have hln:=zaf h1
 refine zal zbq rfl h0 e0 fun w1_ hx1_ hA2 hV2=>?_
 have hln8:=zaf h1
 refine zae u25 h1 ?_
 refine zb0 ?_
 refine br (fun c1=>?_) (fun c1=>?_)
 · refine ⟨hx1_,?_⟩
   have:¬zbD c l:=fun h=>by have:=h.1;omega
   simp only [this,decide_false]
 have hln11:=zaf h1
 refine zae u25 h1 ?_
 refine zaE (l.length) (fun k us w'=>us=[.int .i64 (k:Int)]∧Ext w1_ w'∧(k≤l.length-1∧(∀ i,i<k→0≤st l i∧st l i<c.ins.length)∧∀ i,i<k→(zbo c (st l i).toNat).op=4∧zaL c (st l (i+1))=(zbo c (st l i).toNat).arg)) (0) (by omega) ⟨by simp,Ext.refl w1_,by omega,fun i h=>by omega,fun i h=>by omega⟩ ?_
 rintro k m4 uu4 w2_ hk4 ⟨hu,hx2_,hkl,hpl,hop⟩
 simp only [List.map_cons,List.map_nil,List.cons.injEq,and_true] at hu
 try rw [hu]
 try clear hu
 refine zai ?_
 refine br (fun c2=>?_) (fun c2=>?_)
 · refine zad u25 ty3 h1 (by omega) fun b15 o15 h15=>?_
   refine zac ty3 h15 (e1.trans (hx1_.trans hx2_)) fun hI16=>?_
   rw [ze8]
   refine zan hV2 hx2_ ?_
   refine (zdv h0 (e0.trans (hx1_.trans hx2_))).mono ?_
   rintro _ w3_ ⟨hx3_,rfl⟩
   refine zas ?_
   refine br (fun c3=>?_) (fun c3=>?_)
   · refine ⟨(hx1_.trans (hx2_.trans hx3_)),?_⟩
     have:¬zbD c l:=fun h=>c3 (by have:=h.2.1 k (by omega);omega)
     simp only [this,decide_false]
   refine zah (by omega) ?_
   have hln24:=zaf h1
   refine zae u25 h1 ?_
   refine zag ?_
   refine br (fun c4=>?_) (fun c4=>?_)
   · refine ⟨(hx1_.trans (hx2_.trans hx3_)),?_⟩
     have:zbD c l:=⟨by omega,fun i hi=>by
         by_cases e:i=k
         · subst e;omega
         exact hpl i (by omega),fun i hi=>hop i (by omega)⟩
     simp only [this,decide_true]
   have hx4_:=zaj w3_
   refine zaa zba ?_
   refine zab zdN (zaq hA2) (hx2_.trans (hx3_.trans hx4_)) fun v27 h27=>?_
   have hst1:0≤st l k∧st l k<c.ins.length:=by omega
   refine zat u26 zbS h27 (by omega) (by omega) fun b29 o29 h29=>?_
   refine zaa za5 ?_
   refine zac ty3 (zaG h29) (hx2_.trans (hx3_.trans hx4_)) fun hI31=>?_
   refine zaM ?_
   refine br (fun c5=>?_) (fun c5=>?_)
   · refine ⟨(hx1_.trans (hx2_.trans (hx3_.trans hx4_))),?_⟩
     rw [zaO] at c5
     have:¬zbD c l:=fun h=>c5 (h.2.2 k (by omega)).1
     simp only [this,decide_false]
   refine zan hV2 (hx2_.trans (hx3_.trans hx4_)) ?_
   refine zah (by omega) ?_
   refine zad u25 ty3 h1 (by omega) fun b38 o38 h38=>?_
   refine zac ty3 h38 (e1.trans (hx1_.trans (hx2_.trans (hx3_.trans hx4_)))) fun hI39=>?_
   refine (zdv h0 (e0.trans (hx1_.trans (hx2_.trans (hx3_.trans hx4_))))).mono ?_
   rintro _ w5_ ⟨hx5_,rfl⟩
   refine zas ?_
   refine br (fun c6=>?_) (fun c6=>?_)
   · refine ⟨(hx1_.trans (hx2_.trans (hx3_.trans (hx4_.trans hx5_)))),?_⟩
     rw [ze8] at c6
     have:¬zbD c l:=fun h=>c6 (by have:=h.2.1 (k+1) (by omega);omega)
     simp only [this,decide_false]
   refine zan hV2 (hx2_.trans (hx3_.trans (hx4_.trans hx5_))) ?_
   refine zah (by omega) ?_
   refine zad u25 ty3 h1 (by omega) fun b48 o48 h48=>?_
   refine zac ty3 h48 (e1.trans (hx1_.trans (hx2_.trans (hx3_.trans (hx4_.trans hx5_))))) fun hI49=>?_
   refine zaa zba ?_
   refine zab zdN (zaq hA2) (hx2_.trans (hx3_.trans (hx4_.trans hx5_))) fun v52 h52=>?_
   refine zat u26 zbS h52 (by omega) (by omega) fun b54 o54 h54=>?_
   refine zaa zbY ?_
   refine zac ty3 (za4 h54) (hx2_.trans (hx3_.trans (hx4_.trans hx5_))) fun hI56=>?_
   rw [ze8] at c6
   rw [ze8]
   refine (zpP h0 (e0.trans (hx1_.trans (hx2_.trans (hx3_.trans (hx4_.trans hx5_))))) (by assumption) (by omega) (by omega)).mono ?_
   rintro _ w6_ ⟨hx6_,rfl⟩
   refine ⟨hx6_,?_⟩
   refine zaM ?_
   refine br (fun c7=>?_) (fun c7=>?_)
   · refine ⟨(hx1_.trans (hx2_.trans (hx3_.trans (hx4_.trans (hx5_.trans hx6_))))),?_⟩
     rw [zaO] at c7
     have:¬zbD c l:=fun h=>c7 (h.2.2 k (by omega)).2
     simp only [this,decide_false]
   refine zah (by omega) ?_
   refine ⟨m4-1,by omega,k+1,by omega,by simp,(hx2_.trans (hx3_.trans (hx4_.trans (hx5_.trans hx6_)))),?_⟩
   rw [zaO] at c7 c5
   exact ⟨by omega,zdr hpl hst1,zdr hop ⟨Decidable.not_not.1 c5,Decidable.not_not.1 c7⟩⟩
 refine ⟨(hx1_.trans hx2_),?_⟩
 have:zbD c l:=⟨by omega,fun i hi=>hpl i (by omega),fun i hi=>hop i (by omega)⟩
 simp only [this,decide_true]
def zaz (c:DCode) (s:DState):Prop:=s.vars.length=c.globals.length∧s.owner.length=c.locks.length∧(1≤s.stacks.length∧s.stacks.length≤6)∧(∀ v∈s.vars,0≤v∧v≤999) ∧
 (∀ o∈s.owner,-1≤o∧o<s.stacks.length)∧∀ l∈s.stacks,zbD c l
instance (c:DCode) (s:DState):Decidable (zaz c s):=by unfold zaz;infer_instance
theorem zfu {α:Type} {P:α→Prop} {l:List α} {k:Nat} (hk:k<l.length) (h:∀ x∈l.take k,P x) (hp:P l[k]):∀ x∈l.take (k+1),P x:=by
 intro x hx
 rw [List.take_succ_eq_append_getElem hk] at hx
 rcases List.mem_append.1 hx with hx | hx
 · exact h x hx
 simp only [List.mem_cons,List.not_mem_nil,or_false] at hx
 subst hx;exact hp
theorem zha {α:Type} {P:α→Prop} {l:List α} {k:Nat} (hk:l.length≤k) (h:∀ x∈l.take k,P x):∀ x∈l,P x:=by
 rwa [List.take_of_length_le hk] at h
def F120 (a0 a1:Value) (w:World) (R:VW):Prop:=
 oP (Instr.box 28 a0) w fun x2 w=>
 oP (Instr.box 31 a1) w fun x3 w=>
 rF 31 x3 0 w fun x8=>
 rL 25 x8 w fun x9=>
 rN 25 3 x9 w fun x10=>
 rF 28 x2 0 w fun x11=>
 rL 24 x11 w fun x12=>
 rN 24 3 x12 w fun x13=>
 rB .neq 3 T0 T0 x10 x13 w fun x14=>
 BR x14
 (R (Value.bool false) w)
 (rF 31 x3 1 w fun x16=>
 rL 25 x16 w fun x17=>
 rN 25 3 x17 w fun x18=>
 rF 28 x2 1 w fun x19=>
 rL 24 x19 w fun x20=>
 rN 24 3 x20 w fun x21=>
 rB .neq 3 T0 T0 x18 x21 w fun x22=>
 BR x22
 (R (Value.bool false) w)
 (rF 31 x3 2 w fun x25=>
 rL 29 x25 w fun x26=>
 rN 29 3 x26 w fun x27=>
 cL 65 [x27,(iV 1),(iV 6)] w fun x28 w=>
 rD (Op.unary .not x28) w fun x29=>
 BR x29
 (R (Value.bool false) w)
 (LOOPI [5] [(iV 0)] w fun u4 w next4=>
 rF 31 x3 0 w fun x32=>
 rL 25 x32 w fun x33=>
 rN 25 3 x33 w fun x34=>
 rC (u4 5) x34 w fun x35=>
 BR x35
 (rF 31 x3 0 w fun x38=>
 rL 25 x38 w fun x39=>
 rX 25 x39 (u4 5) w fun x41=>
 rL 3 x41 w fun x42=>
 cL 65 [x42,(iV 0),(iV 999)] w fun x43 w=>
 rD (Op.unary .not x43) w fun x44=>
 BR x44
 (R (Value.bool false) w)
 (rA (u4 5) (iV 1) w fun x37=>
 next4 [x37] w))
 (LOOPI [6] [(iV 0)] w fun u9 w next9=>
 rF 31 x3 1 w fun x46=>
 rL 25 x46 w fun x47=>
 rN 25 3 x47 w fun x48=>
 rC (u9 6) x48 w fun x49=>
 BR x49
 ((fun w=>rF 31 x3 1 w fun x52=>
 rL 25 x52 w fun x53=>
 rX 25 x53 (u9 6) w fun x55=>
 rL 3 x55 w fun x56=>
 rF 31 x3 2 w fun x57=>
 rL 29 x57 w fun x58=>
 rN 29 3 x58 w fun x59=>
 rB .sub 3 T0 U0 x59 (iV 1) w fun x60=>
 cL 65 [x56,(iV (-1)),x60] w fun x61 w=>
 rD (Op.unary .not x61) w fun x62=>
 BR x62
 (R (Value.bool false) w)
 (rA (u9 6) (iV 1) w fun x51=>
 next9 [x51] w)) (World.drew1 w))
 (LOOPI [7] [(iV 0)] w fun u14 w next14=>
 rF 31 x3 2 w fun x64=>
 rL 29 x64 w fun x65=>
 rN 29 3 x65 w fun x66=>
 rC (u14 7) x66 w fun x67=>
 BR x67
 ((fun w=>rL 28 x2 w fun x70=>
 rF 31 x3 2 w fun x71=>
 rL 29 x71 w fun x72=>
 rX 29 x72 (u14 7) w fun x74=>
 rL 25 x74 w fun x75=>
 cL 196 [x70,x75] w fun x76 w=>
 rD (Op.unary .not x76) w fun x77=>
 BR x77
 (R (Value.bool false) w)
 (rA (u14 7) (iV 1) w fun x69=>
 next14 [x69] w)) (World.drew1 w))
 (R (Value.bool true) w))))))
def cfg120:Cfg:=⟨extL,[],[(4,35182224605232,[5]),(9,9223336852482687056,[6]),(14,302222231531620438900880,[7])],[(11,[0,1,2,3,4,5,6,7,8,9,10],0),(16,[0,1,2,3,4,5,6,7],0)],[],[],[]⟩
theorem F120_call {a0 a1:Value} {w:World} {R:VW} (h:F120 a0 a1 w R):cL 120 [a0,a1] w R:=co (g:=cfg120) Tryz.func120 (by kernel_rfl) (by kernel_rfl) (by kernel_rfl) h
theorem zmE {w:World} {v0:Value} {W0:World} {c:DCode} {v1:Value} {W1:World} {s:DState}  (h0:Is W0 v0 c) (e0:Ext W0 w) (h1:Is W1 v1 s) (e1:Ext W1 w)  :
   CALL Tryz.prog 120 [v0,v1] w fun r w'=>Ext w w'∧(r=.bool (decide (zaz c s))):=by
 refine F120_call ?_
 unfold F120
 refine zal zbq rfl h0 e0 fun w1_ hx1_ hA2 hV2=>?_
 refine zal zbM rfl h1 (e1.trans hx1_) fun w2_ hx2_ hA3 hV3=>?_
 refine zaa zgd ?_
 refine zab zbk (zcf hA3) (Ext.refl w2_) fun v9 h9=>?_
 have hln10:=zaf h9
 refine zae u25 h9 ?_
 refine zaa zcQ ?_
 refine zab zcP (zaW hA2) hx2_ fun v12 h12=>?_
 have hln13:=zaf h12
 refine zae u24 h12 ?_
 refine zaM ?_
 refine br (fun c1=>?_) (fun c1=>?_)
 · refine ⟨(hx1_.trans hx2_),?_⟩
   have:¬zaz c s:=fun h=>by have:=h.1;omega
   simp only [this,decide_false]
 refine zaa zcA ?_
 refine zab zbk (zbd hA3) (Ext.refl w2_) fun v17 h17=>?_
 have hln18:=zaf h17
 refine zae u25 h17 ?_
 refine zaa ze0 ?_
 refine zab zcP (zbO hA2) hx2_ fun v20 h20=>?_
 have hln21:=zaf h20
 refine zae u24 h20 ?_
 refine zaM ?_
 refine br (fun c2=>?_) (fun c2=>?_)
 · refine ⟨(hx1_.trans hx2_),?_⟩
   have:¬zaz c s:=fun h=>by have:=h.2.1;omega
   simp only [this,decide_false]
 refine zaa zaT ?_
 refine zab zdJ (zau hA3) (Ext.refl w2_) fun v26 h26=>?_
 have hln27:=zaf h26
 refine zae u29 h26 ?_
 refine (zcw ).mono ?_
 rintro _ w3_ ⟨hx3_,rfl⟩
 refine zas ?_
 refine br (fun c3=>?_) (fun c3=>?_)
 · refine ⟨(hx1_.trans (hx2_.trans hx3_)),?_⟩
   have:¬zaz c s:=fun h=>by have:=h.2.2.1;omega
   simp only [this,decide_false]
 refine zaE (s.vars.length) (fun k us w'=>us=[.int .i64 (k:Int)]∧Ext w3_ w'∧(∀ v∈s.vars.take k,0≤v∧v≤999)) (0) (by omega) ⟨by simp,Ext.refl w3_,by simp⟩ ?_
 rintro k m4 uu4 w4_ hk4 ⟨hu,hx4_,hv1⟩
 simp only [List.map_cons,List.map_nil,List.cons.injEq,and_true] at hu
 try rw [hu]
 try clear hu
 refine zaa zgd ?_
 refine zab zbk (zcf hA3) (hx3_.trans hx4_) fun v33 h33=>?_
 have hln34:=zaf h33
 refine zae u25 h33 ?_
 refine zai ?_
 refine br (fun c4=>?_) (fun c4=>?_)
 · refine zaa zgd ?_
   refine zab zbk (zcf hA3) (hx3_.trans hx4_) fun v39 h39=>?_
   refine zad u25 ty3 h39 (by omega) fun b41 o41 h41=>?_
   refine zac ty3 h41 (hx3_.trans hx4_) fun hI42=>?_
   refine (zcw ).mono ?_
   rintro _ w5_ ⟨hx5_,rfl⟩
   refine zas ?_
   refine br (fun c5=>?_) (fun c5=>?_)
   · refine ⟨(hx1_.trans (hx2_.trans (hx3_.trans (hx4_.trans hx5_)))),?_⟩
     have:¬zaz c s:=fun h=>c5 (h.2.2.2.1 _ (List.getElem_mem _))
     simp only [this,decide_false]
   refine zah (by omega) ?_
   refine ⟨m4-1,by omega,k+1,by omega,by simp,(hx4_.trans hx5_),?_⟩
   exact zfu (by omega) hv1 (Decidable.not_not.1 c5)
 refine zaE (s.owner.length) (fun q us w'=>us=[.int .i64 (q:Int)]∧Ext w4_ w'∧(∀ o∈s.owner.take q,-1≤o∧o<s.stacks.length)) (0) (by omega) ⟨by simp,Ext.refl w4_,by simp⟩ ?_
 rintro q m9 uu9 w6_ hk9 ⟨hu,hx6_,hv2⟩
 simp only [List.map_cons,List.map_nil,List.cons.injEq,and_true] at hu
 try rw [hu]
 try clear hu
 refine zaa zcA ?_
 refine zab zbk (zbd hA3) (hx3_.trans (hx4_.trans hx6_)) fun v47 h47=>?_
 have hln48:=zaf h47
 refine zae u25 h47 ?_
 refine zai ?_
 refine br (fun c6=>?_) (fun c6=>?_)
 · have hx7_:=zaj w6_
   refine zaa zcA ?_
   refine zab zbk (zbd hA3) (hx3_.trans (hx4_.trans (hx6_.trans hx7_))) fun v53 h53=>?_
   refine zad u25 ty3 h53 (by omega) fun b55 o55 h55=>?_
   refine zac ty3 h55 (hx3_.trans (hx4_.trans (hx6_.trans hx7_))) fun hI56=>?_
   refine zaa zaT ?_
   refine zab zdJ (zau hA3) (hx3_.trans (hx4_.trans (hx6_.trans hx7_))) fun v58 h58=>?_
   have hln59:=zaf h58
   refine zae u29 h58 ?_
   refine za2 (by unfold I64;have:=zaf h58;omega) ?_
   refine (zcw ).mono ?_
   rintro _ w8_ ⟨hx8_,rfl⟩
   refine zas ?_
   refine br (fun c7=>?_) (fun c7=>?_)
   · refine ⟨(hx1_.trans (hx2_.trans (hx3_.trans (hx4_.trans (hx6_.trans (hx7_.trans hx8_)))))),?_⟩
     have:¬zaz c s:=fun h=>c7 (by have:=h.2.2.2.2.1 _ (List.getElem_mem (n:=q) (by omega));omega)
     simp only [this,decide_false]
   refine zah (by omega) ?_
   refine ⟨m9-1,by omega,q+1,by omega,by simp,(hx6_.trans (hx7_.trans hx8_)),?_⟩
   exact zfu (by omega) hv2 (by omega)
 refine zaE (s.stacks.length) (fun p us w'=>us=[.int .i64 (p:Int)]∧Ext w6_ w'∧(∀ l∈s.stacks.take p,zbD c l)) (0) (by omega) ⟨by simp,Ext.refl w6_,by simp⟩ ?_
 rintro p m14 uu14 w9_ hk14 ⟨hu,hx9_,hv3⟩
 simp only [List.map_cons,List.map_nil,List.cons.injEq,and_true] at hu
 try rw [hu]
 try clear hu
 refine zaa zaT ?_
 refine zab zdJ (zau hA3) (hx3_.trans (hx4_.trans (hx6_.trans hx9_))) fun v65 h65=>?_
 have hln66:=zaf h65
 refine zae u29 h65 ?_
 refine zai ?_
 refine br (fun c8=>?_) (fun c8=>?_)
 · have hx10_:=zaj w9_
   refine zan hV2 (hx2_.trans (hx3_.trans (hx4_.trans (hx6_.trans (hx9_.trans hx10_))))) ?_
   refine zaa zaT ?_
   refine zab zdJ (zau hA3) (hx3_.trans (hx4_.trans (hx6_.trans (hx9_.trans hx10_)))) fun v72 h72=>?_
   refine zad u29 zbk h72 (by omega) fun b74 o74 h74=>?_
   refine zab zbk h74 (hx3_.trans (hx4_.trans (hx6_.trans (hx9_.trans hx10_)))) fun v75 h75=>?_
   refine (zmD h0 (e0.trans (hx1_.trans (hx2_.trans (hx3_.trans (hx4_.trans (hx6_.trans (hx9_.trans hx10_))))))) h75 (hx3_.trans (hx4_.trans (hx6_.trans (hx9_.trans hx10_))))).mono ?_
   rintro _ w11_ ⟨hx11_,rfl⟩
   refine zas ?_
   refine br (fun c9=>?_) (fun c9=>?_)
   · refine ⟨(hx1_.trans (hx2_.trans (hx3_.trans (hx4_.trans (hx6_.trans (hx9_.trans (hx10_.trans hx11_))))))),?_⟩
     have:¬zaz c s:=fun h=>c9 (h.2.2.2.2.2 _ (List.getElem_mem _))
     simp only [this,decide_false]
   refine zah (by omega) ?_
   refine ⟨m14-1,by omega,p+1,by omega,by simp,(hx9_.trans (hx10_.trans hx11_)),?_⟩
   exact zfu (by omega) hv3 (Decidable.not_not.1 c9)
 refine ⟨(hx1_.trans (hx2_.trans (hx3_.trans (hx4_.trans (hx6_.trans hx9_))))),?_⟩
 have:zaz c s:=⟨by omega,by omega,by omega,zha (by omega) hv1,zha (by omega) hv2,zha (by omega) hv3⟩
 simp only [this,decide_true]
def F64 (a0 a1:Value) (w:World) (R:VW):Prop:=
 oP (Instr.box 28 a0) w fun x2 w=>
 oP (Instr.box 31 a1) w fun x3 w=>
 rL 28 x2 w fun x5=>
 cL 81 [x5] w fun x6 w=>
 BR x6
 (rL 28 x2 w fun x8=>
 rL 31 x3 w fun x9=>
 cL 120 [x8,x9] w fun x10 w=>
 R x10 w)
 (R (Value.bool false) w)
def cfg64:Cfg:=⟨extL,[],[],[],[],[],[]⟩
theorem F64_call {a0 a1:Value} {w:World} {R:VW} (h:F64 a0 a1 w R):cL 64 [a0,a1] w R:=co (g:=cfg64) Tryz.func64 (by kernel_rfl) (by kernel_rfl) (by kernel_rfl) h
theorem zda {w:World} {v0:Value} {W0:World} {c:DCode} {v1:Value} {W1:World} {s:DState}  (h0:Is W0 v0 c) (e0:Ext W0 w) (h1:Is W1 v1 s) (e1:Ext W1 w)  :
   CALL Tryz.prog 64 [v0,v1] w fun r w'=>Ext w w'∧(r=.bool (decide (CodeR c∧zaz c s))):=by
 refine F64_call ?_
 unfold F64
 refine zal zbq rfl h0 e0 fun w1_ hx1_ hA2 hV2=>?_
 refine zal zbM rfl h1 (e1.trans hx1_) fun w2_ hx2_ hA3 hV3=>?_
 refine zan hV2 hx2_ ?_
 refine (zgk h0 (e0.trans (hx1_.trans hx2_))).mono ?_
 rintro _ w3_ ⟨hx3_,rfl⟩
 refine br (fun c1=>?_) (fun c1=>?_)
 · refine zan hV2 (hx2_.trans hx3_) ?_
   refine zan hV3 hx3_ ?_
   refine (zmE h0 (e0.trans (hx1_.trans (hx2_.trans hx3_))) h1 (e1.trans (hx1_.trans (hx2_.trans hx3_)))).mono ?_
   rintro _ w4_ ⟨hx4_,rfl⟩
   refine ⟨(hx1_.trans (hx2_.trans (hx3_.trans hx4_))),?_⟩
   simp [c1]
 refine ⟨(hx1_.trans (hx2_.trans hx3_)),?_⟩
 simp [c1]
def F85 (a0 a1:Value) (w:World) (R:VW):Prop:=
 oP (Instr.box 28 a0) w fun x2 w=>
 oP (Instr.box 31 a1) w fun x3 w=>
 rF 31 x3 2 w fun x12=>
 rL 29 x12 w fun x13=>
 rN 29 3 x13 w fun x14=>
 rF 31 x3 0 w fun x15=>
 rL 25 x15 w fun x16=>
 rN 25 3 x16 w fun x17=>
 rF 28 x2 0 w fun x18=>
 rL 24 x18 w fun x19=>
 rN 24 3 x19 w fun x20=>
 rB .neq 3 T0 T0 x17 x20 w fun x21=>
 BR x21
 (R (Value.bool false) w)
 (rF 31 x3 1 w fun x23=>
 rL 25 x23 w fun x24=>
 rN 25 3 x24 w fun x25=>
 rF 28 x2 1 w fun x26=>
 rL 24 x26 w fun x27=>
 rN 24 3 x27 w fun x28=>
 rB .neq 3 T0 T0 x25 x28 w fun x29=>
 BR x29
 (R (Value.bool false) w)
 (rB .lss 3 T0 U0 x14 (iV 1) w fun x33=>
 BR x33
 (R (Value.bool false) w)
 (rB .gtr 3 T0 U0 x14 (iV 6) w fun x37=>
 BR x37
 (R (Value.bool false) w)
 (rF 31 x3 0 w fun x39=>
 rL 25 x39 w fun x40=>
 rN 25 3 x40 w fun x41=>
 LOOPI [42] [(iV 0)] w fun u5 w next5=>
 rC (u5 42) x41 w fun x43=>
 BR x43
 (rX 25 x40 (u5 42) w fun x44=>
 rL 3 x44 w fun x45=>
 rB .lss 3 T0 U0 x45 (iV 0) w fun x47=>
 BR x47
 (R (Value.bool false) w)
 (rB .gtr 3 T0 U0 x45 (iV 999) w fun x50=>
 BR x50
 (R (Value.bool false) w)
 (rA (u5 42) (iV 1) w fun x52=>
 next5 [x52] w)))
 (rF 31 x3 1 w fun x53=>
 rL 25 x53 w fun x54=>
 rN 25 3 x54 w fun x55=>
 LOOPI [56] [(iV 0)] w fun u11 w next11=>
 rC (u11 56) x55 w fun x57=>
 BR x57
 (rX 25 x54 (u11 56) w fun x58=>
 rL 3 x58 w fun x59=>
 rB .lss 3 T0 U0 x59 (iV (-1)) w fun x61=>
 BR x61
 (R (Value.bool false) w)
 (rB .geq 3 T0 T0 x59 x14 w fun x65=>
 BR x65
 (R (Value.bool false) w)
 (rA (u11 56) (iV 1) w fun x67=>
 next11 [x67] w)))
 (rF 31 x3 2 w fun x68=>
 rL 29 x68 w fun x69=>
 rN 29 3 x69 w fun x70=>
 LOOPI [71] [(iV 0)] w fun u17 w next17=>
 rC (u17 71) x70 w fun x72=>
 BR x72
 (rX 29 x69 (u17 71) w fun x73=>
 rL 25 x73 w fun x74=>
 rL 28 x2 w fun x75=>
 cL 156 [x75,x74] w fun x77 w=>
 rD (Op.unary .not x77) w fun x78=>
 BR x78
 (R (Value.bool false) w)
 (rA (u17 71) (iV 1) w fun x79=>
 next17 [x79] w))
 (R (Value.bool true) w)))))))
def cfg85:Cfg:=⟨extL,[],[(5,9002801208230032,[42]),(11,295075847585314898448,[56]),(17,1206564636373194352101392,[71])],[],[],[],[]⟩
theorem F85_call {a0 a1:Value} {w:World} {R:VW} (h:F85 a0 a1 w R):cL 85 [a0,a1] w R:=co (g:=cfg85) Tryz.func85 (by kernel_rfl) (by kernel_rfl) (by kernel_rfl) h
theorem zkk {w:World} {v0:Value} {W0:World} {c:DCode} {v1:Value} {W1:World} {s:DState}  (h0:Is W0 v0 c) (e0:Ext W0 w) (h1:Is W1 v1 s) (e1:Ext W1 w) (hc:CodeR c) :
   CALL Tryz.prog 85 [v0,v1] w fun r w'=>Ext w w'∧(r=.bool (decide (zaz c s))):=by
 refine F85_call ?_
 unfold F85
 refine zal zbq rfl h0 e0 fun w1_ hx1_ hA2 hV2=>?_
 refine zal zbM rfl h1 (e1.trans hx1_) fun w2_ hx2_ hA3 hV3=>?_
 refine zaa zaT ?_
 refine zab zdJ (zau hA3) (Ext.refl w2_) fun v13 h13=>?_
 have hln14:=zaf h13
 refine zae u29 h13 ?_
 refine zaa zgd ?_
 refine zab zbk (zcf hA3) (Ext.refl w2_) fun v16 h16=>?_
 have hln17:=zaf h16
 refine zae u25 h16 ?_
 refine zaa zcQ ?_
 refine zab zcP (zaW hA2) hx2_ fun v19 h19=>?_
 have hln20:=zaf h19
 refine zae u24 h19 ?_
 refine zaM ?_
 refine br (fun c1=>?_) (fun c1=>?_)
 · refine ⟨(hx1_.trans hx2_),?_⟩
   have:¬zaz c s:=fun h=>by have:=h.1;omega
   simp only [this,decide_false]
 refine zaa zcA ?_
 refine zab zbk (zbd hA3) (Ext.refl w2_) fun v24 h24=>?_
 have hln25:=zaf h24
 refine zae u25 h24 ?_
 refine zaa ze0 ?_
 refine zab zcP (zbO hA2) hx2_ fun v27 h27=>?_
 have hln28:=zaf h27
 refine zae u24 h27 ?_
 refine zaM ?_
 refine br (fun c2=>?_) (fun c2=>?_)
 · refine ⟨(hx1_.trans hx2_),?_⟩
   have:¬zaz c s:=fun h=>by have:=h.2.1;omega
   simp only [this,decide_false]
 refine zai ?_
 refine br (fun c3=>?_) (fun c3=>?_)
 · refine ⟨(hx1_.trans hx2_),?_⟩
   have:¬zaz c s:=fun h=>by have:=h.2.2.1;omega
   simp only [this,decide_false]
 refine zb0 ?_
 refine br (fun c4=>?_) (fun c4=>?_)
 · refine ⟨(hx1_.trans hx2_),?_⟩
   have:¬zaz c s:=fun h=>by have:=h.2.2.1;omega
   simp only [this,decide_false]
 refine zaa zgd ?_
 refine zab zbk (zcf hA3) (Ext.refl w2_) fun v40 h40=>?_
 have hln41:=zaf h40
 refine zae u25 h40 ?_
 refine zaE (s.vars.length) (fun k us w'=>us=[.int .i64 (k:Int)]∧Ext w2_ w'∧(∀ v∈s.vars.take k,0≤v∧v≤999)) (0) (by omega) ⟨by simp,Ext.refl w2_,by simp⟩ ?_
 rintro k m5 uu5 w3_ hk5 ⟨hu,hx3_,hv1⟩
 simp only [List.map_cons,List.map_nil,List.cons.injEq,and_true] at hu
 try rw [hu]
 try clear hu
 refine zai ?_
 refine br (fun c5=>?_) (fun c5=>?_)
 · refine zad u25 ty3 h40 (by omega) fun b44 o44 h44=>?_
   refine zac ty3 h44 hx3_ fun hI45=>?_
   refine zai ?_
   refine br (fun c6=>?_) (fun c6=>?_)
   · refine ⟨(hx1_.trans (hx2_.trans hx3_)),?_⟩
     have:¬zaz c s:=fun h=>by have:=h.2.2.2.1 _ (List.getElem_mem (n:=k) (by omega));omega
     simp only [this,decide_false]
   refine zb0 ?_
   refine br (fun c7=>?_) (fun c7=>?_)
   · refine ⟨(hx1_.trans (hx2_.trans hx3_)),?_⟩
     have:¬zaz c s:=fun h=>by have:=h.2.2.2.1 _ (List.getElem_mem (n:=k) (by omega));omega
     simp only [this,decide_false]
   refine zah (by omega) ?_
   refine ⟨m5-1,by omega,k+1,by omega,by simp,hx3_,?_⟩
   exact zfu (by omega) hv1 (by omega)
 refine zaa zcA ?_
 refine zab zbk (zbd hA3) hx3_ fun v54 h54=>?_
 have hln55:=zaf h54
 refine zae u25 h54 ?_
 refine zaE (s.owner.length) (fun q us w'=>us=[.int .i64 (q:Int)]∧Ext w3_ w'∧(∀ o∈s.owner.take q,-1≤o∧o<s.stacks.length)) (0) (by omega) ⟨by simp,Ext.refl w3_,by simp⟩ ?_
 rintro q m11 uu11 w4_ hk11 ⟨hu,hx4_,hv2⟩
 simp only [List.map_cons,List.map_nil,List.cons.injEq,and_true] at hu
 try rw [hu]
 try clear hu
 refine zai ?_
 refine br (fun c8=>?_) (fun c8=>?_)
 · refine zad u25 ty3 h54 (by omega) fun b58 o58 h58=>?_
   refine zac ty3 h58 (hx3_.trans hx4_) fun hI59=>?_
   refine zai ?_
   refine br (fun c9=>?_) (fun c9=>?_)
   · refine ⟨(hx1_.trans (hx2_.trans (hx3_.trans hx4_))),?_⟩
     have:¬zaz c s:=fun h=>by have:=h.2.2.2.2.1 _ (List.getElem_mem (n:=q) (by omega));omega
     simp only [this,decide_false]
   refine zb1 ?_
   refine br (fun c10=>?_) (fun c10=>?_)
   · refine ⟨(hx1_.trans (hx2_.trans (hx3_.trans hx4_))),?_⟩
     have:¬zaz c s:=fun h=>by have:=h.2.2.2.2.1 _ (List.getElem_mem (n:=q) (by omega));omega
     simp only [this,decide_false]
   refine zah (by omega) ?_
   refine ⟨m11-1,by omega,q+1,by omega,by simp,hx4_,?_⟩
   exact zfu (by omega) hv2 (by omega)
 refine zaa zaT ?_
 refine zab zdJ (zau hA3) (hx3_.trans hx4_) fun v69 h69=>?_
 have hln70:=zaf h69
 refine zae u29 h69 ?_
 refine zaE (s.stacks.length) (fun p us w'=>us=[.int .i64 (p:Int)]∧Ext w4_ w'∧(∀ l∈s.stacks.take p,zbD c l)) (0) (by omega) ⟨by simp,Ext.refl w4_,by simp⟩ ?_
 rintro p m17 uu17 w5_ hk17 ⟨hu,hx5_,hv3⟩
 simp only [List.map_cons,List.map_nil,List.cons.injEq,and_true] at hu
 try rw [hu]
 try clear hu
 refine zai ?_
 refine br (fun c11=>?_) (fun c11=>?_)
 · refine zad u29 zbk h69 (by omega) fun b73 o73 h73=>?_
   refine zab zbk h73 (hx3_.trans (hx4_.trans hx5_)) fun v74 h74=>?_
   refine zan hV2 (hx2_.trans (hx3_.trans (hx4_.trans hx5_))) ?_
   refine (zkj h0 (e0.trans (hx1_.trans (hx2_.trans (hx3_.trans (hx4_.trans hx5_))))) h74 (hx3_.trans (hx4_.trans hx5_)) (by assumption)).mono ?_
   rintro _ w6_ ⟨hx6_,rfl⟩
   refine zas ?_
   refine br (fun c12=>?_) (fun c12=>?_)
   · refine ⟨(hx1_.trans (hx2_.trans (hx3_.trans (hx4_.trans (hx5_.trans hx6_))))),?_⟩
     have:¬zaz c s:=fun h=>c12 (h.2.2.2.2.2 _ (List.getElem_mem _))
     simp only [this,decide_false]
   refine zah (by omega) ?_
   refine ⟨m17-1,by omega,p+1,by omega,by simp,(hx5_.trans hx6_),?_⟩
   exact zfu (by omega) hv3 (Decidable.not_not.1 c12)
 refine ⟨(hx1_.trans (hx2_.trans (hx3_.trans (hx4_.trans hx5_)))),?_⟩
 have:zaz c s:=⟨by omega,by omega,by omega,zha (by omega) hv1,zha (by omega) hv2,zha (by omega) hv3⟩
 simp only [this,decide_true]
def F60 (a0 a1:Value) (w:World) (R:VW):Prop:=
 oP (Instr.box 28 a0) w fun x2 w=>
 oP (Instr.box 31 a1) w fun x3 w=>
 rL 28 x2 w fun x5=>
 cL 73 [x5] w fun x6 w=>
 BR x6
 (rL 28 x2 w fun x8=>
 rL 31 x3 w fun x9=>
 cL 85 [x8,x9] w fun x10 w=>
 R x10 w)
 (R (Value.bool false) w)
def cfg60:Cfg:=⟨extL,[],[],[],[],[],[]⟩
theorem F60_call {a0 a1:Value} {w:World} {R:VW} (h:F60 a0 a1 w R):cL 60 [a0,a1] w R:=co (g:=cfg60) Tryz.func60 (by kernel_rfl) (by kernel_rfl) (by kernel_rfl) h
theorem zb8 {w:World} {v0:Value} {W0:World} {c:DCode} {v1:Value} {W1:World} {s:DState}  (h0:Is W0 v0 c) (e0:Ext W0 w) (h1:Is W1 v1 s) (e1:Ext W1 w)  :
   CALL Tryz.prog 60 [v0,v1] w fun r w'=>Ext w w'∧(r=.bool (decide (CodeR c∧zaz c s))):=by
 refine F60_call ?_
 unfold F60
 refine zal zbq rfl h0 e0 fun w1_ hx1_ hA2 hV2=>?_
 refine zal zbM rfl h1 (e1.trans hx1_) fun w2_ hx2_ hA3 hV3=>?_
 refine zan hV2 hx2_ ?_
 refine (zgl h0 (e0.trans (hx1_.trans hx2_))).mono ?_
 rintro _ w3_ ⟨hx3_,rfl⟩
 refine br (fun c1=>?_) (fun c1=>?_)
 · refine zan hV2 (hx2_.trans hx3_) ?_
   refine zan hV3 hx3_ ?_
   refine (zkk h0 (e0.trans (hx1_.trans (hx2_.trans hx3_))) h1 (e1.trans (hx1_.trans (hx2_.trans hx3_))) (by assumption)).mono ?_
   rintro _ w4_ ⟨hx4_,rfl⟩
   refine ⟨(hx1_.trans (hx2_.trans (hx3_.trans hx4_))),?_⟩
   simp [c1]
 refine ⟨(hx1_.trans (hx2_.trans hx3_)),?_⟩
 simp [c1]
def zrB (s:DState):Prop:=∀ x∈s.stacks,x=[]
instance (s:DState):Decidable (zrB s):=inferInstanceAs (Decidable (∀ x∈s.stacks,x=[]))
end Go.Proofs.YtdmailcgaekimaaGreat

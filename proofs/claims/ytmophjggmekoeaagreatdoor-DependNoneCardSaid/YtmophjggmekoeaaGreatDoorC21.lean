/- Heads of walks, ends of rounds and calls in short words. -/
import Derived.Test.YtmophjggmekoeaaGreatDoorC18
import Derived.Test.YtmophjggmekoeaaGreatDoorC20
set_option linter.all false
namespace Go.Proofs.YtmophjggmekoeaaGreatDoor
open Go.RowKit
section
variable [Env]
variable {P : Program} {T : Bd} {H : Gy} {f : Nat} {fn : Func} {args γ : List AV} {nt : Nat} {rs : Array ResultVar}
theorem Zs (A:L2) {R:AV→Prop} {d:CC} (hf:P.funcs[f]? =some fn) (hR:∃r,R r) {Q:Prop} (q:Q)
 (hT:Am P T:=by exact Bo) (hm:P.follows .mixedOrders=true:=by exact Cq) (hn:(fn.name== "runtime.NumGoroutine")=false:=by decide)
 (hck:(fn.body.map (Kn A))=some true:=by decide+kernel) (hd:fn.body.bind (Bh A)=some d:=by(simp only[go_sem,reduceIte];rfl))
 (hnt:fn.ntmps=nt:=by(simp only[go_sem]<;>rfl)) (hrs:fn.results=rs:=by(simp only[go_sem]<;>rfl)) (hpa:args.all pb=true:=by exact rfl)
 (e:Hd Q→Hj P T d (kL T rs.toList R) (args++List.replicate (nt-args.length) .any):=by intro q;simp only[LS,Nat.reduceAdd,Nat.reduceSub];refine Zu ?_;exact q.1):Ab P f args R:=A9 A hT hm hf hn hck hd hnt hrs hR hpa (e ⟨q⟩)
theorem Ir (A:L2) {R:AV→Prop} {d:CC} (hf:P.funcs[f]? =some fn) (hR:∃r,R r) {Q:Prop} (q:Q)
 (hT:Am P T:=by exact Bo) (hm:P.follows .mixedOrders=true:=by exact Cq) (hn:(fn.name== "runtime.NumGoroutine")=false:=by decide)
 (hck:(fn.body.map (Kn A))=some true:=by decide+kernel) (hd:fn.body.bind (Bh A)=some d:=by(simp only[go_sem,reduceIte];rfl))
 (hnt:fn.ntmps=nt:=by(simp only[go_sem]<;>rfl)) (hrs:fn.results=rs:=by(simp only[go_sem]<;>rfl)) (hpa:args.all pb=true:=by exact rfl)
 (e:Hd Q→Hj P T d (kL T rs.toList R) (args++List.replicate (nt-args.length) .any):=by intro q;simp only[LS,Nat.reduceAdd,Nat.reduceSub];exact q.1):Ab P f args R:=A9 A hT hm hf hn hck hd hnt hrs hR hpa (e ⟨q⟩)
theorem Zt (A:L2) (E:List Nat) (O:Pr) {K:AV→List AV→Prop} {F:Value→List AV→Prop} {d:CH} (hf:P.funcs[f]? =some fn) {Q:Prop} (q:Q)
 (hT:Am P T:=by exact Bo) (hH:Cl P H:=by exact Dv) (hm:P.follows .mixedOrders=true:=by exact Cq) (hn:(fn.name== "runtime.NumGoroutine")=false:=by decide)
 (hck:(fn.body.map (He T A E O))=some true:=by decide+kernel) (hd:fn.body.bind (Bm A E O)=some d:=by(simp only[go_sem,reduceIte];rfl))
 (hnt:fn.ntmps=nt:=by(simp only[go_sem]<;>rfl)) (hrs:fn.results=rs:=by(simp only[go_sem]<;>rfl)) (hpa:args.all pb=true:=by exact rfl)
 (e:Hd Q→Cd P T H d (hfin T rs.toList (fun r γ'=>∃r' γ'',W1 r r'∧pb r'=true∧Gw γ' γ''∧K r' γ'') (fun v γ'=>∃γ'',Gw γ' γ''∧F v γ'')) γ (args++List.replicate (nt-args.length) .any):=by intro q;simp only[LS,Nat.reduceAdd,Nat.reduceSub];refine Zu ?_;exact q.1):HC P f args γ K F:=HC.weak (B3 A E O hT hH hm hf hn hck hd hnt hrs hpa (e ⟨q⟩))
theorem N7 (A:L2) (E:List Nat) (O:Pr) {K:AV→List AV→Prop} {F:Value→List AV→Prop} {d:CH} (hf:P.funcs[f]? =some fn) {Q:Prop} (q:Q)
 (hT:Am P T:=by exact Bo) (hH:Cl P H:=by exact Dv) (hm:P.follows .mixedOrders=true:=by exact Cq) (hn:(fn.name== "runtime.NumGoroutine")=false:=by decide)
 (hck:(fn.body.map (He T A E O))=some true:=by decide+kernel) (hd:fn.body.bind (Bm A E O)=some d:=by(simp only[go_sem,reduceIte];rfl))
 (hnt:fn.ntmps=nt:=by(simp only[go_sem]<;>rfl)) (hrs:fn.results=rs:=by(simp only[go_sem]<;>rfl)) (hpa:args.all pb=true:=by exact rfl)
 (e:Hd Q→Cd P T H d (hfin T rs.toList (fun r γ'=>∃r' γ'',W1 r r'∧pb r'=true∧Gw γ' γ''∧K r' γ'') (fun v γ'=>∃γ'',Gw γ' γ''∧F v γ'')) γ (args++List.replicate (nt-args.length) .any):=by intro q;simp only[LS,Nat.reduceAdd,Nat.reduceSub];exact q.1):HC P f args γ K F:=HC.weak (B3 A E O hT hH hm hf hn hck hd hnt hrs hpa (e ⟨q⟩))
theorem Zb {xs ys:List AV} {R R':AV→Prop} (c:Ab P f ys R) (k:∀r,R r→R' r) (w:Wk xs ys:=by exact Zv):Ab P f xs R':=(c.wk w).mono k
variable {m : List Bool} {ss : List Nat} {σ σ2 γ2 : List AV} {n : Nat}
theorem Zl {R:Nat→List AV→Prop} (k:Nat) {xs:List AV} (hR:R k xs) (hm:k<n:=by omega) (hw:Wk σ2 (D5 ss xs (I2 m σ)):=by exact Zv):lend m ss R σ n σ2:=Az k xs hm hR hw
theorem Zm {R:Nat→List AV→List AV→Prop} (k:Nat) {xs:List AV} (hR:R k xs γ2) (hm:k<n:=by omega) (hw:Wk σ2 (D5 ss xs (I2 m σ)):=by exact Zv):Aed m ss R σ n γ2 σ2:=Au k xs _ hm hR (hent (Gw.refl _) hw)
theorem wS (i:Nat) (h:i<9223372036854775807:=by omega):IntKind.i64.wrap ((i:Int)+1)=((i+1:Nat):Int):=Eu h
end
theorem eT (a b:Nat) (h:a<b:=by omega):((a:Int)<(b:Int))=True:=eq_true om
theorem eU (a b:Nat) (h:b≤a:=by omega):((a:Int)<(b:Int))=False:=eq_false om
theorem eE (a b:Int) (h:a=b:=by omega):(a=b)=True:=eq_true h
theorem eN (a b:Int) (h:¬a=b:=by omega):(a=b)=False:=eq_false h
end Go.Proofs.YtmophjggmekoeaaGreatDoor

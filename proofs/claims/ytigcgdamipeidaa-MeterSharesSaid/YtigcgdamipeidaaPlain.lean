/- Plain numbers of the layer meter. -/
namespace Go.Proofs.Ytigcgdamipeidaa.Plain
end Go.Proofs.Ytigcgdamipeidaa.Plain
